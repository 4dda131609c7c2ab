/- Plain: points of places and of cells; the cells around a place. No program in sight. -/
import Derived.BigRegion
import Derived.Test.YtdeiofgddhbdaaaGreatHHk
set_option linter.unusedSimpArgs false
set_option linter.unusedVariables false
set_option maxHeartbeats 4000000
set_option maxRecDepth 100000
open Go.RowKit
open Go.Lib (hid)
open Go.Proofs.Tryz
open Go.Value renaming int→vi
open Go.IntKind renaming i64→vk
namespace Go.Proofs.YtdeiofgddhbdaaaGreat
def latF(D:List Bx)(k:Nat):Int×Int:=(D.take k).foldl (fun s q=>(min s.1 q.1,max s.2 q.2.1)) ((gb D 0).1,(gb D 0).2.1)
theorem latF_succ(D:List Bx)(k:Nat)(hk:k<D.length):latF D (k+1)=(min (latF D k).1 (gb D k).1,max (latF D k).2 (gb D k).2.1):=by
 unfold latF;rw[List.take_succ_eq_append_getElem hk,List.foldl_append];simp[gb,hk]
theorem latF_zero(D:List Bx):latF D 0=((gb D 0).1,(gb D 0).2.1):=by simp[latF]
theorem lons_take(D:List Bx)(k:Nat)(hk:k<D.length):spvs ((lons D).take (k+1))=spvs ((lons D).take k)++[vi vk (gb D k).2.2.1,vi vk (gb D k).2.2.2]:=by
 have hk':k<(lons D).length:=by simpa [lons] using hk
 rw[List.take_succ_eq_append_getElem hk'];simp[spvs,spv,lons,gb,hk]
theorem fbounds_any(A:Option Addr)(n c:Nat)(D:List Bx)(w:World)(hr:Reads w w.heap.size 4 A n (bvs D))(h0:0<n)(hn:n≤4000)(hC:OkC (lons D)):
 Calls Tryz.prog 40 #[.slice A n c] w fun e w'=>e=.returned (.agg #[vi vk (latF D n).1,vi vk (latF D n).2,vi vk (rarn (lons D)).1,vi vk (rarn (lons D)).2])∧Below w.heap.size w w':=by
 have hl:D.length=n:=by have:=hr.1;rw[bvs_length] at this;omega
 have HL:=hid hl;have HC:=hid hC;obtain⟨b,off,rfl,hb,x0,x1,x2,x3⟩:=BReads.elem hr h0;have X:Hid (∀W,Below w.heap.size w W→ ∀k,k<n→W.cell? ⟨b,off+k*4,none⟩=some (vi vk (gb D k).1)∧W.cell? ⟨b,off+k*4+1,none⟩=some (vi vk (gb D k).2.1)∧W.cell? ⟨b,off+k*4+2,none⟩=some (vi vk (gb D k).2.2.1)∧W.cell? ⟨b,off+k*4+3,none⟩=some (vi vk (gb D k).2.2.2)):=hid (fun W hW k hk=>by
  obtain⟨b',off',e,hb',y0,y1,y2,y3⟩:=BReads.elem hr hk;cases e
  exact⟨(hW.cell (p:=⟨b,off+k*4,none⟩) hb).trans y0,(hW.cell (p:=⟨b,off+k*4+1,none⟩) hb).trans y1,(hW.cell (p:=⟨b,off+k*4+2,none⟩) hb).trans y2,(hW.cell (p:=⟨b,off+k*4+3,none⟩) hb).trans y3⟩)
 have z0:=latF_zero D;obtain⟨⟨l0,l1⟩,hl0⟩: ∃s,s=latF D 0:=⟨_,rfl⟩;rw[←hl0] at z0;obtain⟨z0,z1⟩:=Prod.mk.inj z0;have HL0:=hid hl0;clear hl0;have y0:=(X.out _ (Below.refl _ _) 0 h0).1;have y1:=(X.out _ (Below.refl _ _) 0 h0).2.1;simp only[Nat.zero_mul,Nat.add_zero] at y0 y1;rw[←z0] at y0;rw[←z1] at y1;clear x0 x1 x2 x3 z0 z1 hr hC hl;obtain⟨iA,hiA,hzA,hz1A,hzbA⟩: ∃i0,Tryz.prog.info? 31=some i0∧i0.zero=some (.agg #[vi vk 0,vi vk 0])∧i0.size=2∧i0.bytes=16:=by
  have h:(Tryz.prog.info? 31).map (fun i=>(i.zero,i.size,i.bytes))=some (some (.agg #[vi vk 0,vi vk 0]),2,16):=by kernel_rfl
  obtain⟨i0,a,b,c,d⟩:=info_parts h;exact⟨i0,a,b,c,d⟩
 have Z0:=hid ((K4.new w 0 0 0 0 40).alloc (.cells #[vi vk l0,vi vk l1,vi vk 0,vi vk 0] 40));have p0:=K4.new (w.alloc (.cells #[vi vk 0,vi vk 0,vi vk 0,vi vk 0] 40)) l0 l1 0 0 40;rw[World.size_alloc] at p0;have P0:=hid p0;clear p0;have B0:=hid ((bl_alloc w (.cells #[vi vk 0,vi vk 0,vi vk 0,vi vk 0] 40)).alloc (by simp) (.cells #[vi vk l0,vi vk l1,vi vk 0,vi vk 0] 40));go_enter func40,ntmps40;go_wp2;clear y0 y1;go_loopw [4,14] (fun s4 i wr=> ∃k:Nat,k≤n∧i=vi vk k∧wr.ownsRow (w.heap.size+2) 31 2 s4 k (spvs ((lons D).take k))∧K4 wr w.heap.size 0 0 0 0∧K4 wr (w.heap.size+1) (latF D k).1 (latF D k).2 0 0∧Below w.heap.size w wr) (fun _ i _=>n-(intOf i).toNat)
 case atStart=>exact⟨0,Nat.zero_le _,rfl,own_nil _ _ _ _,Z0.out,by rw[←HL0.out];exact P0.out,B0.out⟩
 case round=>
  obtain⟨k,hk,rfl,hown,hZ,hP,hbl⟩:=hrel;clear Z0 P0 B0;have HOW:=hid hown;have HZ:=hid hZ;have HP:=hid hP;have HB:=hid hbl;clear hown hZ hP hbl;by_cases hlt:k<n
  · obtain⟨y0,y1,y2,y3⟩:=X.out wr HB.out k hlt
    have hLS:=hid (latF_succ D k (by rw[HL.out];exact hlt));have hTK:=hid (lons_take D k (by rw[HL.out];exact hlt));generalize gb D k=q at*;generalize latF D k=s at*;obtain⟨q0,q1,q2,q3⟩:=q;obtain⟨s0,s1⟩:=s;simp only[] at y0 y1 y2 y3 hLS hTK HP;have PW:=hid (HP.out.alloc (.cells #[vi vk q0,vi vk q1,vi vk q2,vi vk q3] 40));have ZW:=hid (HZ.out.alloc (.cells #[vi vk q0,vi vk q1,vi vk q2,vi vk q3] 40));have OW:=hid (HOW.out.alloc (.cells #[vi vk q0,vi vk q1,vi vk q2,vi vk q3] 40));have hzw:=HB.out.size;have BW:=hid (HB.out.alloc hzw (.cells #[vi vk q0,vi vk q1,vi vk q2,vi vk q3] 40));have NW:=hid (K4.new wr q0 q1 q2 q3 40);have hlp:=HP.out.lt;go_upto_region 6 with (fail)
    clear y0 y1 y2 y3;obtain⟨WA,hWA⟩: ∃WA,wr.alloc (.cells #[vi vk q0,vi vk q1,vi vk q2,vi vk q3] 40)=WA:=⟨_,rfl⟩;rw[hWA] at PW ZW OW BW NW⊢;have hzA:WA.heap.size=wr.heap.size+1:=by rw[←hWA];simp
    clear hWA HOW HZ HP HB;have HZA:=hid hzA;generalize wr.heap.size=ga at*;clear hzA;have hn1: ¬ga=w.heap.size+1:=by omega
    have hn2: ¬w.heap.size+1=ga:=by omega
    obtain⟨pt2,p0,p1,p2,p3,pf0,pf1,-,-⟩:=PW.out;obtain⟨nt2,a0,a1,a2,a3,-,-,-,-⟩:=NW.out;go_region
    clear p0 p1 p2 p3 pf0 pf1 a0 a1 a2 a3 pt2 nt2;have PX:=hid ((PW.out.two (min s0 q0) (max s1 q1)).below (bl_drew (Below.refl _ _)) (by simpa using PW.out.lt));have ZX:=hid (((ZW.out.farB (p:=⟨w.heap.size+1,0,none⟩) so_ (vi vk (min s0 q0))).farB (p:=⟨w.heap.size+1,1,none⟩) so_ (vi vk (max s1 q1))).below (bl_drew (Below.refl _ _)) (by simpa using ZW.out.lt));have NX:=hid (((NW.out.farB (p:=⟨w.heap.size+1,0,none⟩) hn1 (vi vk (min s0 q0))).farB (p:=⟨w.heap.size+1,1,none⟩) hn1 (vi vk (max s1 q1))).below (bl_drew (Below.refl _ _)) (by simpa using NW.out.lt));have BX:=hid (bl_drew ((BW.out.setCell (p:=⟨w.heap.size+1,0,none⟩) (by simp) (vi vk (min s0 q0))).setCell (p:=⟨w.heap.size+1,1,none⟩) (by simp) (vi vk (max s1 q1))));have hzX:(((WA.setCell ⟨w.heap.size+1,0,none⟩ (vi vk (min s0 q0))).setCell ⟨w.heap.size+1,1,none⟩ (vi vk (max s1 q1))).drew).heap.size=ga+1:=by simp;exact HZA.out
    have HZX:=hid hzX;have OX:=hid (own_grown' OW.out (grown_bl (grown_set2 (o:=1) (v:=vi vk (max s1 q1)) (grown_set2 (o:=0) (v:=vi vk (min s0 q0)) (World.grownBy.refl WA (some (w.heap.size+1))))) (bl_drew (Below.refl WA.heap.size _)) (Nat.le_refl _)) (fun q hq e=>by have:=own_base OW.out q hq;cases e;omega));clear hzX HZA PW ZW NW BW OW;generalize ((WA.setCell ⟨w.heap.size+1,0,none⟩ (vi vk (min s0 q0))).setCell ⟨w.heap.size+1,1,none⟩ (vi vk (max s1 q1))).drew=WX at*;obtain⟨nt2,a0,a1,a2,a3,-,-,-,-⟩:=NX.out;go_wp2_with (at_builtin;first
     |(refine wpList_append_any _ rfl (.tmp 36) (.tmp 39) _ rfl (w.heap.size+2) 31 iA _ 2 16 underlying125 hiA hzA hz1A hzbA rfl dc_ _ k (spvs ((lons D).take k)) rfl (OX.out.alloc _) (WX.heap.size+1) (some ⟨WX.heap.size,0,none⟩) 1 1 [vi vk q2,vi vk q3] rfl ⟨rfl,fun _=>⟨_,rfl,by simp,arc_cells WX (q2,q3) _⟩⟩ (by simp[Value.oneCell']) (by simp only[maxLen];omega) om_ (by have:=HZX.out;simp;omega) ?_;intro v7 w7 hown7 hg7 hat7)
     |fail)
    have hzz:=HZX.out;have b7:=((bl_alloc WX (.cells #[vi vk q2,vi vk q3] 31)).mono (show w.heap.size+2≤WX.heap.size by omega)).grown hg7 (by simp;omega) (own_base OX.out);go_roundw
    case rel=>exact⟨k+1,om_,by go_num,by rw[hTK.out];exact hown7,ZX.out.below b7 om_,by rw[hLS.out];exact PX.out.below b7 om_,BX.out.trans (b7.mono om_)⟩
    case measure=>simp[intOf];omega
  · obtain rfl:k=n:=by omega
    have hll:(lons D).length=k:=by rw[show(lons D).length=D.length from List.length_map _,HL.out]
    rw[List.take_of_length_le om_] at HOW;obtain⟨g,cap,hv,hg,hgl⟩:=own_some HOW.out h0;subst hv;have HS:Hid (∀j,j<(lons D).length→wr.cell? ⟨g,0+j*2,none⟩=some (vi vk (gs (lons D) j).1)∧wr.cell? ⟨g,0+j*2+1,none⟩=some (vi vk (gs (lons D) j).2)):=hid (fun j hj=>by
     have hr:=Reads.of_own HOW.out;obtain⟨b',off',e,-,z0,z1⟩:=SReads.elem (D:=lons D) hr (k:=j) om_;cases e
     exact⟨z0,z1⟩)
    have KA:=hid ((fAround_any g 0 k cap (lons D) wr hgl HS.out hll om_ h0 (okA_of HC.out)).mono (R':=fun e w'=>e=.returned (.agg #[vi vk (rarn (lons D)).1,vi vk (rarn (lons D)).2])∧Below wr.heap.size wr w') fun e w' ⟨D',hp,hso,he,hb⟩=>by
     have:=fS_rarn HC.out hp hso;rw[hp.length_eq,hll] at this;rw[this] at he;exact⟨he,hb⟩)
    obtain⟨⟨r0,r1⟩,hr⟩: ∃r,rarn (lons D)=r:=⟨_,rfl⟩;obtain⟨⟨s0,s1⟩,hs⟩: ∃s,latF D k=s:=⟨_,rfl⟩;rw[hr] at KA;rw[hs] at HP;simp only[] at KA HP;have HRS:=hid (And.intro hr hs);clear hr hs;clear HS;go_wp2_with fail;(with_reducible refine KA.out.mono ?_)
    rintro e w4 ⟨rfl,hb4⟩
    have P4:=hid (HP.out.below hb4 HP.out.lt);have Z4:=hid (HZ.out.below hb4 HZ.out.lt);have B4:=hid (HB.out.trans (hb4.mono HB.out.size));clear KA HP HZ HB HOW hb4;obtain⟨pt,p0,p1,p2,p3,pf0,pf1,pf2,pf3⟩:=P4.out;have hn1: ¬w.heap.size=w.heap.size+1:=by omega
    have hn2: ¬w.heap.size+1=w.heap.size:=by omega
    obtain⟨zt,z0,z1,z2,z3,zf0,zf1,zf2,zf3⟩:=Z4.out;go_wp2;refine bodyPost_ret (v:=.agg #[vi vk s0,vi vk s1,vi vk r0,vi vk r1]) (by simp[results,results40,go_sem, *];done) rfl ⟨by rw[HRS.out.1,HRS.out.2],?_⟩;exact bl_put4 ((B4.out.setCell (by simp) _).setCell (by simp) _) (Nat.le_refl _)
theorem okB_bx(x:Cl)(hv:Vl x):OkB (bxI x):=by
 obtain⟨h1,h2,h3,h4,h5,h6,h7,h8⟩:=box_nums hv;constructor<;>(simp only[bxI];omega)
theorem okB_gb{L:List Cl}(hv: ∀x∈L,Vl x){k:Nat}(hk:k<(L.map bxI).length):OkB (gb (L.map bxI) k):=by
 have:gb (L.map bxI) k=bxI (gt L k):=by
  rw[List.length_map] at hk;simp[gb,gt,hk]
 rw[this];rw[List.length_map] at hk;exact okB_bx _ (hv _ (by simp[gt,hk]))
theorem latF_bd{D:List Bx}(hD: ∀k,k<D.length→OkB (gb D k))(h0:0<D.length)(k:Nat)(hk:k≤D.length): -5400000≤(latF D k).1∧(latF D k).1≤5400000∧ -5400000≤(latF D k).2∧(latF D k).2≤5400000:=by
 induction k with
 |zero=>
  obtain⟨a0,a1,a2,-,-,-⟩:=hD 0 h0;rw[latF_zero];simp only[];omega
 |succ k ih=>
  have ih:=ih om_;obtain⟨a0,a1,a2,-,-,-⟩:=hD k om_;rw[latF_succ D k om_];simp only[];omega
noncomputable def bndV (L:List Cl):Bx:=((latF (L.map bxI) L.length).1,(latF (L.map bxI) L.length).2,(rarn (lons (L.map bxI))).1,(rarn (lons (L.map bxI))).2)
theorem bnd_bd{L:List Cl}(hv: ∀x∈L,Vl x)(h0:0<L.length): -5400000≤(bndV L).1∧(bndV L).1≤5400000∧ -5400000≤(bndV L).2.1∧(bndV L).2.1≤5400000∧ -10800000≤(bndV L).2.2.1∧(bndV L).2.2.1≤10800000∧(bndV L).2.2.1≤(bndV L).2.2.2∧(bndV L).2.2.2≤(bndV L).2.2.1+43200000:=by
 have h1:=latF_bd (D:=L.map bxI) (fun k hk=>okB_gb hv hk) (by rw[List.length_map];exact h0) L.length (by rw[List.length_map];exact Nat.le_refl _);have h2:=foldR_bd (lons (L.map bxI)) (okR_of (okC_bx hv)) (lons (L.map bxI)).length (Nat.le_refl _);unfold bndV rarn;simp only[];omega
theorem fBounds_yes(A:Option Addr)(n c:Nat)(L:List Cl)(w:World)(hr:Reads w w.heap.size 3 A n (cvs L))(hn:n≤maxLen)(hv:vrB L=true)(h0:0<n):
 Calls Tryz.prog 16 #[.slice A n c] w fun e w'=>e=.returned (.tuple #[.agg #[vi vk (bndV L).1,vi vk (bndV L).2.1,vi vk (bndV L).2.2.1,vi vk (bndV L).2.2.2],vi vk 0])∧Below w.heap.size w w':=by
 have hlen:(L.map bxI).length=n:=by rw[List.length_map];exact hr.len
 have hll:L.length=n:=hr.len;have hfew:n≤4000:=by rw[←hll];exact((vrB_iff L).1 hv).1
 have KB:=hid (fun W (hW:Below w.heap.size w W)=>boxes_any A n c L W ((hr.below hW).more hW.size) hn);rw[hv] at KB;simp only[if_true] at KB;have KF:=hid (fun(W:World) (A:Option Addr) (c:Nat) (h:Reads W W.heap.size 4 A n (bvs (L.map bxI)))=>fbounds_any A n c (L.map bxI) W h h0 hfew (okC_bx ((vrB_iff L).1 hv).2.1));have HLN:=hid hlen;unfold bndV;rw[hll];clear hr hn hv hfew hlen hll;generalize rarn (lons (L.map bxI))=r at*;generalize latF (L.map bxI) n=s at*;obtain⟨r0,r1⟩:=r;obtain⟨s0,s1⟩:=s;simp only[] at KF⊢;generalize L.map bxI=D at*;have B0:=hid (bl_alloc w (.cells #[vi vk 0,vi vk 0,vi vk 0,vi vk 0] 40));have Z0:=hid (K4.new w 0 0 0 0 40);go_enter func16,ntmps16;go_wp2_with fail;(with_reducible refine(KB.out _ B0.out).mono ?_)
 rintro e w1 ⟨v,rfl,hown,hb1⟩
 rw[HLN.out] at hown;obtain⟨A1,c1,rfl,ra,-,-⟩:=own_form hown;have RA:=hid ra;have Z1:=hid (Z0.out.below hb1 Z0.out.lt);have B1:=hid (B0.out.trans (hb1.mono B0.out.size));clear hown hb1 ra Z0 B0 KB;have hn0: ¬(n:Int)=0:=by omega
 go_wp2_with fail;(with_reducible refine(KF.out _ _ _ RA.out).mono ?_)
 rintro e w2 ⟨rfl,hb2⟩
 have B2:=hid (B1.out.trans (hb2.mono B1.out.size));obtain⟨zt,z0,z1,z2,z3,zf0,zf1,zf2,zf3⟩:=Z1.out.below hb2 Z1.out.lt;go_wp2;refine bodyPost_ret (v:=.tuple #[.agg #[vi vk s0,vi vk s1,vi vk r0,vi vk r1],vi vk 0]) (by simp[results,results16,go_sem, *];done) rfl ⟨rfl,?_⟩;exact bl_put4 B2.out (Nat.le_refl _)
namespace Trig
theorem sth_turn(n k:Int):sth (n+21600000*k)=sth n:=by unfold sth;rw[show(n+21600000*k)%21600000=n%21600000 by omega]
theorem qrt_turn(n k:Int):qrt (n+21600000*k)=qrt n:=by unfold qrt;rw[show(n+21600000*k)%21600000=n%21600000 by omega]
theorem lo_turn(n k:Int):loB (n+21600000*k)=loB n:=by unfold loB;rw[sth_turn,qrt_turn]
theorem hi_turn(n k:Int):hiB (n+21600000*k)=hiB n:=by unfold hiB;rw[sth_turn,qrt_turn]
theorem sth_mirror(n:Int):sth (10800000-n)=sth n:=by
 unfold sth;rw[decide_eq_decide];omega
theorem qrt_mirror(n:Int):qrt (10800000-n)=qrt n:=by
 unfold qrt;omega
theorem lo_mirror(n:Int):loB (10800000-n)=loB n:=by unfold loB;rw[sth_mirror,qrt_mirror]
theorem hi_mirror(n:Int):hiB (10800000-n)=hiB n:=by unfold hiB;rw[sth_mirror,qrt_mirror]
theorem en_has{lo n hi:Int}(h1:lo≤n)(h2:n≤hi):enLo lo hi≤loB n∧hiB n≤enHi lo hi:=by
 have hb:=hi_le n;constructor
 · unfold enLo
   split
   · exact hb.1
   · rename_i hm
     unfold metB at hm;rw[decide_eq_true_eq] at hm;obtain⟨k,hk⟩: ∃k,(lo+5400000)/21600000=k:=⟨_,rfl⟩;have e: ∀x,loB x=loB (x-21600000*k):=fun x=>by
      have:=lo_turn (x-21600000*k) k;rw[show x-21600000*k+21600000*k=x by omega] at this;exact this
     have a1: -5400000<lo-21600000*k:=by omega
     have a2:hi-21600000*k<16200000:=by omega
     rw[e n,e lo,e hi];by_cases c:n-21600000*k≤5400000
     · have:=loB_mono (a:=lo-21600000*k) (b:=n-21600000*k) om_ om_ c
       omega
     · have:=loB_mono (a:=10800000-(hi-21600000*k)) (b:=10800000-(n-21600000*k)) om_ om_ om_
       rw[lo_mirror,lo_mirror] at this;omega
 · unfold enHi
   split
   · exact hb.2.2.2.1
   · rename_i hm
     unfold metB at hm;rw[decide_eq_true_eq] at hm;obtain⟨k,hk⟩: ∃k,(lo+16200000)/21600000=k:=⟨_,rfl⟩;have e: ∀x,hiB x=hiB (x-21600000*k):=fun x=>by
      have:=hi_turn (x-21600000*k) k;rw[show x-21600000*k+21600000*k=x by omega] at this;exact this
     have e2: ∀x,hiB x=hiB (-10800000-x):=fun x=>by
      have h3:=hi_mirror x;have h4:=hi_turn (-10800000-x) 1;rw[show-10800000-x+21600000*1=10800000-x by omega] at h4;rw[←h3,h4]
     have a1: -16200000<lo-21600000*k:=by omega
     have a2:hi-21600000*k<5400000:=by omega
     rw[e n,e lo,e hi];by_cases c: -5400000≤n-21600000*k
     · have:=hiB_mono (a:=n-21600000*k) (b:=hi-21600000*k) c om_ om_
       omega
     · have:=hiB_mono (a:= -10800000-(n-21600000*k)) (b:= -10800000-(lo-21600000*k)) om_ om_ om_
       rw[←e2,←e2] at this;omega
theorem en_sub{lo lo' hi' hi:Int}(h1:lo≤lo')(h2:lo'≤hi')(h3:hi'≤hi):enLo lo hi≤enLo lo' hi'∧enHi lo' hi'≤enHi lo hi:=by
 constructor
 · by_cases hm:metB lo' hi' 16200000=true
   · have hm2:metB lo hi 16200000=true:=by unfold metB at*;rw[decide_eq_true_eq] at*;omega
     unfold enLo;rw[if_pos hm,if_pos hm2];exact Int.le_refl _
   · have a:=(en_has (lo:=lo) (n:=lo') (hi:=hi) h1 om_).1
     have b:=(en_has (lo:=lo) (n:=hi') (hi:=hi) om_ h3).1;conv=>rhs;unfold enLo
     rw[if_neg hm];omega
 · by_cases hm:metB lo' hi' 5400000=true
   · have hm2:metB lo hi 5400000=true:=by unfold metB at*;rw[decide_eq_true_eq] at*;omega
     unfold enHi;rw[if_pos hm,if_pos hm2];exact Int.le_refl _
   · have a:=(en_has (lo:=lo) (n:=lo') (hi:=hi) h1 om_).2
     have b:=(en_has (lo:=lo) (n:=hi') (hi:=hi) om_ h3).2;conv=>lhs;unfold enHi
     rw[if_neg hm];omega
end Trig
namespace Trig
def Wi(x y:Int×Int):Prop:=y.1≤x.1∧x.2≤y.2
theorem Wi.refl(x:Int×Int):Wi x x:=⟨Int.le_refl _,Int.le_refl _⟩
theorem btw{x a y:Int}(c:Int)(h1:x≤a)(h2:a≤y):min (x*c) (y*c)≤a*c∧a*c≤max (x*c) (y*c):=by
 rcases Int.le_total 0 c with hc|hc
 · have e1:=Int.mul_le_mul_of_nonneg_right h1 hc
   have e2:=Int.mul_le_mul_of_nonneg_right h2 hc;omega
 · have e1:=Int.mul_le_mul_of_nonpos_right h1 hc
   have e2:=Int.mul_le_mul_of_nonpos_right h2 hc;omega
theorem corner{x y:Int×Int}{a b:Int}(h1:x.1≤a)(h2:a≤x.2)(h3:y.1≤b)(h4:b≤y.2):
 min (x.1*y.1) (min (x.1*y.2) (min (x.2*y.1) (x.2*y.2)))≤a*b∧a*b≤max (x.1*y.1) (max (x.1*y.2) (max (x.2*y.1) (x.2*y.2))):=by
 have e:=btw b h1 h2;have f:=btw x.1 h3 h4;have g:=btw x.2 h3 h4;rw[Int.mul_comm y.1 x.1,Int.mul_comm y.2 x.1,Int.mul_comm b x.1] at f;rw[Int.mul_comm y.1 x.2,Int.mul_comm y.2 x.2,Int.mul_comm b x.2] at g;omega
theorem mulP_mono{x x' y y':Int×Int}(hx:Wi x x')(hy:Wi y y')(lx:x.1≤x.2)(ly:y.1≤y.2):Wi (mulP x y) (mulP x' y'):=by
 obtain⟨x1,x2⟩:=hx;obtain⟨y1,y2⟩:=hy;have c1:=corner (x:=x') (y:=y') (a:=x.1) (b:=y.1) x1 om_ y1 om_;have c2:=corner (x:=x') (y:=y') (a:=x.1) (b:=y.2) x1 om_ om_ y2;have c3:=corner (x:=x') (y:=y') (a:=x.2) (b:=y.1) om_ x2 y1 om_;have c4:=corner (x:=x') (y:=y') (a:=x.2) (b:=y.2) om_ x2 om_ y2;unfold Wi mulP;simp only[];generalize x.1*y.1=p1 at*;generalize x.1*y.2=p2 at*;generalize x.2*y.1=p3 at*;generalize x.2*y.2=p4 at*;generalize min (x'.1*y'.1) (min (x'.1*y'.2) (min (x'.2*y'.1) (x'.2*y'.2)))=lo at*;generalize max (x'.1*y'.1) (max (x'.1*y'.2) (max (x'.2*y'.1) (x'.2*y'.2)))=hi at*;constructor
 · exact Int.ediv_le_ediv om_ om_
 · have: -hi/1073741824≤ -(max p1 (max p2 (max p3 p4)))/1073741824:=Int.ediv_le_ediv om_ om_
   omega
theorem snP_mono{a b:Int×Int}(h:Wi a b)(hl:a.1≤a.2):Wi (snP a) (snP b):=en_sub h.1 hl h.2
theorem csP_mono{a b:Int×Int}(h:Wi a b)(hl:a.1≤a.2):Wi (csP a) (csP b):=by
 have h1:=h.1;have h2:=h.2;exact en_sub om_ om_ om_
theorem sinT_mono{lat lat' dec lha lha':Int×Int}(h1:Wi lat lat')(l1:lat.1≤lat.2)(h2:Wi lha lha')(l2:lha.1≤lha.2):Wi (sinT lat dec lha) (sinT lat' dec lha'):=by
 have a:=mulP_mono (snP_mono h1 l1) (Wi.refl (snP dec)) (snP_small lat).le (snP_small dec).le;have b:=mulP_mono (csP_mono h1 l1) (Wi.refl (csP dec)) (csP_small lat).le (csP_small dec).le;have c:=mulP_mono b (csP_mono h2 l2) (mulP_small (csP_small lat) (csP_small dec)).le (csP_small lha).le;obtain⟨a1,a2⟩:=a;obtain⟨c1,c2⟩:=c;unfold Wi sinT addP;simp only[];omega
theorem en_turn(lo hi k:Int):enLo (lo+21600000*k) (hi+21600000*k)=enLo lo hi∧enHi (lo+21600000*k) (hi+21600000*k)=enHi lo hi:=by
 have e: ∀x,metB (lo+21600000*k) (hi+21600000*k) x=metB lo hi x:=fun x=>by
  unfold metB;rw[decide_eq_decide];omega
 unfold enLo enHi;rw[e,e,lo_turn,lo_turn,hi_turn,hi_turn];exact⟨rfl,rfl⟩
theorem csP_turn(a:Int×Int)(k:Int):csP (a.1+21600000*k,a.2+21600000*k)=csP a:=by
 have h:=en_turn (a.1+5400000) (a.2+5400000) k;unfold csP;simp only[];rw[show a.1+21600000*k+5400000=a.1+5400000+21600000*k by omega,show a.2+21600000*k+5400000=a.2+5400000+21600000*k by omega,h.1,h.2]
theorem sinT_turn(lat dec lha:Int×Int)(k:Int):sinT lat dec (lha.1+21600000*k,lha.2+21600000*k)=sinT lat dec lha:=by unfold sinT;rw[csP_turn]
theorem cs_pole:csP (5400000,5400000)=(0,0)∧csP (-5400000,-5400000)=(0,0):=by decide+kernel
theorem mulP_zero(y:Int×Int):mulP (0,0) y=(0,0):=by unfold mulP;simp
theorem sinT_pole{a:Int}(h:a=5400000∨a= -5400000)(dec lha lha':Int×Int):sinT (a,a) dec lha=sinT (a,a) dec lha':=by
 have e:csP (a,a)=(0,0):=by
  rcases h with rfl|rfl
  · exact cs_pole.1
  · exact cs_pole.2
 unfold sinT;rw[e,mulP_zero,mulP_zero,mulP_zero]
theorem asn_ex{v:Int}(h: -1073741824≤v): ∃r,IsAsn v r:=by
 have h0:hiB (-5400000)≤v:=by
  have e:=hiB_neg (n:=5400000) om_ om_;rw[loB_poles.2] at e;omega
 have key: ∀N:Nat,N≤10800000→ ∃k:Nat,k≤N∧hiB (-5400000+k)≤v∧(k<N→v<hiB (-5400000+k+1)):=by
  intro N;induction N with
  |zero=>intro _;exact⟨0,Nat.le_refl _,by simpa using h0,fun h=>absurd h om_⟩
  |succ N ih=>
   intro hN;by_cases c:hiB (-5400000+((N+1:Nat):Int))≤v
   · exact⟨N+1,Nat.le_refl _,c,fun h=>absurd h om_⟩
   · obtain⟨k,k1,k2,k3⟩:=ih om_
     refine⟨k,om_,k2,fun hk=>?_⟩;by_cases e:k<N
     · exact k3 e
     · have:k=N:=by omega
       subst this;have e2:(-5400000:Int)+((k+1:Nat):Int)= -5400000+(k:Int)+1:=by omega
       rw[e2] at c;omega
 obtain⟨k,k1,k2,k3⟩:=key 10800000 (Nat.le_refl _);exact⟨-5400000+k,om_,om_,k2,fun h=>k3 om_⟩
theorem asnV_is{v:Int}(h: -1073741824≤v):IsAsn v (asnV v):=by
 obtain⟨r,hr⟩:=asn_ex h;rw[←asn_is hr];exact hr
theorem worked_meets{s:Int×Int}{lo hi:Int}(hs:s.1≤s.2)(h1:s.1≤1073741824)(h2: -1073741824≤s.2)(b0: -5400000≤lo)(b1:lo≤hi)(b2:hi≤5400000)(h3:lo≤asnV (max s.1 (-1073741824)))(h4: -asnV (-(min s.2 1073741824))≤hi):
 (csP (5400000-hi,5400000-lo)).1≤s.2∧s.1≤(csP (5400000-hi,5400000-lo)).2:=by
 have a:=asnV_is (v:=max s.1 (-1073741824)) om_;have b:=asnV_is (v:= -(min s.2 1073741824)) om_;generalize asnV (max s.1 (-1073741824))=r at*;generalize asnV (-(min s.2 1073741824))=t at*;have ar:=a.hi;have br:=b.lo;have br2:=b.hi;have m1:=en_has (lo:=5400000-hi+5400000) (n:=10800000-min r hi) (hi:=5400000-lo+5400000) om_ om_;have m2:=en_has (lo:=5400000-hi+5400000) (n:=10800000-max (-t) lo) (hi:=5400000-lo+5400000) om_ om_;rw[lo_mirror,hi_mirror] at m1 m2;have e1:=(hi_le r).2.2.2.2;have e2:=hiB_neg (n:=t) b.lo b.hi;have e3:=(hi_le t).2.2.2.2;have e4:=loB_mono (a:=min r hi) (b:=r) om_ om_ a.hi;have e5:=hiB_mono (a:= -t) (b:=max (-t) lo) om_ om_ om_;have a1:=a.le;have b3:=b.le;show enLo (5400000-hi+5400000) (5400000-lo+5400000)≤s.2∧s.1≤enHi (5400000-hi+5400000) (5400000-lo+5400000)
 omega
end Trig
section
open Canon
theorem cov_blk{X:List Cl}(q:Nat):covB (X.map blkOf) q=true↔covL X q:=covB_map X q
theorem can_vr{X:List Cl}(hX:AllV X)(hl:X.length≤4000):vrB (canonC (covL X))=true:=
 (vrB_iff _).2 ⟨Nat.le_trans (canonC_len X hX) hl,can_v X hX,canonC_congr (can_cov hX)⟩
theorem ins_can{X Y:List Cl}(hX:AllV X)(hY:AllV Y):insL (canonC (covL X)) (canonC (covL Y))=true↔ ∀q,covL X q→covL Y q:=by
 have e: ∀{Z:List Cl},canonC (covL Z)=regB (covB (Z.map blkOf)):=fun {Z}=>canonC_congr fun q=>(covB_map Z q).symm;rw[e,e,ins_reg];constructor
 · intro h q hq
   exact(cov_blk q).1 (h q (cov_v hX hq) ((cov_blk q).2 hq))
 · intro h q _ hq
   exact(cov_blk q).2 (h q ((cov_blk q).1 hq))
end
section
open Canon
def lonP(a:Sp)(x:Int):Prop:=(x-a.1)%21600000≤a.2-a.1
def inX(p:Bx)(y x:Int):Prop:=p.1≤y∧y≤p.2.1∧lonP (p.2.2.1,p.2.2.2) x
theorem pt_meet{p b:Bx}(hp:VP p)(hb:VP b){y x:Int}(h1:inX p y x)(h2:inX b y x):meetB p b=true:=by
 obtain⟨p0,p1,p2,p3⟩:=p;obtain⟨b0,b1,b2,b3⟩:=b;obtain⟨q1,q2,q3,q4⟩:=hp;obtain⟨r1,r2,r3,r4⟩:=hb;obtain⟨u1,u2,u3⟩:=h1;obtain⟨v1,v2,v3⟩:=h2;unfold VL at q4 r4;unfold lonP at u3 v3;unfold meetB lonM;simp only[Bool.and_eq_true,decide_eq_true_eq] at*;omega
theorem bxI_vp{x:Cl}(hx:Vl x):VP (bxI x):=by
 have h:=bx_facts hx;exact⟨h.2.1,h.1,h.2.2.1,.inr ⟨h.2.2.2.1,h.2.2.2.2.2.2.2,h.2.2.2.2.1,h.2.2.2.2.2.2.1⟩⟩
def nst(a b:Bx):Prop:=b.1≤a.1∧a.2.1≤b.2.1∧b.2.2.1≤a.2.2.1∧a.2.2.2≤b.2.2.2
theorem nst.refl(a:Bx):nst a a:=⟨Int.le_refl _,Int.le_refl _,Int.le_refl _,Int.le_refl _⟩
theorem nst.trans{a b c:Bx}(h:nst a b)(k:nst b c):nst a c:=⟨Int.le_trans k.1 h.1,Int.le_trans h.2.1 k.2.1,Int.le_trans k.2.2.1 h.2.2.1,Int.le_trans h.2.2.2 k.2.2.2⟩
theorem nst_pt{a b:Bx}(h:nst a b)(hb:b.2.2.2-b.2.2.1<21600000){y x:Int}(hx:inX a y x):inX b y x:=by
 obtain⟨h1,h2,h3,h4⟩:=h;obtain⟨u1,u2,u3⟩:=hx;unfold lonP at u3;simp only[] at u3;refine⟨om_,om_,?_⟩;unfold lonP;simp only[];omega
theorem fin_nst: ∀(f:Nat) (c:Cl),Vl c→c.1+(f:Int)=16→ ∀q,covL [c] q→nst (bxI (cellB (0,q))) (bxI c):=by
 intro f;induction f with
 |zero=>
  intro c hc hl q hq;have h1:=(cov_one c q).1 hq;have e:blkOf c=(0,q):=by
   have e1:(blkOf c).1=0:=by show 16-c.1.toNat=0;omega
   rw[spF_blk,spT_blk,e1] at h1;refine Prod.ext e1 ?_;simp only[Nat.pow_zero,Nat.mul_one] at h1;show(blkOf c).2=q
   omega
  have:=cellB_blkOf c hc;rw[e] at this;rw[this];exact nst.refl _
 |succ f ih=>
  intro c hc hl q hq;have h16:c.1<16:=by omega
  obtain⟨d,hd,h1⟩:=(cov_kids hc h16 q).2 hq;have hn:=kid_nest hc h16 hd;have hdl:d.1+(f:Int)=16:=by
   simp only[kidsC,kids,List.mem_cons,List.not_mem_nil,or_false] at hd;rcases hd with rfl|rfl|rfl|rfl<;>(simp only[];omega)
  exact(ih d (kids_vl hc h16 d hd) hdl q ((cov_one d q).2 h1)).trans ⟨hn.1,hn.2.1,hn.2.2.1,hn.2.2.2⟩
theorem fin_in{c:Cl}(hc:Vl c){q:Nat}(h:covL [c] q):nst (bxI (cellB (0,q))) (bxI c):=by
 have h0:=hc.l0;have h1:=hc.l1;exact fin_nst (16-c.1).toNat c hc om_ q h
theorem arn_full{mt:Cl→Bool}{lev:Int}(h16:lev≤16){q:Nat}(hm: ∀d,Vl d→covL [d] q→mt d=true): ∀(f:Nat) (c:Cl),Vl c→c.1+(f:Int)=lev→covL [c] q→covL (arnL mt lev f c) q:=by
 intro f;induction f with
 |zero=>
  intro c hc hl hq;unfold arnL;rw[if_pos (hm c hc hq),if_pos om_];exact hq
 |succ f ih=>
  intro c hc hl hq;unfold arnL;rw[if_pos (hm c hc hq),if_neg om_];have hk:c.1<16:=by omega
  obtain⟨d,hd,h1⟩:=(cov_kids hc hk q).2 hq;have hdl:d.1+(f:Int)=lev:=by
   simp only[kidsC,kids,List.mem_cons,List.not_mem_nil,or_false] at hd;rcases hd with rfl|rfl|rfl|rfl<;>(simp only[];omega)
  obtain⟨z,hz,h2⟩:=ih d (kids_vl hc hk d hd) hdl ((cov_one d q).2 h1);exact⟨z,List.mem_flatMap.2 ⟨d,hd,hz⟩,h2⟩
theorem top_cov{q:Nat}(h:q<2*4^16):covL [(0,0,0)] q∨covL [(0,0,1)] q:=by
 have e0:spF (0,0,0)=0:=by decide
 have e1:spT (0,0,0)=4^16:=by decide+kernel
 have e2:spF (0,0,1)=4^16:=by decide+kernel
 have e3:spT (0,0,1)=2*4^16:=by decide+kernel
 rw[cov_one,cov_one,e0,e1,e2,e3];omega
theorem arnA_full{mt:Cl→Bool}{lev:Int}(h0:0≤lev)(h16:lev≤16){q:Nat}(hq:q<2*4^16)(hm: ∀d,Vl d→covL [d] q→mt d=true):covL (arnA mt lev) q:=by
 unfold arnA;rw[cov_appL];rcases top_cov hq with h|h
 · exact .inl (arn_full h16 hm lev.toNat _ (top_vl 0 om_ om_) so_ h)
 · exact .inr (arn_full h16 hm lev.toNat _ (top_vl 1 om_ om_) so_ h)
theorem arn_pt{p:Bx}(hp:VP p){lev:Int}(h0:0≤lev)(h16:lev≤16){q:Nat}(hq:q<2*4^16){y x:Int}(h1:inX p y x)(h2:inX (bxI (cellB (0,q))) y x):covL (arnA (mtP p) lev) q:=by
 refine arnA_full h0 h16 hq fun d hd hc=>?_;have hf:=bx_facts hd;exact pt_meet hp (bxI_vp hd) h1 (nst_pt (fin_in hd hc) hf.2.2.2.2.2.2.1 h2)
end
end Go.Proofs.YtdeiofgddhbdaaaGreat
