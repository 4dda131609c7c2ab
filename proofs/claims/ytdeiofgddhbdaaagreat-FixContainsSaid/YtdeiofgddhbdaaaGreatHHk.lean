/- The greatest gap between arcs of cells leaves the reference's least longitudes around them (plain). -/
import Derived.Test.YtdeiofgddhbdaaaGreatHPc
set_option linter.unusedSimpArgs false
set_option linter.unusedVariables false
set_option maxHeartbeats 4000000
set_option maxRecDepth 100000
open Go.RowKit
open Go.Lib (hid)
open Go.Proofs.Tryz
open Go.Value renaming int→vi
open Go.IntKind renaming i64→vk
namespace Go.Proofs.YtdeiofgddhbdaaaGreat
def fR(D:List Sp)(k:Nat):Int:=(D.take k).foldl (fun r a=>max r a.2) (gs D 0).2
def fS1(s:Sp×Int×Int)(a:Sp):Sp×Int×Int:=if s.2.1<a.1-s.2.2 then((a.1,a.1+21600000-(a.1-s.2.2)),a.1-s.2.2,max s.2.2 a.2) else(s.1,s.2.1,max s.2.2 a.2)
def fS(D:List Sp)(k:Nat):Sp×Int×Int:=(D.take k).foldl fS1 (((-10800000:Int),(10800000:Int)),(0:Int),fR D D.length-21600000)
theorem fR_succ(D:List Sp)(k:Nat)(hk:k<D.length):fR D (k+1)=max (fR D k) (gs D k).2:=by
 unfold fR;rw[List.take_succ_eq_append_getElem hk,List.foldl_append];simp[gs,hk]
theorem fS_succ(D:List Sp)(k:Nat)(hk:k<D.length):fS D (k+1)=fS1 (fS D k) (gs D k):=by
 unfold fS;rw[List.take_succ_eq_append_getElem hk,List.foldl_append];simp[gs,hk]
theorem okA_gs{D:List Sp}(hD:OkA D){k:Nat}(hk:k<D.length): -10800000≤(gs D k).1∧(gs D k).1≤10800000∧(gs D k).1≤(gs D k).2∧(gs D k).2≤(gs D k).1+21600000:=hD _ (by simp[gs,hk])
theorem fR_bd{D:List Sp}(hD:OkA D)(h0:0<D.length)(k:Nat)(hk:k≤D.length): -10800000≤fR D k∧fR D k≤32400000:=by
 induction k with
 |zero=>have:=okA_gs hD h0;simp[fR];omega
 |succ k ih=>
  have h:=ih om_;have:=okA_gs hD (k:=k) om_;rw[fR_succ D k om_];omega
theorem fS_bd{D:List Sp}(hD:OkA D)(h0:0<D.length)(k:Nat)(hk:k≤D.length): -32400000≤(fS D k).2.2∧(fS D k).2.2≤32400000∧0≤(fS D k).2.1∧(fS D k).2.1≤43200000:=by
 induction k with
 |zero=>have:=fR_bd hD h0 D.length (Nat.le_refl _);simp[fS];omega
 |succ k ih=>
  have h:=ih om_;have:=okA_gs hD (k:=k) om_;rw[fS_succ D k om_];unfold fS1;split
  · simp only[];omega
  · simp only[];omega
theorem fAround_any(b0 off0 n c:Nat)(D:List Sp)(w:World)(hb0:b0<w.heap.size)(hI: ∀j,j<D.length→w.cell? ⟨b0,off0+j*2,none⟩=some (vi vk (gs D j).1)∧w.cell? ⟨b0,off0+j*2+1,none⟩=some (vi vk (gs D j).2))(hl:D.length=n)(hn:n≤100000)(h0:0<n)(hD:OkA D):
 Calls Tryz.prog 76 #[.slice (some ⟨b0,off0,none⟩) n c] w fun e w'=> ∃D':List Sp,D'.Perm D∧(∀i j,i<j→j<D'.length→(gs D' i).1≤(gs D' j).1)∧e=.returned (.agg #[vi vk (fS D' n).1.1,vi vk (fS D' n).1.2])∧Below w.heap.size w w':=by
 have KV:=hid (fun W=>callsIn_wide.1 (values_in Fence.wide 4 trivial rfl (some ⟨b0,off0,none⟩) n c W));have KS:Hid (∀W:World,Below w.heap.size w W→Calls Tryz.prog 113 #[.func (.func 165) #[] #[.pointer (some ⟨W.heap.size,0,none⟩)],.func (.func 115) #[] #[]] (W.alloc (.cells #[.slice (some ⟨b0,off0,none⟩) n c] 125)) fun e w'=> ∃(v:Value) (D':List Sp),e=.returned v∧D'.Perm D∧(∀i j,i<j→j<D'.length→(gs D' i).1≤(gs D' j).1)∧w'.ownsRow (W.alloc (.cells #[.slice (some ⟨b0,off0,none⟩) n c] 125)).heap.size 31 2 v D.length (spvs D')∧Below (W.alloc (.cells #[.slice (some ⟨b0,off0,none⟩) n c] 125)).heap.size (W.alloc (.cells #[.slice (some ⟨b0,off0,none⟩) n c] 125)) w'):=hid (fun W hW=>by
  have hb2:=hW.alloc (by have:=hW.size;omega) (.cells #[.slice (some ⟨b0,off0,none⟩) n c] 125);refine sorted_any W.heap.size b0 off0 c D _ om_ om_ (by simp) (by rw[hl];simp) (by have:=hb2.size;omega) (fun j hj=>⟨(hb2.cell (p:=⟨b0,off0+j*2,none⟩) hb0).trans (hI j hj).1,(hb2.cell (p:=⟨b0,off0+j*2+1,none⟩) hb0).trans (hI j hj).2⟩))
 rw[hl] at KS;have HD:=hid hD;have HL:=hid hl;clear hI hD hl;go_enter func76,ntmps76;go_wp2_with fail;(with_reducible refine(KV.out _).mono ?_)
 rintro e w1 ⟨rfl,rfl⟩
 have B0:Hid (Below w.heap.size w (w.alloc (.cells #[vi vk 0,vi vk 0] 31))):=hid (bl_alloc _ _);have Z0:=hid (K2.new w 0 0 31);have ks1:=KS.out _ B0.out;rw[show(w.alloc (.cells #[vi vk 0,vi vk 0] 31)).heap.size=w.heap.size+1 from World.size_alloc _ _] at ks1;have KS1:=hid ks1;clear ks1;have B1:=hid (B0.out.alloc (by have:=B0.out.size;omega) (.cells #[.slice (some ⟨b0,off0,none⟩) n c] 125));have Z1:=hid (Z0.out.alloc (.cells #[.slice (some ⟨b0,off0,none⟩) n c] 125));clear KS KV B0 Z0;generalize (w.alloc (.cells #[vi vk 0,vi vk 0] 31)).alloc (.cells #[.slice (some ⟨b0,off0,none⟩) n c] 125)=W1 at*;go_wp2_with fail;(with_reducible refine KS1.out.mono ?_)
 rintro e w2 ⟨v,D',rfl,hp,hs,hrow,hb2⟩
 have HP:=hid hp;have HSO:=hid hs;obtain⟨A2,c2,rfl,ra,-,-⟩:=own_form hrow;have HR:=hid ra;have B2:=hid (B1.out.trans (hb2.mono B1.out.size));have Z2:=hid (Z1.out.below hb2 Z1.out.lt);have HD':Hid (OkA D'):=hid (fun x hx=>HD.out x (HP.out.mem_iff.1 hx));have HL':Hid (D'.length=n):=hid (by rw[HP.out.length_eq,HL.out]);clear hp hs hrow hb2 ra B1 Z1 KS1 HD HL;obtain⟨⟨r0,r1⟩,hRR⟩: ∃R,(fS D' n).1=R:=⟨_,rfl⟩;have HRR:=hid hRR;clear hRR;obtain⟨b,off,rfl,hb,x0,x1⟩:=SReads.elem HR.out h0;obtain⟨f0,hf0⟩: ∃f,(gs D' 0).2=f:=⟨_,rfl⟩;rw[hf0] at x1;have HF0:Hid (fR D' 0=f0):=hid (by rw[←hf0];rfl);clear x0 hf0;go_wp2;clear x1;go_loopw [3,20] (fun v i wr=> ∃k:Nat,k≤n∧i=vi vk k∧v=vi vk (fR D' k)∧Below w2.heap.size w2 wr) (fun _ i _=>n-(intOf i).toNat)
 case atStart=>exact⟨0,Nat.zero_le _,rfl,by rw[HF0.out],Below.refl _ _⟩
 case round=>
  obtain⟨k,hk,rfl,rfl,hbr⟩:=hrel;by_cases hlt:k<n
  · obtain⟨b',off',e,hb',x0,x1⟩:=SReads.elem HR.out hlt
    cases e
    have y0:=(hbr.cell (p:=⟨b,off+k*2,none⟩) hb).trans x0;have y1:=(hbr.cell (p:=⟨b,off+k*2+1,none⟩) hb).trans x1;have HF:=hid (fR_succ D' k (by rw[HL'.out];exact hlt));obtain⟨p,hp⟩: ∃p,(gs D' k).1=p:=⟨_,rfl⟩;obtain⟨q,hq⟩: ∃q,(gs D' k).2=q:=⟨_,rfl⟩;rw[hp] at y0;rw[hq] at y1 HF;obtain⟨R,hR⟩: ∃R,fR D' k=R:=⟨_,rfl⟩;rw[hR] at HF;rw[hR];clear x0 x1 hp hq hR;go_wp2;go_roundw
    case rel=>exact⟨k+1,om_,by go_num,by rw[HF.out],hbr.alloc hbr.size _⟩
    case measure=>simp[intOf];omega
  · obtain rfl:k=n:=by omega
    have hfb:=fR_bd HD'.out (by rw[HL'.out];exact h0) k (by rw[HL'.out];exact Nat.le_refl _);have HFS:Hid (fS D' 0=(((-10800000:Int),(10800000:Int)),(0:Int),fR D' k-21600000)):=hid (by rw[←HL'.out];rfl);obtain⟨R,hR⟩: ∃R,fR D' k=R:=⟨_,rfl⟩;rw[hR] at HFS hfb;rw[hR];clear hR;have B3:=hid (B2.out.trans (hbr.mono B2.out.size));have Z3:=hid (Z2.out.below hbr Z2.out.lt);have hz3:=hbr.size;have HBR:=hid hbr;clear hbr;have N3:=hid (K2.new wr (-10800000) 10800000 31);have Z4:=hid (Z3.out.alloc (.cells #[vi vk (-10800000),vi vk 10800000] 31));have B4:=hid (B3.out.alloc B3.out.size (.cells #[vi vk (-10800000),vi vk 10800000] 31));have BR4:=hid (HBR.out.alloc HBR.out.size (.cells #[vi vk (-10800000),vi vk 10800000] 31));clear B3 Z3 HBR;generalize hg6:wr.heap.size=g6 at*;go_wp2;go_loopw [3,7,34] (fun v bst i wq=> ∃j:Nat,j≤k∧i=vi vk j∧v=vi vk (fS D' j).2.2∧bst=vi vk (fS D' j).2.1∧K2 wq w.heap.size 0 0∧K2 wq g6 (fS D' j).1.1 (fS D' j).1.2∧Below w.heap.size w wq∧Below w2.heap.size w2 wq) (fun _ _ i _=>k-(intOf i).toNat)
    case atStart=>exact⟨0,Nat.zero_le _,rfl,by rw[HFS.out],by rw[HFS.out],Z4.out,by rw[HFS.out];exact N3.out,B4.out,BR4.out⟩
    case round=>
     obtain⟨j,hj,rfl,rfl,rfl,hZ,hN,hbq,hbr⟩:=hrel;clear Z4 N3 B4 BR4;have HZ:=hid hZ;have HN:=hid hN;have HBQ:=hid hbq;clear hZ hN hbq;by_cases hjt:j<k
     · obtain⟨b',off',e,hb',x0,x1⟩:=SReads.elem HR.out hjt
       cases e
       have y0:=(hbr.cell (p:=⟨b,off+j*2,none⟩) hb).trans x0;have y1:=(hbr.cell (p:=⟨b,off+j*2+1,none⟩) hb).trans x1;have HF:=hid (fS_succ D' j (by rw[HL'.out];exact hjt));have hfs:=fS_bd HD'.out (by rw[HL'.out];exact h0) j (by rw[HL'.out];omega);have hok:=okA_gs HD'.out (k:=j) (by rw[HL'.out];exact hjt);obtain⟨⟨p,q⟩,hp⟩: ∃p,gs D' j=p:=⟨_,rfl⟩;rw[hp] at y0 y1 HF hok;obtain⟨⟨⟨s0,s1⟩,s2,s3⟩,hs⟩: ∃s,fS D' j=s:=⟨_,rfl⟩;rw[hs] at HF HN hfs;simp only[hs];simp only[] at y0 y1 hok HN hfs;clear x0 x1 hp hs;have HA:=hid (K2.new wr p q 31);have HZ2:=hid (HZ.out.alloc (.cells #[vi vk p,vi vk q] 31));have HN2:=hid (HN.out.alloc (.cells #[vi vk p,vi vk q] 31));have HBQ2:=hid (HBQ.out.alloc HBQ.out.size (.cells #[vi vk p,vi vk q] 31));have HBR2:=hid (hbr.alloc hbr.size (.cells #[vi vk p,vi vk q] 31));obtain⟨nt,n0,n1,nf0,nf1⟩:=HN.out;have hgw:w.heap.size≤g6:=by have:=B2.out.size;omega
       have hne:w.heap.size≠g6:=by have:=Z2.out.lt;omega
       have hlt6:=HN.out.lt;have hn1: ¬g6=wr.heap.size:=by omega
       have hn2: ¬wr.heap.size=g6:=by omega
       by_cases hgap:s2<p-s3
       · have HF2:Hid (fS D' (j+1)=((p,p+21600000-(p-s3)),p-s3,max s3 q)):=hid (by rw[HF.out];unfold fS1;rw[if_pos hgap])
         clear HF;go_wp2;go_roundw
         case rel=>
          refine⟨j+1,om_,by go_num,by rw[HF2.out],by rw[HF2.out],((HZ.out.far hne _).far hne _).alloc _,?_,((HBQ.out.setCell hgw _).setCell hgw _).alloc (by have:=HBQ.out.size;simp;omega) _,((hbr.setCell hz3 _).setCell hz3 _).alloc (by have:=hbr.size;simp;omega) _⟩;rw[HF2.out];exact((HN.out.set0 _).set1 _).alloc _
         case measure=>simp[intOf];omega
       · have HF2:Hid (fS D' (j+1)=((s0,s1),s2,max s3 q)):=hid (by rw[HF.out];unfold fS1;rw[if_neg hgap])
         have hgap':p-s3≤s2:=by omega
         clear HF hgap;go_wp2;go_roundw
         case rel=>exact⟨j+1,om_,by go_num,by rw[HF2.out],by rw[HF2.out],HZ2.out,by rw[HF2.out];exact HN2.out,HBQ2.out,HBR2.out⟩
         case measure=>simp[intOf];omega
     · obtain rfl:j=k:=by omega
       have hres:=HRR.out;obtain⟨⟨⟨s0,s1⟩,s2,s3⟩,hs⟩: ∃s,fS D' j=s:=⟨_,rfl⟩;rw[hs] at HN hres;obtain⟨rfl,rfl⟩:=Prod.mk.inj hres;simp only[hs];simp only[] at HN;obtain⟨zt,z0,z1,zf0,zf1⟩:=HZ.out;obtain⟨nt,n0,n1,-,-⟩:=HN.out;have HS:=hid hs;clear hs hres HRR;go_wp2;refine bodyPost_ret (v:=.agg #[vi vk s0,vi vk s1]) (by simp[results,results76,go_sem, *];done) rfl ⟨D',HP.out,HSO.out,?_,?_⟩
       · rw[HS.out]
       · exact(HBQ.out.setCell (by simp) _).setCell (by simp) _
theorem K4.two{W:World}{g:Nat}{a b c d:Int}(h:K4 W g a b c d)(x y:Int):K4 ((W.setCell ⟨g,0,none⟩ (vi vk x)).setCell ⟨g,1,none⟩ (vi vk y)) g x y c d:=by
 have o: ∀(V:World) (i j:Nat) (v:Value),i≠j→(V.setCell ⟨g,i,none⟩ v).cell? ⟨g,j,none⟩=V.cell? ⟨g,j,none⟩:=fun V i j v hij=>World.cell?_setCell_other _ _ _ _ (fun e=>hij (by injection e));refine⟨by simpa using h.lt,?_,?_,?_,?_,?_,?_,?_,?_⟩
 · rw[o _ 1 0 _ dc_];exact World.cell?_setCell_same _ _ _ h.c0
 · exact World.cell?_setCell_same _ _ _ (by rw[o _ 0 1 _ dc_];exact h.c1)
 · rw[o _ 1 2 _ dc_,o _ 0 2 _ dc_];exact h.c2
 · rw[o _ 1 3 _ dc_,o _ 0 3 _ dc_];exact h.c3
 · rw[World.frozen?_setCell,World.frozen?_setCell];exact h.f0
 · rw[World.frozen?_setCell,World.frozen?_setCell];exact h.f1
 · rw[World.frozen?_setCell,World.frozen?_setCell];exact h.f2
 · rw[World.frozen?_setCell,World.frozen?_setCell];exact h.f3
theorem K4.farB{W:World}{g:Nat}{a b c d:Int}(h:K4 W g a b c d){p:Addr}(hp:g≠p.block)(u:Value):K4 (W.setCell p u) g a b c d:=by
 have hne: ∀i,p≠(⟨g,i,none⟩:Addr):=fun i e=>hp (by rw[e]);refine⟨by simpa using h.lt,?_,?_,?_,?_,?_,?_,?_,?_⟩
 · rw[World.cell?_setCell_other _ _ _ _ (hne 0)];exact h.c0
 · rw[World.cell?_setCell_other _ _ _ _ (hne 1)];exact h.c1
 · rw[World.cell?_setCell_other _ _ _ _ (hne 2)];exact h.c2
 · rw[World.cell?_setCell_other _ _ _ _ (hne 3)];exact h.c3
 · rw[World.frozen?_setCell];exact h.f0
 · rw[World.frozen?_setCell];exact h.f1
 · rw[World.frozen?_setCell];exact h.f2
 · rw[World.frozen?_setCell];exact h.f3
theorem cell_put_same{W:World}{p:Addr}{v:Value}(h:W.cell? p=some v)(q:Addr):(W.setCell p v).cell? q=W.cell? q:=by
 by_cases e:p=q
 · subst e;rw[World.cell?_setCell_same _ _ _ h,h]
 · exact World.cell?_setCell_other _ _ _ _ e
theorem fbounds_one(A:Option Addr)(c:Nat)(q0 q1 q2 q3:Int)(w:World)(hr:Reads w w.heap.size 4 A 1 (bv (q0,q1,q2,q3)))(hD:OkA [(q2,q3)]):
 Calls Tryz.prog 40 #[.slice A 1 c] w fun e w'=>e=.returned (.agg #[vi vk q0,vi vk q1,vi vk (fS [(q2,q3)] 1).1.1,vi vk (fS [(q2,q3)] 1).1.2])∧Below w.heap.size w w':=by
 have HD:=hid hD;obtain⟨b,off,rfl,hb,x0,x1,x2,x3⟩:=BReads.elem (D:=[(q0,q1,q2,q3)]) (by simpa [bvs,bv] using hr) (Nat.zero_lt_one);simp only[Nat.zero_mul,Nat.add_zero] at x0 x1 x2 x3;replace x0:w.cell? ⟨b,off,none⟩=some (vi vk q0):=x0
 replace x1:w.cell? ⟨b,off+1,none⟩=some (vi vk q1):=x1
 replace x2:w.cell? ⟨b,off+2,none⟩=some (vi vk q2):=x2
 replace x3:w.cell? ⟨b,off+3,none⟩=some (vi vk q3):=x3
 clear hr hD;obtain⟨iA,hiA,hzA,hz1A,hzbA⟩: ∃i0,Tryz.prog.info? 31=some i0∧i0.zero=some (.agg #[vi vk 0,vi vk 0])∧i0.size=2∧i0.bytes=16:=by
  have h:(Tryz.prog.info? 31).map (fun i=>(i.zero,i.size,i.bytes))=some (some (.agg #[vi vk 0,vi vk 0]),2,16):=by kernel_rfl
  obtain⟨i0,a,b,c,d⟩:=info_parts h;exact⟨i0,a,b,c,d⟩
 obtain⟨⟨r0,r1⟩,hRR⟩: ∃R,(fS [(q2,q3)] 1).1=R:=⟨_,rfl⟩;have HRR:=hid hRR;simp only[hRR];clear hRR;have Z0:=hid ((K4.new w 0 0 0 0 40).alloc (.cells #[vi vk q0,vi vk q1,vi vk 0,vi vk 0] 40));have P0:=hid (K4.new (w.alloc (.cells #[vi vk 0,vi vk 0,vi vk 0,vi vk 0] 40)) q0 q1 0 0 40);have B0:=hid ((bl_alloc w (.cells #[vi vk 0,vi vk 0,vi vk 0,vi vk 0] 40)).alloc (by simp) (.cells #[vi vk q0,vi vk q1,vi vk 0,vi vk 0] 40));have X:=hid (And.intro x0 (And.intro x1 (And.intro x2 x3)));go_enter func40,ntmps40;go_wp2;clear x0 x1 x2 x3;go_loopw [4,14] (fun s4 i wr=> ∃k:Nat,k≤1∧i=vi vk k∧wr.ownsRow (w.heap.size+2) 31 2 s4 k (spvs ([(q2,q3)].take k))∧K4 wr w.heap.size 0 0 0 0∧K4 wr (w.heap.size+1) q0 q1 0 0∧Below w.heap.size w wr) (fun _ i _=>1-(intOf i).toNat)
 case atStart=>exact⟨0,Nat.zero_le _,rfl,own_nil _ _ _ _,Z0.out,by have:=P0.out;rwa [show(w.alloc (.cells #[vi vk 0,vi vk 0,vi vk 0,vi vk 0] 40)).heap.size=w.heap.size+1 from World.size_alloc _ _] at this,B0.out⟩
 case round=>
  obtain⟨k,hk,rfl,hown,hZ,hP,hbl⟩:=hrel;clear Z0 P0 B0;have HOW:=hid hown;have HZ:=hid hZ;have HP:=hid hP;have HB:=hid hbl;clear hown hZ hP hbl;by_cases hlt:k<1
  · obtain rfl:k=0:=by omega
    have y0:=(HB.out.cell (p:=⟨b,off,none⟩) hb).trans X.out.1;have y1:=(HB.out.cell (p:=⟨b,off+1,none⟩) hb).trans X.out.2.1;have y2:=(HB.out.cell (p:=⟨b,off+2,none⟩) hb).trans X.out.2.2.1;have y3:=(HB.out.cell (p:=⟨b,off+3,none⟩) hb).trans X.out.2.2.2;have PW:=hid (HP.out.alloc (.cells #[vi vk q0,vi vk q1,vi vk q2,vi vk q3] 40));have ZW:=hid (HZ.out.alloc (.cells #[vi vk q0,vi vk q1,vi vk q2,vi vk q3] 40));have OW:=hid (HOW.out.alloc (.cells #[vi vk q0,vi vk q1,vi vk q2,vi vk q3] 40));have hzw:=HB.out.size;have BW:=hid (HB.out.alloc hzw (.cells #[vi vk q0,vi vk q1,vi vk q2,vi vk q3] 40));have NW:=hid (K4.new wr q0 q1 q2 q3 40);have hlp:=HP.out.lt;go_upto_region 6 with (fail)
    clear y0 y1 y2 y3;obtain⟨WA,hWA⟩: ∃WA,wr.alloc (.cells #[vi vk q0,vi vk q1,vi vk q2,vi vk q3] 40)=WA:=⟨_,rfl⟩;rw[hWA] at PW ZW OW BW NW⊢;have hzA:WA.heap.size=wr.heap.size+1:=by rw[←hWA];simp
    clear hWA HOW HZ HP HB;have HZA:=hid hzA;generalize wr.heap.size=ga at*;clear hzA;have hn1: ¬ga=w.heap.size+1:=by omega
    have hn2: ¬w.heap.size+1=ga:=by omega
    obtain⟨pt2,p0,p1,p2,p3,pf0,pf1,-,-⟩:=PW.out;obtain⟨nt2,a0,a1,a2,a3,-,-,-,-⟩:=NW.out;have e1:=fun q=>cell_put_same p0 q;have e2:=fun q=>(cell_put_same ((e1 _).trans p1) q).trans (e1 q);go_cut [14] from 14 to 41 (fun s14 wy=>s14=vi vk ((0:Nat):Int)∧wy=((WA.setCell ⟨w.heap.size+1,0,none⟩ (vi vk q0)).setCell ⟨w.heap.size+1,1,none⟩ (vi vk q1)).drew)
    case first=>
     go_region_held3 (fun w'=>w'.cell? ⟨ga,0,none⟩=some (vi vk q0)∧w'.cell? ⟨ga,1,none⟩=some (vi vk q1)∧w'.cell? ⟨w.heap.size+1,0,none⟩=some (vi vk q0)∧w'.cell? ⟨w.heap.size+1,1,none⟩=some (vi vk q1)) (simp[e1,e2,a0,a1,p0,p1]) (fail)
     all_goals
      try go_wp2_with fail
      go_meet
      case rel=>exact⟨rfl,rfl⟩
    case rest=>
     obtain⟨rfl,rfl⟩:=hcut;clear e1 e2 p0 p1 p2 p3 pf0 pf1 a0 a1 a2 a3 pt2 nt2;have PX:=hid ((PW.out.two q0 q1).below (bl_drew (Below.refl _ _)) (by simpa using PW.out.lt));have ZX:=hid (((ZW.out.farB (p:=⟨w.heap.size+1,0,none⟩) so_ (vi vk q0)).farB (p:=⟨w.heap.size+1,1,none⟩) so_ (vi vk q1)).below (bl_drew (Below.refl _ _)) (by simpa using ZW.out.lt));have NX:=hid (((NW.out.farB (p:=⟨w.heap.size+1,0,none⟩) hn1 (vi vk q0)).farB (p:=⟨w.heap.size+1,1,none⟩) hn1 (vi vk q1)).below (bl_drew (Below.refl _ _)) (by simpa using NW.out.lt));have BX:=hid (bl_drew ((BW.out.setCell (p:=⟨w.heap.size+1,0,none⟩) (by simp) (vi vk q0)).setCell (p:=⟨w.heap.size+1,1,none⟩) (by simp) (vi vk q1)));have hzX:(((WA.setCell ⟨w.heap.size+1,0,none⟩ (vi vk q0)).setCell ⟨w.heap.size+1,1,none⟩ (vi vk q1)).drew).heap.size=ga+1:=by simp;exact HZA.out
     have HZX:=hid hzX;have OX:=hid (own_grown' OW.out (grown_bl (grown_set2 (o:=1) (v:=vi vk q1) (grown_set2 (o:=0) (v:=vi vk q0) (World.grownBy.refl WA (some (w.heap.size+1))))) (bl_drew (Below.refl WA.heap.size _)) (Nat.le_refl _)) (fun q hq e=>by have:=own_base OW.out q hq;cases e;omega));clear hzX HZA PW ZW NW BW OW;generalize ((WA.setCell ⟨w.heap.size+1,0,none⟩ (vi vk q0)).setCell ⟨w.heap.size+1,1,none⟩ (vi vk q1)).drew=WX at*;obtain⟨nt2,a0,a1,a2,a3,-,-,-,-⟩:=NX.out;go_wp2_with (at_builtin;first
      |(refine wpList_append_any _ rfl (.tmp 36) (.tmp 39) _ rfl (w.heap.size+2) 31 iA _ 2 16 underlying125 hiA hzA hz1A hzbA rfl dc_ _ 0 [] rfl (OX.out.alloc _) (WX.heap.size+1) (some ⟨WX.heap.size,0,none⟩) 1 1 [vi vk q2,vi vk q3] rfl ⟨rfl,fun _=>⟨_,rfl,by simp,arc_cells WX (q2,q3) _⟩⟩ (by simp[Value.oneCell']) (by simp[maxLen]) om_ (by have:=HZX.out;simp;omega) ?_;intro v7 w7 hown7 hg7 hat7)
      |fail)
     have hzz:=HZX.out;have b7:=((bl_alloc WX (.cells #[vi vk q2,vi vk q3] 31)).mono (show w.heap.size+2≤WX.heap.size by omega)).grown hg7 (by simp;omega) (own_base OX.out);go_roundw
     case rel=>exact⟨1,Nat.le_refl _,by go_num,by simpa [spvs,spv] using hown7,ZX.out.below b7 om_,PX.out.below b7 om_,BX.out.trans (b7.mono om_)⟩
     case measure=>simp[intOf]
  · obtain rfl:k=1:=by omega
    obtain⟨g,cap,hv,hg,hgl⟩:=own_some HOW.out dc_;subst hv;have HS:Hid (∀j,j<[(q2,q3)].length→wr.cell? ⟨g,0+j*2,none⟩=some (vi vk (gs [(q2,q3)] j).1)∧wr.cell? ⟨g,0+j*2+1,none⟩=some (vi vk (gs [(q2,q3)] j).2)):=hid (fun j hj=>by
     have hr:=Reads.of_own HOW.out;obtain⟨b',off',e,-,z0,z1⟩:=SReads.elem (D:=[(q2,q3)]) hr (k:=j) (by simpa using hj);cases e
     exact⟨z0,z1⟩)
    have KA:=hid ((fAround_any g 0 1 cap [(q2,q3)] wr hgl HS.out rfl dc_ dc_ HD.out).mono (R':=fun e w'=>e=.returned (.agg #[vi vk r0,vi vk r1])∧Below wr.heap.size wr w') fun e w' ⟨D',hp,_,he,hb⟩=>by
     obtain rfl:=List.perm_singleton.1 hp;rw[HRR.out] at he;exact⟨he,hb⟩)
    clear HS;go_wp2_with fail;(with_reducible refine KA.out.mono ?_)
    rintro e w4 ⟨rfl,hb4⟩
    have P4:=hid (HP.out.below hb4 HP.out.lt);have Z4:=hid (HZ.out.below hb4 HZ.out.lt);have B4:=hid (HB.out.trans (hb4.mono HB.out.size));clear KA HP HZ HB HOW hb4;obtain⟨pt,p0,p1,p2,p3,pf0,pf1,pf2,pf3⟩:=P4.out;have hn1: ¬w.heap.size=w.heap.size+1:=by omega
    have hn2: ¬w.heap.size+1=w.heap.size:=by omega
    obtain⟨zt,z0,z1,z2,z3,zf0,zf1,zf2,zf3⟩:=Z4.out;go_wp2;refine bodyPost_ret (v:=.agg #[vi vk q0,vi vk q1,vi vk r0,vi vk r1]) (by simp[results,results40,go_sem, *];done) rfl ⟨rfl,?_⟩;exact bl_put4 ((B4.out.setCell (by simp) _).setCell (by simp) _) (Nat.le_refl _)
def OkC(D:List Sp):Prop:= ∀x∈D,-10800000≤x.1∧x.1<10800000∧x.1≤x.2∧x.2≤10800000
theorem gs_mem{D:List Sp}{k:Nat}(hk:k<D.length):gs D k∈D:=by simp[gs,hk]
theorem mem_gs{D:List Sp}{x:Sp}(hx:x∈D): ∃k,k<D.length∧gs D k=x:=by
 obtain⟨k,hk,e⟩:=List.getElem_of_mem hx;exact⟨k,hk,by simp[gs,hk,e]⟩
theorem wdt_le(D:List Sp)(x m:Int)(k:Nat)(hk:k≤D.length):wdt D x k≤m↔0≤m∧ ∀i,i<k→((gs D i).1-x)%21600000+(gs D i).2-(gs D i).1≤m:=by
 induction k with
 |zero=>simp[wdt]
 |succ k ih=>
  have e:wdt D x (k+1)=max (wdt D x k) (((gs D k).1-x)%21600000+(gs D k).2-(gs D k).1):=by
   unfold wdt;rw[List.take_succ_eq_append_getElem om_,List.foldl_append];simp[gs,show k<D.length by omega]
  rw[e,Int.max_le,ih om_];constructor
  · rintro⟨⟨h0,h1⟩,h2⟩
    refine⟨h0,fun i hi=>?_⟩;by_cases h:i=k
    · rw[h];exact h2
    · exact h1 i om_
  · rintro⟨h0,h1⟩
    exact⟨⟨h0,fun i hi=>h1 i om_⟩,h1 k om_⟩
theorem wdt_all(D:List Sp)(x m:Int):wdt D x D.length≤m↔0≤m∧ ∀a∈D,(a.1-x)%21600000+a.2-a.1≤m:=by
 rw[wdt_le D x m D.length (Nat.le_refl _)];constructor
 · rintro⟨h0,h1⟩
   refine⟨h0,fun a ha=>?_⟩;obtain⟨k,hk,rfl⟩:=mem_gs ha;exact h1 k hk
 · rintro⟨h0,h1⟩
   exact⟨h0,fun i hi=>h1 _ (gs_mem hi)⟩
theorem wdt_perm{D D':List Sp}(h:D'.Perm D)(x:Int):wdt D' x D'.length=wdt D x D.length:=by
 refine Int.le_antisymm ((wdt_all D' x _).2 ?_) ((wdt_all D x _).2 ?_)
 · have:=(wdt_all D x _).1 (Int.le_refl _)
   exact⟨this.1,fun a ha=>this.2 a (h.mem_iff.1 ha)⟩
 · have:=(wdt_all D' x _).1 (Int.le_refl _)
   exact⟨this.1,fun a ha=>this.2 a (h.mem_iff.2 ha)⟩
def Bst(P:Int→Prop)(W:Int→Int)(s:Sp):Prop:=
 ((∀x,P x→21600000≤W x)∧s=(-10800000,10800000))∨(P s.1∧s.2=s.1+W s.1∧W s.1<21600000∧ ∀y,P y→W s.1<W y∨(W s.1=W y∧s.1≤y))
theorem bst_one{P:Int→Prop}{W:Int→Int}{s t:Sp}(hs:Bst P W s)(ht:Bst P W t):s=t:=by
 rcases hs with ⟨h1,h2⟩|⟨h1,h2,h3,h4⟩<;>rcases ht with ⟨k1,k2⟩|⟨k1,k2,k3,k4⟩
 · rw[h2,k2]
 · have:=h1 _ k1;omega
 · have:=k1 _ h1;omega
 · have a:=h4 _ k1
   have b:=k4 _ h1;have e:s.1=t.1:=by omega
   refine Prod.ext e ?_;rw[h2,k2,e]
theorem bst_iff{P Q:Int→Prop}{W:Int→Int}{s:Sp}(h: ∀x,P x↔Q x)(hs:Bst P W s):Bst Q W s:=by
 have e:P=Q:=funext fun x=>propext (h x);rw[←e];exact hs
theorem sgA_in{n:Int}(h0: -10800000≤n)(h1:n<10800000):sgA n=n:=by
 unfold sgA;by_cases h:0≤n
 · rw[show n%21600000=n by omega,if_neg om_]
 · rw[show n%21600000=n+21600000 by omega,if_pos om_];omega
def Beg(D:List Sp)(k:Nat)(x:Int):Prop:= ∃i,i<k∧(gs D i).1=x
theorem rarn_bst{D:List Sp}(hD:OkC D)(k:Nat)(hk:k≤D.length):Bst (Beg D k) (fun x=>wdt D x D.length) (foldR D k):=by
 induction k with
 |zero=>exact .inl ⟨fun x ⟨i,hi,_⟩=>absurd hi (Nat.not_lt_zero _),by simp[foldR]⟩
 |succ k ih=>
  replace ih:=ih om_
  have hg:=hD _ (gs_mem (show k<D.length by omega));rw[foldR_succ D k om_];unfold stepR;rw[sgA_in hg.1 hg.2.1];generalize foldR D k=s at*;generalize hx:(gs D k).1=x at*;have hB: ∀y,Beg D (k+1) y↔Beg D k y∨y=x:=by
   intro y;constructor
   · rintro⟨i,hi,e⟩
     by_cases h:i=k
     · subst h;exact .inr (by rw[←e,hx])
     · exact .inl ⟨i,om_,e⟩
   · rintro(⟨i,hi,e⟩|e)
     · exact⟨i,om_,e⟩
     · exact⟨k,om_,by rw[hx,e]⟩
  simp only[Bst,hB] at ih⊢;generalize hW:(fun x=>wdt D x D.length)=W at*;have hWx:wdt D x D.length=W x:=by rw[←hW]
  have hWs:wdt D s.1 D.length=W s.1:=by rw[←hW]
  have hWy: ∀y,wdt D y D.length=W y:=by intro y;rw[←hW]
  simp only[hWy] at ih⊢;by_cases hc:W x<s.2-s.1∨(W x=s.2-s.1∧W x<21600000∧x<s.1)
  · rw[if_pos hc]
    right
    simp only[];rcases ih with ⟨h1,h2⟩|⟨h1,h2,h3,h4⟩
    · have e1:s.1= -10800000:=by rw[h2]
      have e2:s.2=10800000:=by rw[h2]
      refine⟨.inr trivial,trivial,om_,?_⟩;rintro y (hy|rfl)
      · have:=h1 y hy;omega
      · omega
    · refine⟨.inr trivial,trivial,om_,?_⟩
      rintro y (hy|rfl)
      · have:=h4 y hy;omega
      · omega
  · rw[if_neg hc]
    rcases ih with ⟨h1,h2⟩|⟨h1,h2,h3,h4⟩
    · have e1:s.1= -10800000:=by rw[h2]
      have e2:s.2=10800000:=by rw[h2]
      refine .inl ⟨?_,h2⟩;rintro y (hy|rfl)
      · exact h1 y hy
      · omega
    · refine .inr ⟨.inl h1,h2,h3,?_⟩
      rintro y (hy|rfl)
      · exact h4 y hy
      · omega
theorem fR_le(D:List Sp)(m:Int)(k:Nat)(hk:k≤D.length):fR D k≤m↔(gs D 0).2≤m∧ ∀i,i<k→(gs D i).2≤m:=by
 induction k with
 |zero=>simp[fR]
 |succ k ih=>
  rw[fR_succ D k om_,Int.max_le,ih om_];constructor
  · rintro⟨⟨a,b⟩,c⟩
    refine⟨a,fun i hi=>?_⟩;by_cases h:i=k
    · rw[h];exact c
    · exact b i om_
  · rintro⟨a,b⟩
    exact⟨⟨a,fun i hi=>b i om_⟩,b k om_⟩
theorem fS_le(D:List Sp)(h0:0<D.length)(m:Int)(k:Nat)(hk:k≤D.length):(fS D k).2.2≤m↔(∀i,i<D.length→(gs D i).2-21600000≤m)∧ ∀i,i<k→(gs D i).2≤m:=by
 induction k with
 |zero=>
  have h:(fS D 0).2.2=fR D D.length-21600000:=by simp[fS]
  rw[h];have:=fR_le D (m+21600000) D.length (Nat.le_refl _);constructor
  · intro hm
    have:=this.1 om_;exact⟨fun i hi=>by have:=this.2 i hi;omega,fun i hi=>absurd hi (Nat.not_lt_zero _)⟩
  · rintro⟨a,-⟩
    have:=this.2 ⟨by have:=a 0 h0;omega,fun i hi=>by have:=a i hi;omega⟩;omega
 |succ k ih=>
  have e:(fS D (k+1)).2.2=max (fS D k).2.2 (gs D k).2:=by
   rw[fS_succ D k om_];unfold fS1;split<;>rfl
  rw[e,Int.max_le,ih om_];constructor
  · rintro⟨⟨a,b⟩,c⟩
    refine⟨a,fun i hi=>?_⟩;by_cases h:i=k
    · rw[h];exact c
    · exact b i om_
  · rintro⟨a,b⟩
    exact⟨⟨a,fun i hi=>b i om_⟩,b k om_⟩
theorem gap_first{D:List Sp}(hD:OkC D)(hS: ∀i j,i<j→j<D.length→(gs D i).1≤(gs D j).1)(k:Nat)(hk:k<D.length)(hf: ∀i,i<k→(gs D i).1≠(gs D k).1):
 wdt D (gs D k).1 D.length=21600000-((gs D k).1-(fS D k).2.2):=by
 have hlt: ∀i,i<k→(gs D i).1<(gs D k).1:=fun i hi=>by have:=hS i k hi hk;have:=hf i hi;omega
 have hd:=fun i (hi:i<D.length)=>hD _ (gs_mem hi);generalize hx:(gs D k).1=x at*;have h0:0<D.length:=by omega
 refine Int.le_antisymm ?_ ?_
 · refine(wdt_le D x _ D.length (Nat.le_refl _)).2 ?_
   have hr:=(fS_le D h0 (fS D k).2.2 k om_).1 (Int.le_refl _);have hk2:=hd k hk;have hk3:=hr.1 k hk;refine⟨om_,fun i hi=>?_⟩;have hi2:=hd i hi;by_cases h:i<k
   · have:=hlt i h
     have:=hr.2 i h;rw[show((gs D i).1-x)%21600000=(gs D i).1-x+21600000 by omega];omega
   · have hge:x≤(gs D i).1:=by
      by_cases e:i=k
      · rw[e,hx];exact Int.le_refl _
      · have:=hS k i om_ hi;omega
     have:=hr.1 i hi;rw[show((gs D i).1-x)%21600000=(gs D i).1-x by omega];omega
 · have hw:=(wdt_le D x (wdt D x D.length) D.length (Nat.le_refl _)).1 (Int.le_refl _)
   generalize wdt D x D.length=w at*;have:(fS D k).2.2≤w+x-21600000:=by
    refine(fS_le D h0 _ k om_).2 ⟨fun i hi=>?_,fun i hi=>?_⟩
    · have h1:=hw.2 i hi
      have hi2:=hd i hi;have hk2:=hd k hk;by_cases h:(gs D i).1<x
      · rw[show((gs D i).1-x)%21600000=(gs D i).1-x+21600000 by omega] at h1
        omega
      · rw[show((gs D i).1-x)%21600000=(gs D i).1-x by omega] at h1
        omega
    · have h1:=hw.2 i om_
      have:=hlt i hi;have hi2:=hd i om_;have hk2:=hd k hk;rw[show((gs D i).1-x)%21600000=(gs D i).1-x+21600000 by omega] at h1;omega
   omega
theorem gap_later{D:List Sp}(hD:OkC D)(k i:Nat)(hk:k<D.length)(hi:i<k)(he:(gs D i).1=(gs D k).1):(gs D k).1-(fS D k).2.2≤0:=by
 have:=((fS_le D om_ (fS D k).2.2 k om_).1 (Int.le_refl _)).2 i hi;have:=hD _ (gs_mem (show i<D.length by omega));omega
theorem fS_bst{D:List Sp}(hD:OkC D)(hS: ∀i j,i<j→j<D.length→(gs D i).1≤(gs D j).1)(k:Nat)(hk:k≤D.length):
 Bst (Beg D k) (fun x=>wdt D x D.length) (fS D k).1∧(fS D k).2.1=21600000-((fS D k).1.2-(fS D k).1.1)∧0≤(fS D k).2.1:=by
 induction k with
 |zero=>exact⟨.inl ⟨fun x ⟨i,hi,_⟩=>absurd hi (Nat.not_lt_zero _),by simp[fS]⟩,by simp[fS],by simp[fS]⟩
 |succ k ih=>
  replace ih:=ih om_
  obtain⟨ih,hb,hp⟩:=ih;have hsort: ∀y,Beg D k y→y≤(gs D k).1:=fun y ⟨i,hi,e⟩=>by rw[←e];exact hS i k hi om_
  have key:(∃i,i<k∧(gs D i).1=(gs D k).1)∨wdt D (gs D k).1 D.length=21600000-((gs D k).1-(fS D k).2.2):=by
   by_cases h: ∃i,i<k∧(gs D i).1=(gs D k).1
   · exact .inl h
   · exact .inr (gap_first hD hS k om_ (fun i hi e=>h ⟨i,hi,e⟩))
  have later:=fun i hi he=>gap_later hD k i om_ hi he;rw[fS_succ D k om_];unfold fS1;obtain⟨⟨s,b,r⟩,hs⟩: ∃t,t=fS D k:=⟨_,rfl⟩;rw[←hs] at ih hb hp key later⊢;simp only[] at ih hb hp key later⊢;generalize hx:(gs D k).1=x at*;have hB: ∀y,Beg D (k+1) y↔Beg D k y∨y=x:=by
   intro y;constructor
   · rintro⟨i,hi,e⟩
     by_cases h:i=k
     · subst h;exact .inr (by rw[←e,hx])
     · exact .inl ⟨i,om_,e⟩
   · rintro(⟨i,hi,e⟩|e)
     · exact⟨i,om_,e⟩
     · exact⟨k,om_,by rw[hx,e]⟩
  rcases key with ⟨i,hi,he⟩|key
  · have:=later i hi he
    rw[if_neg om_];simp only[];refine⟨bst_iff (fun y=>?_) ih,hb,hp⟩;rw[hB];exact⟨.inl,fun h=>h.elim id (fun h=>⟨i,hi,by rw[h];exact he⟩)⟩
  · simp only[Bst,hB] at ih⊢
    generalize hW:(fun x=>wdt D x D.length)=W at*;have hWy: ∀y,wdt D y D.length=W y:=by intro y;rw[←hW]
    simp only[hWy] at ih key⊢;by_cases hc:b<x-r
    · rw[if_pos hc]
      simp only[];refine⟨.inr ?_,om_,om_⟩;rcases ih with ⟨h1,h2⟩|⟨h1,h2,h3,h4⟩
      · refine⟨.inr trivial,om_,om_,?_⟩
        rintro y (hy|rfl)
        · have:=h1 y hy;omega
        · omega
      · refine⟨.inr trivial,om_,om_,?_⟩
        rintro y (hy|rfl)
        · have:=h4 y hy;omega
        · omega
    · rw[if_neg hc]
      simp only[];refine⟨?_,hb,hp⟩;rcases ih with ⟨h1,h2⟩|⟨h1,h2,h3,h4⟩
      · have e1:s.1= -10800000:=by rw[h2]
        have e2:s.2=10800000:=by rw[h2]
        refine .inl ⟨?_,h2⟩;rintro y (hy|rfl)
        · exact h1 y hy
        · omega
      · refine .inr ⟨.inl h1,h2,h3,?_⟩
        rintro y (hy|rfl)
        · exact h4 y hy
        · have:=hsort _ h1
          omega
theorem fS_rarn{D D':List Sp}(hD:OkC D)(hp:D'.Perm D)(hS: ∀i j,i<j→j<D'.length→(gs D' i).1≤(gs D' j).1):(fS D' D'.length).1=rarn D:=by
 have hD':OkC D':=fun x hx=>hD x (hp.mem_iff.1 hx);have h1:=(fS_bst hD' hS D'.length (Nat.le_refl _)).1;have h2:=rarn_bst hD D.length (Nat.le_refl _);have e:(fun x=>wdt D' x D'.length)=(fun x=>wdt D x D.length):=funext fun x=>wdt_perm hp x;rw[e] at h1;refine bst_one (bst_iff (fun x=>?_) h1) h2;constructor
 · rintro⟨i,hi,e⟩
   obtain⟨j,hj,e'⟩:=mem_gs (hp.mem_iff.1 (gs_mem hi));exact⟨j,hj,by rw[e',e]⟩
 · rintro⟨i,hi,e⟩
   obtain⟨j,hj,e'⟩:=mem_gs (hp.mem_iff.2 (gs_mem hi));exact⟨j,hj,by rw[e',e]⟩
def lons(D:List Bx):List Sp:=D.map fun q=>q.2.2
theorem okC_bx{L:List Cl}(hv: ∀x∈L,Vl x):OkC (lons (L.map bxI)):=by
 intro a ha;simp only[lons,List.mem_map] at ha;obtain⟨q,⟨x,hx,rfl⟩,rfl⟩:=ha;obtain⟨h1,h2,h3,h4,h5,h6,h7,h8⟩:=box_nums (hv x hx);simp only[bxI];omega
theorem okA_of{D:List Sp}(h:OkC D):OkA D:=fun x hx=>by have:=h x hx;omega
theorem okR_of{D:List Sp}(h:OkC D):OkR D:=fun x hx=>by have:=h x hx;omega
end Go.Proofs.YtdeiofgddhbdaaaGreat
