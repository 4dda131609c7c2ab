/- The walks of the reference's Bounds and Center. -/
import Derived.Test.YtdeiofgddhbdaaaGreatDoorHHp
set_option linter.unusedSimpArgs false
set_option linter.unusedVariables false
set_option maxHeartbeats 4000000
set_option maxRecDepth 100000
open Go.RowKit
open Go.Lib (hid)
open Go.Proofs.Tryz
open Go.Value renaming int→vi
open Go.IntKind renaming i64→vk
namespace Go.Proofs.YtdeiofgddhbdaaaGreatDoor
theorem puAp{p:Prop}(h:p:=by simp only[Act.put,List.setIfInBounds_toArray,List.set_cons_zero,List.set_cons_succ]):p:=h
section
structure RI(W2 w:World)(L:Nat→Bool)(i6 i7 g:Nat)(d0 d1:Int):Prop where
 bl:Below W2.heap.size W2 w
 d7:L i7=true→L i6=true
 lo:L i6=true→W2.heap.size≤g
 z:L i6=true→L i7=false→K2 w g 0 0
 k:L i7=true→K2 w g d0 d1
section
variable {W2 w w':World} {L:Nat→Bool} {i6 i7 g:Nat} {d0 d1:Int}
theorem RI.start(W2:World)(i6 i7:Nat)(d0 d1:Int):RI W2 W2.drew (fun _=>false) i6 i7 0 d0 d1:=
 ⟨bl_drew (Below.refl _ _),nofun,nofun,nofun,nofun⟩
theorem RI.call(h:RI W2 w L i6 i7 g d0 d1)(hb:Below w.heap.size w w'):RI W2 w' L i6 i7 g d0 d1:=
 ⟨h.bl.trans (hb.mono h.bl.size),h.d7,h.lo,fun p q=>(h.z p q).below hb (h.z p q).lt,fun p=>(h.k p).below hb (h.k p).lt⟩
theorem RI.mark(h:RI W2 w L i6 i7 g d0 d1)(i:Nat)(h6: ¬i6=i)(h7: ¬i7=i):RI W2 w (mkd L i) i6 i7 g d0 d1:=by
 constructor
 · exact h.bl
 all_goals simp only[mkd_ne h6,mkd_ne h7]
 · exact h.d7
 · exact h.lo
 · exact h.z
 · exact h.k
theorem RI.al(h:RI W2 w L i6 i7 g d0 d1)(h6:L i6=false)(hne: ¬i7=i6)(t:TypeId):RI W2 (w.alloc (.cells #[vi vk 0,vi vk 0] t)) (mkd L i6) i6 i7 w.heap.size d0 d1:=by
 have n7:L i7=false:=by
  cases e:L i7 with
  |false=>rfl
  |true=>rw[h.d7 e] at h6;cases h6
 constructor
 · exact h.bl.alloc h.bl.size _
 all_goals simp only[mkd_same,mkd_ne hne]
 · exact fun _=>trivial
 · exact fun _=>h.bl.size
 · exact fun _ _=>K2.new w 0 0 t
 · intro p;rw[n7] at p;cases p
theorem RI.st(h:RI W2 w L i6 i7 g d0 d1)(h6:L i6=true)(h7:L i7=false)(hne: ¬i6=i7):RI W2 ((w.setCell ⟨g,0,none⟩ (vi vk d0)).setCell ⟨g,1,none⟩ (vi vk d1)) (mkd L i7) i6 i7 g d0 d1:=by
 have hg:=h.lo h6;have z:=h.z h6 h7;constructor
 · exact(h.bl.setCell hg _).setCell hg _
 all_goals simp only[mkd_same,mkd_ne hne]
 · exact fun _=>h6
 · exact h.lo
 · intro _ p;cases p
 · exact fun _=>(z.set0 d0).set1 d1
end
theorem put_self(a:Act)(i:Nat):a.put (some i) (a.tmps.getD i undef)=a:=by
 cases a with
 |mk t d=>
  have:t.setIfInBounds i (t.getD i undef)=t:=by
   apply Array.ext
   · simp
   · intro j h1 h2
     rw[Array.getElem_setIfInBounds];split
     · rename_i e
       subst e;simp[Array.getD,h2]
     · rfl
  show Act.mk (t.setIfInBounds i (t.getD i undef)) d=_
  rw[this]
def RInv5(W2:World)(A iv:Value)(q:Addr)(x0 x1 x2 q0 q1 q2 q3 p0 p1 d0 d1:Int)(a:Act)(L:Nat→Bool)(a':Act)(w':World):Prop:=
 ∃(v20 v21 v22 v23 v24 v25 v26 v7:Value) (g:Nat),a'=(((((((a.put (some 20) v20).put (some 21) v21).put (some 22) v22).put (some 23) v23).put (some 24) v24).put (some 25) v25).put (some 26) v26).put (some 7) v7∧RI W2 w' L 7 8 g d0 d1∧
  (L 0=true→v20=A)∧(L 1=true→v21=iv)∧(L 2=true→v22=.pointer (some q))∧(L 3=true→v23=.agg #[vi vk x0,vi vk x1,vi vk x2])∧(L 4=true→v24=.agg #[vi vk q0,vi vk q1,vi vk q2,vi vk q3])∧(L 5=true→v25=.agg #[vi vk p0,vi vk p1])∧(L 6=true→v26=.agg #[vi vk d0,vi vk d1])∧(L 7=true→v7=.pointer (some ⟨g,0,none⟩))
theorem RInv5.start(W2:World)(A iv:Value)(q:Addr)(x0 x1 x2 q0 q1 q2 q3 p0 p1 d0 d1:Int)(a:Act):RInv5 W2 A iv q x0 x1 x2 q0 q1 q2 q3 p0 p1 d0 d1 a (fun _=>false) a W2.drew:=
 ⟨_,_,_,_,_,_,_,_,0,by rw[put_self a 20,put_self a 21,put_self a 22,put_self a 23,put_self a 24,put_self a 25,put_self a 26,put_self a 7],RI.start W2 7 8 d0 d1,nofun,nofun,nofun,nofun,nofun,nofun,nofun,nofun⟩
def RInv(W2:World)(A:Value)(q:Addr)(x0 x1 x2 q0 q1 q2 q3 p0 p1 d0 d1:Int)(a:Act)(L:Nat→Bool)(a':Act)(w':World):Prop:=
 ∃(v8 v9 v10 v11 v12 v13 v5:Value) (g:Nat),a'=((((((a.put (some 8) v8).put (some 9) v9).put (some 10) v10).put (some 11) v11).put (some 12) v12).put (some 13) v13).put (some 5) v5∧RI W2 w' L 6 7 g d0 d1∧
  (L 0=true→v8=A)∧(L 1=true→v9=.pointer (some q))∧(L 2=true→v10=.agg #[vi vk x0,vi vk x1,vi vk x2])∧(L 3=true→v11=.agg #[vi vk q0,vi vk q1,vi vk q2,vi vk q3])∧(L 4=true→v12=.agg #[vi vk p0,vi vk p1])∧(L 5=true→v13=.agg #[vi vk d0,vi vk d1])∧(L 6=true→v5=.pointer (some ⟨g,0,none⟩))
theorem RInv.start(W2:World)(A:Value)(q:Addr)(x0 x1 x2 q0 q1 q2 q3 p0 p1 d0 d1:Int)(a:Act):RInv W2 A q x0 x1 x2 q0 q1 q2 q3 p0 p1 d0 d1 a (fun _=>false) a W2.drew:=
 ⟨_,_,_,_,_,_,_,0,by rw[put_self a 8,put_self a 9,put_self a 10,put_self a 11,put_self a 12,put_self a 13,put_self a 5],RI.start W2 6 7 d0 d1,nofun,nofun,nofun,nofun,nofun,nofun,nofun⟩
theorem rRadius_any(A:Option Addr)(n c:Nat)(L0:List Cl)(p0 p1:Int)(w:World)(hr:Reads w w.heap.size 3 A n (cvs L0))(hn:n≤maxLen)(hv:vrB L0=true)(hp:okP (p0,p1)=true)(h0:0<n):
 Calls Tryz.prog 35 #[.slice A n c,.agg #[vi vk p0,vi vk p1]] w fun e w'=>e=.returned (.agg #[vi vk (radF (L0.map bxI) (p0,p1) n).1,vi vk (radF (L0.map bxI) (p0,p1) n).2])∧Below w.heap.size w w':=by
 have HL:Hid ((L0.map bxI).length=n):=hid (by rw[List.length_map];exact hr.len);have HR:=hid hr;have hvl:=((vrB_iff L0).1 hv).2.1;have hfew:n≤4000:=by have:=((vrB_iff L0).1 hv).1;rw[hr.len] at this;exact this
 have hbx: ∀k,k<n→gb (L0.map bxI) k=bxI (gt L0 k):=fun k hk=>by
  have:k<L0.length:=by rw[hr.len];exact hk
  simp[gb,gt,this]
 have KB:Hid (∀k,k<n→ ∀W,Calls Tryz.prog 61 #[.agg #[vi vk (gt L0 k).1,vi vk (gt L0 k).2.1,vi vk (gt L0 k).2.2]] W fun e w'=>e=.returned (.agg #[vi vk (gb (L0.map bxI) k).1,vi vk (gb (L0.map bxI) k).2.1,vi vk (gb (L0.map bxI) k).2.2.1,vi vk (gb (L0.map bxI) k).2.2.2])∧Below W.heap.size W w'):=hid fun k hk W=>by
  have hk':k<L0.length:=by rw[hr.len];exact hk
  have:=refBox_any (gt L0 k).1 (gt L0 k).2.1 (gt L0 k).2.2 W ((vl_iff _).2 (hvl _ (by simp[gt,hk'])));rw[boxV_bx] at this;rw[hbx k hk];exact this
 have KD:=hid (fun k (hk:k<n) W=>Distance_any (gb (L0.map bxI) k) (p0,p1) W (okB_gb hvl (by rw[HL.out];exact hk)) hp);clear hp hv hr hvl hbx;generalize L0.map bxI=D at*;have T0:=hid ((K2.new w p0 p1 50).alloc (.cells #[vi vk 0,vi vk 0] 33));have z0:=K2.new (w.alloc (.cells #[vi vk p0,vi vk p1] 50)) 0 0 33;rw[World.size_alloc] at z0;have Z0:=hid z0;clear z0;have B0:=hid ((bl_alloc w (.cells #[vi vk p0,vi vk p1] 50)).alloc (by simp) (.cells #[vi vk 0,vi vk 0] 33));obtain⟨b,off,rfl,hb,x0,x1,x2⟩:=HR.out.elem h0;have Y0:Hid (∀W,Below w.heap.size w W→ ∀k,k<n→W.cell? ⟨b,off+k*3,none⟩=some (vi vk (gt L0 k).1)∧W.cell? ⟨b,off+k*3+1,none⟩=some (vi vk (gt L0 k).2.1)∧W.cell? ⟨b,off+k*3+2,none⟩=some (vi vk (gt L0 k).2.2)):=hid (fun W hW k hk=>by
  obtain⟨b',off',e,hb',x0,x1,x2⟩:=HR.out.elem hk;cases e
  exact⟨(hW.cell (p:=⟨b,off+k*3,none⟩) hb).trans x0,(hW.cell (p:=⟨b,off+k*3+1,none⟩) hb).trans x1,(hW.cell (p:=⟨b,off+k*3+2,none⟩) hb).trans x2⟩)
 clear x0 x1 x2 HR;go_enter func35,ntmps35;go_upto_region 1 with (fail)
 have hz2:((w.alloc (.cells #[vi vk p0,vi vk p1] 50)).alloc (.cells #[vi vk 0,vi vk 0] 33)).heap.size=w.heap.size+2:=by simp
 generalize (w.alloc (.cells #[vi vk p0,vi vk p1] 50)).alloc (.cells #[vi vk 0,vi vk 0] 33)=W2 at*;have HRAD:=hid (radF_one D (p0,p1) (by rw[HL.out];exact h0));obtain⟨d0',hd0'⟩: ∃d,d=dstV (gb D 0) (p0,p1):=⟨_,rfl⟩;have kb:=KB.out 0 h0;have kd:=KD.out 0 h0;rw[←hd0'] at kd HRAD;obtain⟨x,hx⟩: ∃x,x=gt L0 0:=⟨_,rfl⟩;obtain⟨q,hq⟩: ∃q,q=gb D 0:=⟨_,rfl⟩;rw[←hx,←hq] at kb;rw[←hq] at kd;have hy0:=Y0.out W2 B0.out 0 h0;rw[←hx] at hy0;clear hx hq hd0';obtain⟨xl,xr,xc⟩:=x;obtain⟨q0,q1,q2,q3⟩:=q;obtain⟨d0,d1⟩:=d0';simp only[Nat.zero_mul,Nat.add_zero] at kb kd hy0 HRAD;have kb:=hid kb;have kd:=hid kd;obtain⟨x0,x1,x2⟩:=hy0;have hb2:b<W2.heap.size:=by omega
 refine wp_region_inv2 (by kernel_rfl) (RInv W2 (.slice (some ⟨b,off,none⟩) n c) ⟨b,off,none⟩ xl xr xc q0 q1 q2 q3 p0 p1 d0 d1) (waits_of (by kernel_rfl)) ?start ?step ?fin
 case start=>exact RInv.start W2 _ _ _ _ _ _ _ _ _ _ _ _ _ _
 case step=>
  rintro L i o a1' w' ho hL haf ⟨v8,v9,v10,v11,v12,v13,v5,g,rfl,hT,e0,e1,e2,e3,e4,e5,e6⟩
  have HT:=hid hT;have X0:=(hT.bl.cell (p:=⟨b,off,none⟩) hb2).trans x0;have X1:=(hT.bl.cell (p:=⟨b,off+1,none⟩) hb2).trans x1;have X2:=(hT.bl.cell (p:=⟨b,off+2,none⟩) hb2).trans x2;obtain⟨tt,t0,t1,-,-⟩:=T0.out.below hT.bl T0.out.lt;clear hT x0 x1 x2;have E0:=hid e0;have E1:=hid e1;have E2:=hid e2;have E3:=hid e3;have E4:=hid e4;have E5:=hid e5;have E6:=hid e6;clear e0 e1 e2 e3 e4 e5 e6;rcases i with _|_|_|_|_|_|_|_|i
  all_goals (simp at ho;try subst ho)
  all_goals (try simp[Region.binds] at haf)
  · go_wp2
    unfold RInv;exact⟨(.slice (some ⟨b,off,none⟩) n c),v9,v10,v11,v12,v13,v5,g,puAp,HT.out.mark 0 dc_ dc_,rf_,kq E1,kq E2,kq E3,kq E4,kq E5,kq E6⟩
  · obtain rfl:=E0.out haf
    go_wp2;unfold RInv;exact⟨(.slice (some ⟨b,off,none⟩) n c),(.pointer (some ⟨b,off,none⟩)),v10,v11,v12,v13,v5,g,puAp,HT.out.mark 1 dc_ dc_,rf_,rf_,kq E2,kq E3,kq E4,kq E5,kq E6⟩
  · obtain rfl:=E1.out haf
    go_wp2;unfold RInv;exact⟨v8,(.pointer (some ⟨b,off,none⟩)),(.agg #[vi vk xl,vi vk xr,vi vk xc]),v11,v12,v13,v5,g,puAp,HT.out.mark 2 dc_ dc_,kq E0,rf_,rf_,kq E3,kq E4,kq E5,kq E6⟩
  · obtain rfl:=E2.out haf
    go_wp2_with fail;(with_reducible refine(kb.out _).mono ?_)
    rintro e w9 ⟨rfl,hb9⟩
    go_wp2;unfold RInv;exact⟨v8,v9,(.agg #[vi vk xl,vi vk xr,vi vk xc]),(.agg #[vi vk q0,vi vk q1,vi vk q2,vi vk q3]),v12,v13,v5,g,puAp,(HT.out.call hb9).mark 3 dc_ dc_,kq E0,kq E1,rf_,rf_,kq E4,kq E5,kq E6⟩
  · go_wp2
    unfold RInv;exact⟨v8,v9,v10,v11,(.agg #[vi vk p0,vi vk p1]),v13,v5,g,puAp,HT.out.mark 4 dc_ dc_,kq E0,kq E1,kq E2,kq E3,rf_,kq E5,kq E6⟩
  · obtain rfl:=E3.out haf.1
    obtain rfl:=E4.out haf.2.1;go_wp2_with fail;(with_reducible refine(kd.out _).mono ?_)
    rintro e w9 ⟨rfl,hb9⟩
    go_wp2;unfold RInv;exact⟨v8,v9,v10,(.agg #[vi vk q0,vi vk q1,vi vk q2,vi vk q3]),(.agg #[vi vk p0,vi vk p1]),(.agg #[vi vk d0,vi vk d1]),v5,g,puAp,(HT.out.call hb9).mark 5 dc_ dc_,kq E0,kq E1,kq E2,rf_,rf_,rf_,kq E6⟩
  · go_wp2
    unfold RInv;exact⟨v8,v9,v10,v11,v12,v13,(.pointer (some ⟨w'.heap.size,0,none⟩)),w'.heap.size,puAp,HT.out.al hL dc_ _,kq E0,kq E1,kq E2,kq E3,kq E4,kq E5,rf_⟩
  · obtain rfl:=E6.out haf.1
    obtain rfl:=E5.out haf.2.1;obtain⟨zt,z0,z1,zf0,zf1⟩:=HT.out.z haf.1 hL;have HS:=hid (HT.out.st haf.1 hL dc_);go_wp2;unfold RInv;exact⟨v8,v9,v10,v11,v12,(.agg #[vi vk d0,vi vk d1]),(.pointer (some ⟨g,0,none⟩)),g,puAp,HS.out,kq E0,kq E1,kq E2,kq E3,kq E4,rf_,rf_⟩
 case fin=>
  rintro L a1' w3 hall ⟨v8,v9,v10,v11,v12,v13,v5,g,rfl,hT,e0,e1,e2,e3,e4,e5,e6⟩
  obtain rfl:=e0 (hall 0 dc_);obtain rfl:=e1 (hall 1 dc_);obtain rfl:=e2 (hall 2 dc_);obtain rfl:=e3 (hall 3 dc_);obtain rfl:=e4 (hall 4 dc_);obtain rfl:=e5 (hall 5 dc_);obtain rfl:=e6 (hall 6 dc_);have HN:=hid (hT.k (hall 7 dc_));have hg:=hT.lo (hall 6 dc_);have hgw:w.heap.size+1<g:=by omega
  have HB:=hid (B0.out.trans (hT.bl.mono om_));have HT3:=hid (T0.out.below hT.bl T0.out.lt);have HZ3:=hid (Z0.out.below hT.bl Z0.out.lt);clear hT e0 e1 e2 e3 e4 e5 e6 hall x0 x1 x2 B0 T0 Z0 kb kd hb2;clear hz2;go_wp2;go_loopw [6] (fun i wr=> ∃k:Nat,1≤k∧k≤n∧i=vi vk k∧K2 wr g (radF D (p0,p1) k).1 (radF D (p0,p1) k).2∧K2 wr w.heap.size p0 p1∧K2 wr (w.heap.size+1) 0 0∧Below w.heap.size w wr) (fun i _=>n-(intOf i).toNat)
  case atStart=>exact⟨1,Nat.le_refl _,h0,rfl,by rw[HRAD.out];exact HN.out,HT3.out,HZ3.out,HB.out⟩
  case round=>
   obtain⟨k,hk1,hk,rfl,hN,hT,hZ,hB⟩:=hrel;clear HN HT3 HZ3 HB HRAD;have HN:=hid hN;have HT3:=hid hT;have HZ3:=hid hZ;have HB:=hid hB;clear hN hT hZ hB;by_cases hlt:k<n
   · have HF:=hid (radF_succ D (p0,p1) k (by rw[HL.out];exact hlt))
     obtain⟨d0',hd0'⟩: ∃d,d=dstV (gb D k) (p0,p1):=⟨_,rfl⟩;have kb:=KB.out k hlt;have kd:=KD.out k hlt;rw[←hd0'] at kd HF;obtain⟨x,hx⟩: ∃x,x=gt L0 k:=⟨_,rfl⟩;obtain⟨q,hq⟩: ∃q,q=gb D k:=⟨_,rfl⟩;rw[←hx,←hq] at kb;rw[←hq] at kd;have hy0:=Y0.out wr HB.out k hlt;rw[←hx] at hy0;obtain⟨s,hs⟩: ∃s,s=radF D (p0,p1) k:=⟨_,rfl⟩;rw[←hs] at HF HN;clear hx hq hd0' hs;obtain⟨xl,xr,xc⟩:=x;obtain⟨q0,q1,q2,q3⟩:=q;obtain⟨d0,d1⟩:=d0';obtain⟨s0,s1⟩:=s;simp only[] at kb kd hy0 HF HN;have kb:=hid kb;have kd:=hid kd;obtain⟨x0,x1,x2⟩:=hy0;have hb2:b<wr.heap.size:=by have:=HB.out.size;omega
     go_upto_region 5 with (fail)
     refine wp_region_inv2 (by kernel_rfl) (RInv5 wr (.slice (some ⟨b,off,none⟩) n c) (vi vk k) ⟨b,off+k*3,none⟩ xl xr xc q0 q1 q2 q3 p0 p1 d0 d1) (waits_of (by kernel_rfl)) ?start ?step ?fin
     case start=>exact RInv5.start wr _ _ _ _ _ _ _ _ _ _ _ _ _ _ _
     case step=>
      rintro L i o a1' w' ho hL haf ⟨v20,v21,v22,v23,v24,v25,v26,v7,g,rfl,hT,e0,e1,e2,e3,e4,e5,e6,e7⟩
      have HT:=hid hT;have X0:=(hT.bl.cell (p:=⟨b,off+k*3,none⟩) hb2).trans x0;have X1:=(hT.bl.cell (p:=⟨b,off+k*3+1,none⟩) hb2).trans x1;have X2:=(hT.bl.cell (p:=⟨b,off+k*3+2,none⟩) hb2).trans x2;obtain⟨tt,t0,t1,-,-⟩:=HT3.out.below hT.bl HT3.out.lt;clear hT x0 x1 x2;have E0:=hid e0;have E1:=hid e1;have E2:=hid e2;have E3:=hid e3;have E4:=hid e4;have E5:=hid e5;have E6:=hid e6;have E7:=hid e7;clear e0 e1 e2 e3 e4 e5 e6 e7;rcases i with _|_|_|_|_|_|_|_|_|i
      all_goals (simp at ho;try subst ho)
      all_goals (try simp[Region.binds] at haf)
      · go_wp2
        unfold RInv5;exact⟨(.slice (some ⟨b,off,none⟩) n c),v21,v22,v23,v24,v25,v26,v7,g,puAp,HT.out.mark 0 dc_ dc_,rf_,kq E1,kq E2,kq E3,kq E4,kq E5,kq E6,kq E7⟩
      · go_wp2
        unfold RInv5;exact⟨v20,(vi vk k),v22,v23,v24,v25,v26,v7,g,puAp,HT.out.mark 1 dc_ dc_,kq E0,rf_,kq E2,kq E3,kq E4,kq E5,kq E6,kq E7⟩
      · obtain rfl:=E0.out haf.1
        obtain rfl:=E1.out haf.2;go_wp2;unfold RInv5;exact⟨(.slice (some ⟨b,off,none⟩) n c),(vi vk k),(.pointer (some ⟨b,off+k*3,none⟩)),v23,v24,v25,v26,v7,g,puAp,HT.out.mark 2 dc_ dc_,rf_,rf_,rf_,kq E3,kq E4,kq E5,kq E6,kq E7⟩
      · obtain rfl:=E2.out haf
        go_wp2;unfold RInv5;exact⟨v20,v21,(.pointer (some ⟨b,off+k*3,none⟩)),(.agg #[vi vk xl,vi vk xr,vi vk xc]),v24,v25,v26,v7,g,puAp,HT.out.mark 3 dc_ dc_,kq E0,kq E1,rf_,rf_,kq E4,kq E5,kq E6,kq E7⟩
      · obtain rfl:=E3.out haf
        go_wp2_with fail;(with_reducible refine(kb.out _).mono ?_)
        rintro e w9 ⟨rfl,hb9⟩
        go_wp2;unfold RInv5;exact⟨v20,v21,v22,(.agg #[vi vk xl,vi vk xr,vi vk xc]),(.agg #[vi vk q0,vi vk q1,vi vk q2,vi vk q3]),v25,v26,v7,g,puAp,(HT.out.call hb9).mark 4 dc_ dc_,kq E0,kq E1,kq E2,rf_,rf_,kq E5,kq E6,kq E7⟩
      · go_wp2
        unfold RInv5;exact⟨v20,v21,v22,v23,v24,(.agg #[vi vk p0,vi vk p1]),v26,v7,g,puAp,HT.out.mark 5 dc_ dc_,kq E0,kq E1,kq E2,kq E3,kq E4,rf_,kq E6,kq E7⟩
      · obtain rfl:=E4.out haf.1
        obtain rfl:=E5.out haf.2.1;go_wp2_with fail;(with_reducible refine(kd.out _).mono ?_)
        rintro e w9 ⟨rfl,hb9⟩
        go_wp2;unfold RInv5;exact⟨v20,v21,v22,v23,(.agg #[vi vk q0,vi vk q1,vi vk q2,vi vk q3]),(.agg #[vi vk p0,vi vk p1]),(.agg #[vi vk d0,vi vk d1]),v7,g,puAp,(HT.out.call hb9).mark 6 dc_ dc_,kq E0,kq E1,kq E2,kq E3,rf_,rf_,rf_,kq E7⟩
      · go_wp2
        unfold RInv5;exact⟨v20,v21,v22,v23,v24,v25,v26,(.pointer (some ⟨w'.heap.size,0,none⟩)),w'.heap.size,puAp,HT.out.al hL dc_ _,kq E0,kq E1,kq E2,kq E3,kq E4,kq E5,kq E6,rf_⟩
      · obtain rfl:=E7.out haf.1
        obtain rfl:=E6.out haf.2.1;obtain⟨zt,z0,z1,zf0,zf1⟩:=HT.out.z haf.1 hL;have HS:=hid (HT.out.st haf.1 hL dc_);go_wp2;unfold RInv5;exact⟨v20,v21,v22,v23,v24,v25,(.agg #[vi vk d0,vi vk d1]),(.pointer (some ⟨g,0,none⟩)),g,puAp,HS.out,kq E0,kq E1,kq E2,kq E3,kq E4,kq E5,rf_,rf_⟩
     case fin=>
      rintro L a1' w3 hall ⟨v20,v21,v22,v23,v24,v25,v26,v7,g',rfl,hT,e0,e1,e2,e3,e4,e5,e6,e7⟩
      obtain rfl:=e0 (hall 0 dc_);obtain rfl:=e1 (hall 1 dc_);obtain rfl:=e2 (hall 2 dc_);obtain rfl:=e3 (hall 3 dc_);obtain rfl:=e4 (hall 4 dc_);obtain rfl:=e5 (hall 5 dc_);obtain rfl:=e6 (hall 6 dc_);obtain rfl:=e7 (hall 7 dc_);have HD2:=hid (hT.k (hall 8 dc_));have hg':=hT.lo (hall 7 dc_);have HB4:=hid (HB.out.trans (hT.bl.mono HB.out.size));have HT4:=hid (HT3.out.below hT.bl HT3.out.lt);have HZ4:=hid (HZ3.out.below hT.bl HZ3.out.lt);have HN4:=hid (HN.out.below hT.bl HN.out.lt);have hlg:=HN.out.lt;clear hT e0 e1 e2 e3 e4 e5 e6 e7 hall x0 x1 x2 kb kd HB HT3 HZ3 HN hb2;have hx1: ¬g'=g:=by omega
      have hx2: ¬g=g':=by omega
      obtain⟨nt,n0,n1,nf0,nf1⟩:=HN4.out;obtain⟨dt,y0,y1,-,-⟩:=HD2.out;by_cases c0:s0<d0<;>by_cases c1:s1<d1
      · have d2:decide (s0<d0)=true:=decide_eq_true c0
        have d3:decide (s1<d1)=true:=decide_eq_true c1;go_wp2;go_roundw
        case rel=>exact⟨k+1,om_,om_,by go_num,by rw[HF.out,show max s0 d0=d0 by omega,show max s1 d1=d1 by omega];exact(HN4.out.set0 d0).set1 d1,(HT4.out.far so_ _).far so_ _,(HZ4.out.far so_ _).far so_ _,(HB4.out.setCell so_ _).setCell so_ _⟩
        case measure=>simp[intOf];omega
      · have d2:decide (s0<d0)=true:=decide_eq_true c0
        have d3:decide (s1<d1)=false:=decide_eq_false c1;go_wp2;go_roundw
        case rel=>exact⟨k+1,om_,om_,by go_num,by rw[HF.out,show max s0 d0=d0 by omega,show max s1 d1=s1 by omega];exact HN4.out.set0 d0,HT4.out.far so_ _,HZ4.out.far so_ _,HB4.out.setCell so_ _⟩
        case measure=>simp[intOf];omega
      · have d2:decide (s0<d0)=false:=decide_eq_false c0
        have d3:decide (s1<d1)=true:=decide_eq_true c1;go_wp2;go_roundw
        case rel=>exact⟨k+1,om_,om_,by go_num,by rw[HF.out,show max s0 d0=s0 by omega,show max s1 d1=d1 by omega];exact HN4.out.set1 d1,HT4.out.far so_ _,HZ4.out.far so_ _,HB4.out.setCell so_ _⟩
        case measure=>simp[intOf];omega
      · have d2:decide (s0<d0)=false:=decide_eq_false c0
        have d3:decide (s1<d1)=false:=decide_eq_false c1;go_wp2;go_roundw
        case rel=>exact⟨k+1,om_,om_,by go_num,by rw[HF.out,show max s0 d0=s0 by omega,show max s1 d1=s1 by omega];exact HN4.out,HT4.out,HZ4.out,HB4.out⟩
        case measure=>simp[intOf];omega
   · obtain rfl:k=n:=by omega
     obtain⟨⟨s0,s1⟩,hs⟩: ∃s,radF D (p0,p1) k=s:=⟨_,rfl⟩;rw[hs] at HN;simp only[] at HN;have HS:=hid hs;clear hs;obtain⟨zt,z0,z1,zf0,zf1⟩:=HZ3.out;obtain⟨nt,n0,n1,-,-⟩:=HN.out;go_wp2;refine bodyPost_ret (v:=.agg #[vi vk s0,vi vk s1]) (by simp[results,results35,go_sem, *];done) rfl ⟨by rw[HS.out],?_⟩;exact(HB.out.setCell (by simp) _).setCell (by simp) _
end
theorem tdiv2(a:Int):(0≤Int.tmod a 2∧Int.tdiv a 2=a/2)∨(Int.tmod a 2<0∧Int.tdiv a 2-1=a/2):=by
 have h1:=Int.mul_tdiv_add_tmod a 2;have h3:=Int.tmod_lt_of_pos a (show(0:Int)<2 by decide);have h4:=Int.tmod_lt_of_pos (-a) (show(0:Int)<2 by decide);rw[Int.neg_tmod] at h4;omega
theorem floor05_any(a:Int)(w:World)(h0: -4611686018427387904≤a)(h1:a≤4611686018427387904):Calls Tryz.prog 64 #[vi vk a,vi vk 2] w fun e w'=>e=.returned (vi vk (a/2))∧w'=w:=by
 have hf:=tdiv2 a;have hq: -4611686018427387904≤a/2∧a/2≤4611686018427387904:=by omega
 generalize a/2=q at*;rcases hf with ⟨t0,t1⟩|⟨t0,t1⟩
 · have d:decide (Int.tmod a 2<0)=false:=decide_eq_false om_
   have s2:wrap64 (Int.tdiv a 2)=Int.tdiv a 2:=IntWalk.wrap64_in _ om_;have T:=hid t1;clear t0 t1 hq h0 h1;go_enter func64,ntmps64;go_wp2;go_ret;exact⟨ret_int (by first|exact T.out|(rw[s2];exact T.out)),rfl⟩
 · have d:decide (Int.tmod a 2<0)=true:=decide_eq_true om_
   have s2:wrap64 (Int.tdiv a 2)=Int.tdiv a 2:=IntWalk.wrap64_in _ om_;have s1:wrap64 (Int.tdiv a 2-1)=Int.tdiv a 2-1:=IntWalk.wrap64_in _ om_;have T:=hid t1;clear t0 t1 hq h0 h1;go_enter func64,ntmps64;go_wp2;go_ret;exact⟨ret_int (by first|exact T.out|(rw[s1];exact T.out)),rfl⟩
theorem rBounds_any(A:Option Addr)(n c:Nat)(L:List Cl)(w:World)(hr:Reads w w.heap.size 3 A n (cvs L))(hv:vrB L=true)(h0:0<n):
 Calls Tryz.prog 29 #[.slice A n c] w fun e w'=>e=.returned (.agg #[vi vk (bndV L).1,vi vk (bndV L).2.1,vi vk (bndV L).2.2.1,vi vk (bndV L).2.2.2])∧Below w.heap.size w w':=by
 have hll:L.length=n:=hr.len;have hvl:=((vrB_iff L).1 hv).2.1;have hfew:n≤4000:=by rw[←hll];exact((vrB_iff L).1 hv).1
 have HL:Hid ((L.map bxI).length=n):=hid (by rw[List.length_map];exact hll);have hbx: ∀k,k<n→gb (L.map bxI) k=bxI (gt L k):=fun k hk=>by
  have:k<L.length:=by rw[hll];exact hk
  simp[gb,gt,this]
 have KB:Hid (∀k,k<n→ ∀W,Calls Tryz.prog 61 #[.agg #[vi vk (gt L k).1,vi vk (gt L k).2.1,vi vk (gt L k).2.2]] W fun e w'=>e=.returned (.agg #[vi vk (gb (L.map bxI) k).1,vi vk (gb (L.map bxI) k).2.1,vi vk (gb (L.map bxI) k).2.2.1,vi vk (gb (L.map bxI) k).2.2.2])∧Below W.heap.size W w'):=hid fun k hk W=>by
  have hk':k<L.length:=by rw[hll];exact hk
  have:=refBox_any (gt L k).1 (gt L k).2.1 (gt L k).2.2 W ((vl_iff _).2 (hvl _ (by simp[gt,hk'])));rw[boxV_bx] at this;rw[hbx k hk];exact this
 have HC:=hid (okC_bx hvl);obtain⟨b,off,rfl,hb,x0,x1,x2⟩:=hr.elem h0;have X:Hid (∀W,Below w.heap.size w W→ ∀k,k<n→W.cell? ⟨b,off+k*3,none⟩=some (vi vk (gt L k).1)∧W.cell? ⟨b,off+k*3+1,none⟩=some (vi vk (gt L k).2.1)∧W.cell? ⟨b,off+k*3+2,none⟩=some (vi vk (gt L k).2.2)):=hid (fun W hW k hk=>by
  obtain⟨b',off',e,hb',x0,x1,x2⟩:=hr.elem hk;cases e
  exact⟨(hW.cell (p:=⟨b,off+k*3,none⟩) hb).trans x0,(hW.cell (p:=⟨b,off+k*3+1,none⟩) hb).trans x1,(hW.cell (p:=⟨b,off+k*3+2,none⟩) hb).trans x2⟩)
 clear x0 x1 x2 hr hbx hvl hv;unfold bndV;rw[hll];clear hll;generalize L.map bxI=D at*;have z0:=latF_zero D;have kb0:=hid (KB.out 0 h0);obtain⟨⟨f0,f1,f2,f3⟩,hf⟩: ∃q,gb D 0=q:=⟨_,rfl⟩;rw[hf] at z0 kb0;simp only[] at z0 kb0;have HL0:=hid z0;obtain⟨y0,y1,y2⟩:=X.out _ (bl_alloc w (.cells #[vi vk 0,vi vk 0,vi vk 0,vi vk 0] 46)) 0 h0;simp only[Nat.zero_mul,Nat.add_zero] at y0 y1 y2;generalize gt L 0=x at y0 y1 y2 kb0;obtain⟨xl,xr,xc⟩:=x;simp only[] at y0 y1 y2 kb0;clear z0 hf;obtain⟨iA,hiA,hzA,hz1A,hzbA⟩: ∃i0,Tryz.prog.info? 33=some i0∧i0.zero=some (.agg #[vi vk 0,vi vk 0])∧i0.size=2∧i0.bytes=16:=by
  have h:(Tryz.prog.info? 33).map (fun i=>(i.zero,i.size,i.bytes))=some (some (.agg #[vi vk 0,vi vk 0]),2,16):=by kernel_rfl
  obtain⟨i0,a,b,c,d⟩:=info_parts h;exact⟨i0,a,b,c,d⟩
 have Z0:=hid (K4.new w 0 0 0 0 46);have B0:=hid (bl_alloc w (.cells #[vi vk 0,vi vk 0,vi vk 0,vi vk 0] 46));go_enter func29,ntmps29;go_wp2_with fail;(with_reducible refine(kb0.out _).mono ?_)
 rintro e w1 ⟨rfl,hb1⟩
 have P1:=hid (K4.new w1 f0 f1 f2 f3 46);have Z1:=hid ((Z0.out.below hb1 Z0.out.lt).alloc (.cells #[vi vk f0,vi vk f1,vi vk f2,vi vk f3] 46));have B1:=hid ((B0.out.trans (hb1.mono B0.out.size)).alloc (by have:=B0.out.size;have:=hb1.size;omega) (.cells #[vi vk f0,vi vk f1,vi vk f2,vi vk f3] 46));have hg4:w.heap.size<w1.heap.size:=by have:=Z0.out.lt;have:=hb1.size;omega
 clear y0 y1 y2 hb1 Z0 B0 kb0;generalize hg:w1.heap.size=g4 at*;go_wp2;go_loopw [3,5] (fun s3 i wr=> ∃k:Nat,k≤n∧i=vi vk k∧wr.ownsRow (g4+1) 33 2 s3 k (spvs ((lons D).take k))∧K4 wr w.heap.size 0 0 0 0∧K4 wr g4 (latF D k).1 (latF D k).2 f2 f3∧Below w.heap.size w wr) (fun _ i _=>n-(intOf i).toNat)
 case atStart=>exact⟨0,Nat.zero_le _,rfl,own_nil _ _ _ _,Z1.out,by rw[HL0.out];exact P1.out,B1.out⟩
 case round=>
  obtain⟨k,hk,rfl,hown,hZ,hP,hbl⟩:=hrel;clear Z1 P1 B1;have HOW:=hid hown;have HZ:=hid hZ;have HP:=hid hP;have HB:=hid hbl;clear hown hZ hP hbl;by_cases hlt:k<n
  · obtain⟨y0,y1,y2⟩:=X.out wr HB.out k hlt
    have hLS:=hid (latF_succ D k (by rw[HL.out];exact hlt));have hTK:=hid (lons_take D k (by rw[HL.out];exact hlt));have kb:=hid (KB.out k hlt);generalize gb D k=q at*;generalize latF D k=s at*;generalize gt L k=x at y0 y1 y2 kb;obtain⟨xl,xr,xc⟩:=x;obtain⟨q0,q1,q2,q3⟩:=q;obtain⟨s0,s1⟩:=s;simp only[] at y0 y1 y2 kb hLS hTK HP;have KH:=hid (fun W=>Hull_any s0 s1 q0 q1 W);go_wp2_with fail;(with_reducible refine(kb.out _).mono ?_)
    rintro e w2 ⟨rfl,hb2⟩
    have hz2:=hb2.size;have hzr:=HB.out.size;have hlp:=HP.out.lt;have PW:=hid ((HP.out.below hb2 hlp).alloc (.cells #[vi vk q0,vi vk q1,vi vk q2,vi vk q3] 46));have ZW:=hid ((HZ.out.below hb2 HZ.out.lt).alloc (.cells #[vi vk q0,vi vk q1,vi vk q2,vi vk q3] 46));have OW:=hid ((own_bl HOW.out hb2 (Nat.le_refl _)).alloc (.cells #[vi vk q0,vi vk q1,vi vk q2,vi vk q3] 46));have BW:=hid ((HB.out.trans (hb2.mono hzr)).alloc om_ (.cells #[vi vk q0,vi vk q1,vi vk q2,vi vk q3] 46));have NW:=hid (K4.new w2 q0 q1 q2 q3 46);have hga:g4<w2.heap.size:=by omega
    clear y0 y1 y2 hb2 HOW HZ HP HB kb;obtain⟨pt,p0,p1,p2,p3,-,-,-,-⟩:=PW.out;go_wp2_with fail;(with_reducible refine(KH.out _).mono ?_)
    rintro e w3 ⟨rfl,hb3⟩
    clear pt p0 p1 p2 p3;have hz3:=hb3.size;rw[World.size_alloc] at hz3;have PX:=hid (PW.out.below hb3 PW.out.lt);have ZX:=hid (ZW.out.below hb3 ZW.out.lt);have NX:=hid (NW.out.below hb3 NW.out.lt);have OX:=hid (own_bl OW.out hb3 (Nat.le_refl _));have BX:=hid (BW.out.trans (hb3.mono BW.out.size));clear hb3 PW ZW NW OW BW KH;generalize w2.heap.size=ga at*;obtain⟨pt,p0,p1,p2,p3,pf0,pf1,-,-⟩:=PX.out;go_upto_region 8 with (fail)
    clear pt p0 p1 p2 p3 pf0 pf1;have PY:=hid (PX.out.two (min s0 q0) (max s1 q1));have ZY:=hid ((ZX.out.farB (p:=⟨g4,0,none⟩) so_ (vi vk (min s0 q0))).farB (p:=⟨g4,1,none⟩) so_ (vi vk (max s1 q1)));have NY:=hid ((NX.out.farB (p:=⟨g4,0,none⟩) so_ (vi vk (min s0 q0))).farB (p:=⟨g4,1,none⟩) so_ (vi vk (max s1 q1)));have BY:=hid ((BX.out.setCell (p:=⟨g4,0,none⟩) so_ (vi vk (min s0 q0))).setCell (p:=⟨g4,1,none⟩) so_ (vi vk (max s1 q1)));have OY:=hid (own_grown' OX.out (grown_set2 (o:=1) (v:=vi vk (max s1 q1)) (grown_set2 (o:=0) (v:=vi vk (min s0 q0)) (World.grownBy.refl w3 (some g4)))) (fun q hq e=>by have:=own_base OX.out q hq;cases e;omega));clear PX ZX NX BX OX;generalize (w3.setCell ⟨g4,0,none⟩ (vi vk (min s0 q0))).setCell ⟨g4,1,none⟩ (vi vk (max s1 q1))=WX at*;obtain⟨nt2,a0,a1,a2,a3,-,-,-,-⟩:=NY.out;go_wp2_with (at_builtin;first
     |(refine wpList_append_any _ rfl (.tmp 28) (.tmp 31) _ rfl (g4+1) 33 iA _ 2 16 underlying102 hiA hzA hz1A hzbA rfl dc_ _ k (spvs ((lons D).take k)) rfl (OY.out.alloc _) (WX.heap.size+1) (some ⟨WX.heap.size,0,none⟩) 1 1 [vi vk q2,vi vk q3] rfl ⟨rfl,fun _=>⟨_,rfl,by simp,arc_cells WX (q2,q3) _⟩⟩ (by simp[Value.oneCell']) (by simp only[maxLen];omega) om_ (by simp;omega) ?_;intro v7 w7 hown7 hg7 hat7)
     |fail)
    have b7:=((bl_alloc WX (.cells #[vi vk q2,vi vk q3] 33)).mono (show g4+1≤WX.heap.size by omega)).grown hg7 (by simp;omega) (own_base OY.out);go_roundw
    case rel=>exact⟨k+1,om_,by go_num,by rw[hTK.out];exact hown7,ZY.out.below b7 om_,by rw[hLS.out];exact PY.out.below b7 om_,BY.out.trans (b7.mono om_)⟩
    case measure=>simp[intOf];omega
  · obtain rfl:k=n:=by omega
    have hll:(lons D).length=k:=by rw[show(lons D).length=D.length from List.length_map _,HL.out]
    rw[List.take_of_length_le om_] at HOW;obtain⟨A3,c3,rfl,ra,-,-⟩:=own_form HOW.out;have KA:=hid (around08_any A3 k c3 (lons D) wr ra om_ (okR_of HC.out));obtain⟨⟨r0,r1⟩,hr⟩: ∃r,rarn (lons D)=r:=⟨_,rfl⟩;obtain⟨⟨s0,s1⟩,hs⟩: ∃s,latF D k=s:=⟨_,rfl⟩;rw[hr] at KA;rw[hs] at HP;simp only[] at KA HP;have HRS:=hid (And.intro hr hs);clear hr hs;clear ra HOW;go_wp2_with fail;(with_reducible refine KA.out.mono ?_)
    rintro e w4 ⟨rfl,hb4⟩
    have P4:=hid (HP.out.below hb4 HP.out.lt);have Z4:=hid (HZ.out.below hb4 HZ.out.lt);have B4:=hid (HB.out.trans (hb4.mono HB.out.size));clear KA HP HZ HB hb4;obtain⟨pt,p0,p1,p2,p3,pf0,pf1,pf2,pf3⟩:=P4.out;have hn1: ¬w.heap.size=g4:=by omega
    have hn2: ¬g4=w.heap.size:=by omega
    obtain⟨zt,z0,z1,z2,z3,zf0,zf1,zf2,zf3⟩:=Z4.out;go_wp2;refine bodyPost_ret (v:=.agg #[vi vk s0,vi vk s1,vi vk r0,vi vk r1]) (by simp[results,results29,go_sem, *];done) rfl ⟨by rw[HRS.out.1,HRS.out.2],?_⟩;exact bl_put4 ((B4.out.setCell so_ _).setCell so_ _) (Nat.le_refl _)
theorem rCenter_any(A:Option Addr)(n c:Nat)(L:List Cl)(w:World)(hr:Reads w w.heap.size 3 A n (cvs L))(hv:vrB L=true)(h0:0<n):
 Calls Tryz.prog 30 #[.slice A n c] w fun e w'=>e=.returned (.agg #[vi vk (cenV L).1,vi vk (cenV L).2])∧Below w.heap.size w w':=by
 have KB:=hid (fun W (hW:Below w.heap.size w W)=>rBounds_any A n c L W ((hr.below hW).more hW.size) hv h0);have hbd:=bnd_bd ((vrB_iff L).1 hv).2.1 (by rw[hr.len];exact h0);unfold cenV;generalize bndV L=q at*;obtain⟨l0,l1,r0,r1⟩:=q;simp only[] at KB hbd⊢;have KS:=hid (fun W=>sgn05_any ((r0+r1)/2) W);have KF1:=hid (fun W=>floor05_any (l0+l1) W om_ om_);have KF2:=hid (fun W=>floor05_any (r0+r1) W om_ om_);generalize sgA ((r0+r1)/2)=sg at*;have n0:wrap64 (l0+l1)=l0+l1:=IntWalk.wrap64_in _ om_;have n1:wrap64 (r0+r1)=r0+r1:=IntWalk.wrap64_in _ om_;have m0:IntKind.i64.wrap (l0+l1)=l0+l1:=by rw[IntKind.wrap_i64];omega
 have m1:IntKind.i64.wrap (r0+r1)=r0+r1:=by rw[IntKind.wrap_i64];omega
 generalize (l0+l1)/2=f1 at*;generalize (r0+r1)/2=f2 at*;clear hr hv hbd;have B0:=hid (bl_alloc w (.cells #[vi vk 0,vi vk 0] 50));have Z0:=hid (K2.new w 0 0 50);go_enter func30,ntmps30;go_wp2_with fail;(with_reducible refine(KB.out _ B0.out).mono ?_)
 rintro e w1 ⟨rfl,hb1⟩
 have Z1:=hid ((Z0.out.below hb1 Z0.out.lt).alloc (.cells #[vi vk l0,vi vk l1,vi vk r0,vi vk r1] 46));have hz1:=hb1.size;have B1:=hid ((B0.out.trans (hb1.mono B0.out.size)).alloc (by have:=B0.out.size;omega) (.cells #[vi vk l0,vi vk l1,vi vk r0,vi vk r1] 46));have P1:=hid (K4.new w1 l0 l1 r0 r1 46);go_upto_region 2 with (fail)
 obtain⟨W1,hW1⟩: ∃W1,w1.alloc (.cells #[vi vk l0,vi vk l1,vi vk r0,vi vk r1] 46)=W1:=⟨_,rfl⟩;rw[hW1] at Z1 B1 P1⊢;have hlt0:w.heap.size<w1.heap.size:=by have:=B0.out.size;have:=Z0.out.lt;omega
 clear hW1 Z0 B0 KB hb1 hz1;generalize w1.heap.size=ga at*;have hn1: ¬w.heap.size=ga:=by omega
 have hn2: ¬ga=w.heap.size:=by omega
 obtain⟨pt,p0,p1,p2,p3,-,-,-,-⟩:=P1.out;go_region_held3 (fun w'=>w'.cell? ⟨ga,0,none⟩=some (vi vk l0)∧w'.cell? ⟨ga,1,none⟩=some (vi vk l1)∧w'.cell? ⟨ga,2,none⟩=some (vi vk r0)∧w'.cell? ⟨ga,3,none⟩=some (vi vk r1)) (simp[*]) (first
  |(go_at_call 64;(first|rw[m0]|rw[m1]|skip);(first|(with_reducible refine(KF1.out _).mono ?_)|(with_reducible refine(KF2.out _).mono ?_));rintro e w9 ⟨rfl,rfl⟩)
  |(go_at_call 65;(with_reducible refine(KS.out _).mono ?_);rintro e w9 ⟨rfl,hb9⟩;have P9:=P1.out.drew.below hb9 (by simpa using P1.out.lt);have Z9:=Z1.out.below ((bl_drew (Below.refl _ _)).trans hb9) (by simpa using Z1.out.lt);have B9:=hid (B1.out.trans (((bl_drew (Below.refl _ _)).trans hb9).mono (by simpa using B1.out.size)));obtain⟨pt9,p09,p19,p29,p39,-,-,-,-⟩:=P9;obtain⟨zt9,z09,z19,zf09,zf19⟩:=Z9;have e9:=fun(i:Nat) (u v:Value)=>(World.cell?_setCell_other (w9.setCell ⟨w.heap.size,0,none⟩ u) ⟨w.heap.size,1,none⟩ ⟨ga,i,none⟩ v (fun e=>hn1 (by injection e))).trans (World.cell?_setCell_other w9 ⟨w.heap.size,0,none⟩ ⟨ga,i,none⟩ u (fun e=>hn1 (by injection e))))
  |fail)
 all_goals
  go_wp2;refine bodyPost_ret (v:=.agg #[vi vk f1,vi vk sg]) (by simp[results,results30,go_sem, *];done) rfl ⟨rfl,?_⟩;exact(B9.out.setCell (by simp) _).setCell (by simp) _
end Go.Proofs.YtdeiofgddhbdaaaGreatDoor
