/- The walks of fix.bounds, fix.Bounds and fix.Center. -/
import Derived.Test.YtdeiofgddhbdaaaGreatDoorHGm
set_option linter.unusedSimpArgs false
set_option linter.unusedVariables false
set_option maxHeartbeats 4000000
set_option maxRecDepth 100000
open Go.RowKit
open Go.Lib (hid)
open Go.Proofs.Tryz
open Go.Value renaming int→vi
open Go.IntKind renaming i64→vk
namespace Go.Proofs.YtdeiofgddhbdaaaGreatDoor
section
theorem meet08_any(a0 a1 a2 a3 b0 b1 b2 b3:Int)(w:World)(ha:VP (a0,a1,a2,a3))(hb:VP (b0,b1,b2,b3)):
 Calls Tryz.prog 96 #[.agg #[vi vk a0,vi vk a1,vi vk a2,vi vk a3],.agg #[vi vk b0,vi vk b1,vi vk b2,vi vk b3]] w fun e w'=> ∃r0 r1 r2 r3:Int,e=.returned (.tuple #[.agg #[vi vk r0,vi vk r1,vi vk r2,vi vk r3],vi vk (if meetB (a0,a1,a2,a3) (b0,b1,b2,b3)=true then 0 else 23)])∧Below w.heap.size w w':=by
 have oa:(a2= -10800000∧a3=10800000)∨(-10800000≤a2∧a2<10800000∧a2≤a3∧a3-a2<21600000):=ha.o;have ob:(b2= -10800000∧b3=10800000)∨(-10800000≤b2∧b2<10800000∧b2≤b3∧b3-b2<21600000):=hb.o;have KC':=fun W=>parts08_any a2 a3 b2 b3 W om_ om_;have hlen:=pr_lonM (a2,a3) (b2,b3) so_ so_;have hok:OkR (prF (a2,a3) (b2,b3) 3):=prF_mem (a2,a3) (b2,b3) so_ 3;have hl3:=prF_len (a2,a3) (b2,b3) 3;obtain⟨L,hL⟩: ∃L,L=prF (a2,a3) (b2,b3) 3:=⟨_,rfl⟩;rw[←hL] at KC' hlen hok hl3;have KC:=hid KC';have HOK:=hid hok;obtain⟨N,hN⟩: ∃N,N=L.length:=⟨_,rfl⟩;rw[←hN] at hl3;have HLN:=hid hN;have KM:=hid (fun W=>meets05_any a0 a1 b0 b1 W);have KI:=hid (fun W=>meet05_any a0 a1 b0 b1 W);obtain⟨R,hR⟩: ∃R:Int,R=if meetB (a0,a1,a2,a3) (b0,b1,b2,b3)=true then 0 else 23:=⟨_,rfl⟩
 rw[←hR];obtain⟨T,hT⟩: ∃T,T=decide (a0≤b1∧b0≤a1):=⟨_,rfl⟩;rw[←hT] at KM;have hRR:Hid (R=if T=true∧N≠0 then 0 else 23):=hid (by
  rw[hR,hN];unfold meetB;simp only[];rw[←hT];cases hm:lonM (a2,a3) (b2,b3) with
  |false=>
   have:=hlen.2 hm;simp[this]
  |true=>
   have h0:L.length≠0:=fun e=>by rw[hlen.1 e] at hm;cases hm
   simp[h0])
 clear hR hN hlen hok hL KC' oa ob ha hb hT;have HA:=hid (((K4.new w a0 a1 a2 a3 46).alloc (.cells #[vi vk b0,vi vk b1,vi vk b2,vi vk b3] 46)).alloc (.cells #[vi vk 0,vi vk 0,vi vk 0,vi vk 0] 46));have HB:Hid (K4 (((w.alloc (.cells #[vi vk a0,vi vk a1,vi vk a2,vi vk a3] 46)).alloc (.cells #[vi vk b0,vi vk b1,vi vk b2,vi vk b3] 46)).alloc (.cells #[vi vk 0,vi vk 0,vi vk 0,vi vk 0] 46)) (w.heap.size+1) b0 b1 b2 b3):=hid (by
  have:=(K4.new (w.alloc (.cells #[vi vk a0,vi vk a1,vi vk a2,vi vk a3] 46)) b0 b1 b2 b3 46).alloc (.cells #[vi vk 0,vi vk 0,vi vk 0,vi vk 0] 46);simpa using this)
 have HZ:Hid (K4 (((w.alloc (.cells #[vi vk a0,vi vk a1,vi vk a2,vi vk a3] 46)).alloc (.cells #[vi vk b0,vi vk b1,vi vk b2,vi vk b3] 46)).alloc (.cells #[vi vk 0,vi vk 0,vi vk 0,vi vk 0] 46)) (w.heap.size+1+1) 0 0 0 0):=hid (by
  have:=K4.new ((w.alloc (.cells #[vi vk a0,vi vk a1,vi vk a2,vi vk a3] 46)).alloc (.cells #[vi vk b0,vi vk b1,vi vk b2,vi vk b3] 46)) 0 0 0 0 46;simpa using this)
 have b0':Below w.heap.size w (((w.alloc (.cells #[vi vk a0,vi vk a1,vi vk a2,vi vk a3] 46)).alloc (.cells #[vi vk b0,vi vk b1,vi vk b2,vi vk b3] 46)).alloc (.cells #[vi vk 0,vi vk 0,vi vk 0,vi vk 0] 46)):=(((Below.refl _ _).alloc (Nat.le_refl _) _).alloc (by simp) _).alloc (by simp;omega) _;go_enter func96,ntmps96;go_wp2_with fail;(with_reducible refine(KC.out _).mono ?_)
 rintro e w3 ⟨v,rfl,hown,hb3⟩
 have HA3:=hid (HA.out.below hb3 HA.out.lt);have HB3:=hid (HB.out.below hb3 HB.out.lt);have HZ3:=hid (HZ.out.below hb3 HZ.out.lt);have B3:=hid (b0'.trans (hb3.mono b0'.size));rw[←HLN.out] at hown;obtain⟨A4,k4,rfl,ra,-,-⟩:=own_form hown;have RA:=hid ra;clear HA HB HZ b0' hb3 hown ra;obtain⟨at2,a0',a1',a2',a3',-,-,-,-⟩:=HA3.out;obtain⟨bt2,c0,c1,c2,c3,-,-,-,-⟩:=HB3.out;by_cases hN0:N=0
 · subst hN0
   obtain rfl:=hRR.out.trans (if_neg (fun h=>h.2 rfl));obtain⟨zt,z0,z1,z2,z3,zf0,zf1,zf2,zf3⟩:=HZ3.out;go_wp2;refine bodyPost_ret (v:=.tuple #[.agg #[vi vk 0,vi vk 0,vi vk 0,vi vk 0],vi vk 23]) (by simp[results,results96,go_sem, *];done) rfl ⟨_,_,_,_,rfl,?_⟩;exact(((B3.out.setCell so_ _).setCell so_ _).setCell so_ _).setCell so_ _
 · have d2:((N:Int)==0)=false:=by simp;exact hN0
   go_wp2_with fail;(with_reducible refine(KM.out _).mono ?_)
   rintro e w4 ⟨rfl,hb4⟩
   have HA4:=hid (HA3.out.below hb4 HA3.out.lt);have HB4:=hid (HB3.out.below hb4 HB3.out.lt);have HZ4:=hid (HZ3.out.below hb4 HZ3.out.lt);have B4:=hid (B3.out.trans (hb4.mono B3.out.size));have RA4:=hid ((RA.out.below hb4).more hb4.size);clear HA3 HB3 HZ3 B3 RA hb4 at2 a0' a1' a2' a3' bt2 c0 c1 c2 c3;obtain⟨at2,a0',a1',a2',a3',-,-,-,-⟩:=HA4.out;obtain⟨bt2,c0,c1,c2,c3,-,-,-,-⟩:=HB4.out;cases T with
   |false=>
    obtain rfl:=hRR.out.trans (if_neg (fun h=>by cases h.1));obtain⟨zt,z0,z1,z2,z3,zf0,zf1,zf2,zf3⟩:=HZ4.out;go_wp2;refine bodyPost_ret (v:=.tuple #[.agg #[vi vk 0,vi vk 0,vi vk 0,vi vk 0],vi vk 23]) (by simp[results,results96,go_sem, *];done) rfl ⟨_,_,_,_,rfl,?_⟩;exact(((B4.out.setCell so_ _).setCell so_ _).setCell so_ _).setCell so_ _
   |true=>
    obtain rfl:=hRR.out.trans (if_pos ⟨rfl,hN0⟩);obtain⟨P1,hP1⟩: ∃P,max a0 b0=P:=⟨_,rfl⟩;obtain⟨P2,hP2⟩: ∃P,min a1 b1=P:=⟨_,rfl⟩;rw[hP1,hP2] at KI;obtain⟨⟨r0,r1⟩,hr⟩: ∃r,rarn L=r:=⟨_,rfl⟩;have KA:=fun(W:World) (h:Reads W W.heap.size 2 A4 N (spvs L))=>around08_any A4 N k4 L W h om_ HOK.out;rw[hr] at KA;have KA:=hid KA;clear hP1 hP2 hr;go_wp2_with fail;(with_reducible refine(KI.out _).mono ?_)
    rintro e w5 ⟨rfl,hb5⟩
    have HZ5:=hid (HZ4.out.below hb5 HZ4.out.lt);have B5:=hid (B4.out.trans (hb5.mono B4.out.size));have RA5:=hid ((RA4.out.below hb5).more hb5.size);clear HA4 HB4 HZ4 B4 RA4 hb5 at2 a0' a1' a2' a3' bt2 c0 c1 c2 c3;go_wp2_with fail;(with_reducible refine(KA.out _ RA5.out).mono ?_)
    rintro e w6 ⟨rfl,hb6⟩
    have B6:=hid (B5.out.trans (hb6.mono B5.out.size));obtain⟨zt,z0,z1,z2,z3,zf0,zf1,zf2,zf3⟩:=HZ5.out.below hb6 HZ5.out.lt;go_wp2;refine bodyPost_ret (v:=.tuple #[.agg #[vi vk P1,vi vk P2,vi vk r0,vi vk r1],vi vk 0]) (by simp[results,results96,go_sem, *];done) rfl ⟨_,_,_,_,rfl,?_⟩;exact(((B6.out.setCell so_ _).setCell so_ _).setCell so_ _).setCell so_ _
theorem K4.drew{W:World}{g:Nat}{a b c d:Int}(h:K4 W g a b c d):K4 W.drew g a b c d:=h.below (bl_drew (Below.refl _ _)) h.lt
theorem K4.far{W:World}{g:Nat}{a b c d:Int}(h:K4 W g a b c d){p:Addr}(hp:g≠p.block)(u:Value):K4 (W.setCell p u) g a b c d:=by
 have hne: ∀i,p≠(⟨g,i,none⟩:Addr):=fun i e=>hp (by rw[e]);refine⟨by simpa using h.lt,?_,?_,?_,?_,?_,?_,?_,?_⟩
 · rw[World.cell?_setCell_other _ _ _ _ (hne 0)];exact h.c0
 · rw[World.cell?_setCell_other _ _ _ _ (hne 1)];exact h.c1
 · rw[World.cell?_setCell_other _ _ _ _ (hne 2)];exact h.c2
 · rw[World.cell?_setCell_other _ _ _ _ (hne 3)];exact h.c3
 · rw[World.frozen?_setCell];exact h.f0
 · rw[World.frozen?_setCell];exact h.f1
 · rw[World.frozen?_setCell];exact h.f2
 · rw[World.frozen?_setCell];exact h.f3
theorem K4.far4{W:World}{g g':Nat}{a b c d:Int}(h:K4 W g a b c d)(hp:g≠g'){x y z u:Value}:K4 ((((W.setCell ⟨g',0,none⟩ x).setCell ⟨g',1,none⟩ y).setCell ⟨g',2,none⟩ z).setCell ⟨g',3,none⟩ u) g a b c d:=
 (((h.far (p:=⟨g',0,none⟩) hp x).far (p:=⟨g',1,none⟩) hp y).far (p:=⟨g',2,none⟩) hp z).far (p:=⟨g',3,none⟩) hp u
theorem K4.set4{W:World}{g:Nat}{a b c d:Int}(h:K4 W g a b c d)(x y z u:Int):K4 ((((W.setCell ⟨g,0,none⟩ (vi vk x)).setCell ⟨g,1,none⟩ (vi vk y)).setCell ⟨g,2,none⟩ (vi vk z)).setCell ⟨g,3,none⟩ (vi vk u)) g x y z u:=by
 have e0:=h.c0;have e1:=h.c1;have e2:=h.c2;have e3:=h.c3;have o: ∀(V:World) (i j:Nat) (v:Value),i≠j→(V.setCell ⟨g,i,none⟩ v).cell? ⟨g,j,none⟩=V.cell? ⟨g,j,none⟩:=fun V i j v hij=>World.cell?_setCell_other _ _ _ _ (fun e=>hij (by injection e));refine⟨by simpa using h.lt,?_,?_,?_,?_,?_,?_,?_,?_⟩
 · rw[o _ 3 0 _ dc_,o _ 2 0 _ dc_,o _ 1 0 _ dc_];exact World.cell?_setCell_same _ _ _ e0
 · rw[o _ 3 1 _ dc_,o _ 2 1 _ dc_];exact World.cell?_setCell_same _ _ _ (by rw[o _ 0 1 _ dc_];exact e1)
 · rw[o _ 3 2 _ dc_];exact World.cell?_setCell_same _ _ _ (by rw[o _ 1 2 _ dc_,o _ 0 2 _ dc_];exact e2)
 · exact World.cell?_setCell_same _ _ _ (by rw[o _ 2 3 _ dc_,o _ 1 3 _ dc_,o _ 0 3 _ dc_];exact e3)
 · rw[World.frozen?_setCell,World.frozen?_setCell,World.frozen?_setCell,World.frozen?_setCell];exact h.f0
 · rw[World.frozen?_setCell,World.frozen?_setCell,World.frozen?_setCell,World.frozen?_setCell];exact h.f1
 · rw[World.frozen?_setCell,World.frozen?_setCell,World.frozen?_setCell,World.frozen?_setCell];exact h.f2
 · rw[World.frozen?_setCell,World.frozen?_setCell,World.frozen?_setCell,World.frozen?_setCell];exact h.f3
theorem bl_put4{B:Nat}{a w:World}{g:Nat}{x y z u:Value}(h:Below B a w)(hg:B≤g):Below B a ((((w.setCell ⟨g,0,none⟩ x).setCell ⟨g,1,none⟩ y).setCell ⟨g,2,none⟩ z).setCell ⟨g,3,none⟩ u):=(((h.setCell hg _).setCell hg _).setCell hg _).setCell hg _
structure TI(W2 w:World)(L:Nat→Bool)(g5 g6:Nat)(a0 a1 a2 a3 b0 b1 b2 b3:Int):Prop where
 bl:Below W2.heap.size W2 w
 d6:L 6=true→L 4=true
 d7:L 7=true→L 5=true
 lo5:L 4=true→W2.heap.size≤g5
 lo6:L 5=true→W2.heap.size≤g6
 z5:L 4=true→L 6=false→K4 w g5 0 0 0 0
 z6:L 5=true→L 7=false→K4 w g6 0 0 0 0
 k5:L 6=true→K4 w g5 a0 a1 a2 a3
 k6:L 7=true→K4 w g6 b0 b1 b2 b3
 ne:L 4=true→L 5=true→g5≠g6
section
variable {W2 w w':World} {L:Nat→Bool} {g5 g6:Nat} {a0 a1 a2 a3 b0 b1 b2 b3:Int}
theorem TI.call(h:TI W2 w L g5 g6 a0 a1 a2 a3 b0 b1 b2 b3)(hb:Below w.heap.size w w'):TI W2 w' L g5 g6 a0 a1 a2 a3 b0 b1 b2 b3:=
 ⟨h.bl.trans (hb.mono h.bl.size),h.d6,h.d7,h.lo5,h.lo6,fun p q=>(h.z5 p q).below hb (h.z5 p q).lt,fun p q=>(h.z6 p q).below hb (h.z6 p q).lt,fun p=>(h.k5 p).below hb (h.k5 p).lt,fun p=>(h.k6 p).below hb (h.k6 p).lt,h.ne⟩
theorem TI.mark(h:TI W2 w L g5 g6 a0 a1 a2 a3 b0 b1 b2 b3)(i:Nat)(hi:i<4):TI W2 w (mkd L i) g5 g6 a0 a1 a2 a3 b0 b1 b2 b3:=by
 have e4: ¬4=i:=by omega
 have e5: ¬5=i:=by omega
 have e6: ¬6=i:=by omega
 have e7: ¬7=i:=by omega
 constructor
 · exact h.bl
 all_goals simp only[mkd_ne e4,mkd_ne e5,mkd_ne e6,mkd_ne e7]
 · exact h.d6
 · exact h.d7
 · exact h.lo5
 · exact h.lo6
 · exact h.z5
 · exact h.z6
 · exact h.k5
 · exact h.k6
 · exact h.ne
theorem TI.l5(h:TI W2 w L g5 g6 a0 a1 a2 a3 b0 b1 b2 b3)(h5:L 4=true):g5<w.heap.size:=by
 cases e:L 6 with
 |false=>exact(h.z5 h5 e).lt
 |true=>exact(h.k5 e).lt
theorem TI.l6(h:TI W2 w L g5 g6 a0 a1 a2 a3 b0 b1 b2 b3)(h5:L 5=true):g6<w.heap.size:=by
 cases e:L 7 with
 |false=>exact(h.z6 h5 e).lt
 |true=>exact(h.k6 e).lt
theorem TI.al5(h:TI W2 w L g5 g6 a0 a1 a2 a3 b0 b1 b2 b3)(h4:L 4=false)(t:TypeId):TI W2 (w.alloc (.cells #[vi vk 0,vi vk 0,vi vk 0,vi vk 0] t)) (mkd L 4) w.heap.size g6 a0 a1 a2 a3 b0 b1 b2 b3:=by
 have c:=h.call (bl_alloc w (.cells #[vi vk 0,vi vk 0,vi vk 0,vi vk 0] t));have n6:L 6=false:=by
  cases e:L 6 with
  |false=>rfl
  |true=>rw[h.d6 e] at h4;cases h4
 constructor
 · exact c.bl
 all_goals simp only[mkd_same,mkd_ne (by decide: ¬5=4),mkd_ne (by decide: ¬6=4),mkd_ne (by decide: ¬7=4)]
 · exact fun _=>trivial
 · exact c.d7
 · exact fun _=>h.bl.size
 · exact c.lo6
 · exact fun _ _=>K4.new w 0 0 0 0 t
 · exact c.z6
 · intro p;rw[n6] at p;cases p
 · exact c.k6
 · intro _ p;have:=h.l6 p;omega
theorem TI.al6(h:TI W2 w L g5 g6 a0 a1 a2 a3 b0 b1 b2 b3)(h4:L 5=false)(t:TypeId):TI W2 (w.alloc (.cells #[vi vk 0,vi vk 0,vi vk 0,vi vk 0] t)) (mkd L 5) g5 w.heap.size a0 a1 a2 a3 b0 b1 b2 b3:=by
 have c:=h.call (bl_alloc w (.cells #[vi vk 0,vi vk 0,vi vk 0,vi vk 0] t));have n7:L 7=false:=by
  cases e:L 7 with
  |false=>rfl
  |true=>rw[h.d7 e] at h4;cases h4
 constructor
 · exact c.bl
 all_goals simp only[mkd_same,mkd_ne (by decide: ¬4=5),mkd_ne (by decide: ¬6=5),mkd_ne (by decide: ¬7=5)]
 · exact c.d6
 · exact fun _=>trivial
 · exact c.lo5
 · exact fun _=>h.bl.size
 · exact c.z5
 · exact fun _ _=>K4.new w 0 0 0 0 t
 · exact c.k5
 · intro p;rw[n7] at p;cases p
 · intro p _;have:=h.l5 p;omega
theorem TI.st5(h:TI W2 w L g5 g6 a0 a1 a2 a3 b0 b1 b2 b3)(h4:L 4=true)(h6:L 6=false):TI W2 ((((w.setCell ⟨g5,0,none⟩ (vi vk a0)).setCell ⟨g5,1,none⟩ (vi vk a1)).setCell ⟨g5,2,none⟩ (vi vk a2)).setCell ⟨g5,3,none⟩ (vi vk a3)) (mkd L 6) g5 g6 a0 a1 a2 a3 b0 b1 b2 b3:=by
 have hg:=h.lo5 h4;have z:=h.z5 h4 h6;constructor
 · exact bl_put4 h.bl hg
 all_goals simp only[mkd_same,mkd_ne (by decide: ¬4=6),mkd_ne (by decide: ¬5=6),mkd_ne (by decide: ¬7=6)]
 · exact fun _=>h4
 · exact h.d7
 · exact h.lo5
 · exact h.lo6
 · intro _ p;cases p
 · intro p q;have:=h.ne h4 p;exact K4.far4 (h.z6 p q) om_
 · exact fun _=>z.set4 a0 a1 a2 a3
 · intro p;have:=h.ne h4 (h.d7 p);exact K4.far4 (h.k6 p) om_
 · exact h.ne
theorem TI.st6(h:TI W2 w L g5 g6 a0 a1 a2 a3 b0 b1 b2 b3)(h4:L 5=true)(h6:L 7=false):TI W2 ((((w.setCell ⟨g6,0,none⟩ (vi vk b0)).setCell ⟨g6,1,none⟩ (vi vk b1)).setCell ⟨g6,2,none⟩ (vi vk b2)).setCell ⟨g6,3,none⟩ (vi vk b3)) (mkd L 7) g5 g6 a0 a1 a2 a3 b0 b1 b2 b3:=by
 have hg:=h.lo6 h4;have z:=h.z6 h4 h6;constructor
 · exact bl_put4 h.bl hg
 all_goals simp only[mkd_same,mkd_ne (by decide: ¬4=7),mkd_ne (by decide: ¬5=7),mkd_ne (by decide: ¬6=7)]
 · exact h.d6
 · exact fun _=>h4
 · exact h.lo5
 · exact h.lo6
 · intro p q;have:=h.ne p h4;exact K4.far4 (h.z5 p q) this
 · intro _ p;cases p
 · intro p;have:=h.ne (h.d6 p) h4;exact K4.far4 (h.k5 p) this
 · exact fun _=>z.set4 b0 b1 b2 b3
 · exact h.ne
end
def TInv(W2:World)(l r c l' r' c' a0 a1 a2 a3 b0 b1 b2 b3:Int)(a:Act)(L:Nat→Bool)(a':Act)(w':World):Prop:=
 ∃(v9 v10 v11 v12 v5 v6:Value) (g5 g6:Nat),a'=(((((a.put (some 9) v9).put (some 10) v10).put (some 11) v11).put (some 12) v12).put (some 5) v5).put (some 6) v6∧TI W2 w' L g5 g6 a0 a1 a2 a3 b0 b1 b2 b3∧
  (L 0=true→v9=.agg #[vi vk l,vi vk r,vi vk c])∧(L 1=true→v10=.agg #[vi vk a0,vi vk a1,vi vk a2,vi vk a3])∧(L 2=true→v11=.agg #[vi vk l',vi vk r',vi vk c'])∧(L 3=true→v12=.agg #[vi vk b0,vi vk b1,vi vk b2,vi vk b3])∧(L 4=true→v5=.pointer (some ⟨g5,0,none⟩))∧(L 5=true→v6=.pointer (some ⟨g6,0,none⟩))
theorem touch40_num(l r c l' r' c' a0 a1 a2 a3 b0 b1 b2 b3:Int)(w:World)
 (KB1: ∀W,Calls Tryz.prog 61 #[.agg #[vi vk l,vi vk r,vi vk c]] W fun e w'=>e=.returned (.agg #[vi vk a0,vi vk a1,vi vk a2,vi vk a3])∧Below W.heap.size W w')
 (KB2: ∀W,Calls Tryz.prog 61 #[.agg #[vi vk l',vi vk r',vi vk c']] W fun e w'=>e=.returned (.agg #[vi vk b0,vi vk b1,vi vk b2,vi vk b3])∧Below W.heap.size W w')
 (ha:VP (a0,a1,a2,a3)) (hb:VP (b0,b1,b2,b3)):
 Calls Tryz.prog 66 #[.agg #[vi vk l,vi vk r,vi vk c],.agg #[vi vk l',vi vk r',vi vk c']] w fun e w'=>e=.returned (.bool (tchB (a0,a1,a2,a3) (b0,b1,b2,b3)))∧Below w.heap.size w w':=by
 have KM:=hid (fun W=>meet08_any a0 a1 a2 a3 b0 b1 b2 b3 W ha hb);have KB1:=hid KB1;have KB2:=hid KB2;obtain⟨R,hR⟩: ∃R,R=tchB (a0,a1,a2,a3) (b0,b1,b2,b3):=⟨_,rfl⟩;rw[←hR];obtain⟨m,hm⟩: ∃m,m=meetB (a0,a1,a2,a3) (b0,b1,b2,b3):=⟨_,rfl⟩;rw[←hm] at KM;have HR:Hid (R=((decide (a1=5400000)&&decide (b1=5400000))||(decide (a0= -5400000)&&decide (b0= -5400000))||m)):=hid (by
  rw[hR,hm];unfold tchB;simp only[Bool.decide_and])
 clear hR hm ha hb;go_enter func66,ntmps66;go_upto_region 1 with (fail)
 obtain⟨W2,hW2⟩: ∃W2,W2=(w.alloc (.cells #[vi vk l,vi vk r,vi vk c] 58)).alloc (.cells #[vi vk l',vi vk r',vi vk c'] 58):=⟨_,rfl⟩;have x0:W2.cell? ⟨w.heap.size,0,none⟩=some (vi vk l):=by rw[hW2];simp
 have x1:W2.cell? ⟨w.heap.size,1,none⟩=some (vi vk r):=by rw[hW2];simp
 have x2:W2.cell? ⟨w.heap.size,2,none⟩=some (vi vk c):=by rw[hW2];simp
 have y0:W2.cell? ⟨w.heap.size+1,0,none⟩=some (vi vk l'):=by rw[hW2];simp
 have y1:W2.cell? ⟨w.heap.size+1,1,none⟩=some (vi vk r'):=by rw[hW2];simp
 have y2:W2.cell? ⟨w.heap.size+1,2,none⟩=some (vi vk c'):=by rw[hW2];simp
 have hz2:W2.heap.size=w.heap.size+2:=by rw[hW2];simp
 have B2:=hid (((Below.refl w.heap.size w).alloc (Nat.le_refl _) (.cells #[vi vk l,vi vk r,vi vk c] 58)).alloc (by simp) (.cells #[vi vk l',vi vk r',vi vk c'] 58));rw[←hW2] at B2;simp only[←hW2];clear hW2;refine wp_region_inv2 (by kernel_rfl) (TInv W2 l r c l' r' c' a0 a1 a2 a3 b0 b1 b2 b3) (waits_of (by kernel_rfl)) ?start ?step ?fin
 case start=>exact⟨undef,undef,undef,undef,undef,undef,0,0,rfl,⟨bl_drew (Below.refl _ _),nofun,nofun,nofun,nofun,nofun,nofun,nofun,nofun,nofun⟩,nofun,nofun,nofun,nofun,nofun,nofun⟩
 case step=>
  rintro L i o a1' w' ho hL haf ⟨v9,v10,v11,v12,v5,v6,g5,g6,rfl,hT,e0,e1,e2,e3,e4,e5⟩
  have HT:=hid hT;have X0:=(hT.bl.cell (p:=⟨w.heap.size,0,none⟩) so_).trans x0;have X1:=(hT.bl.cell (p:=⟨w.heap.size,1,none⟩) so_).trans x1;have X2:=(hT.bl.cell (p:=⟨w.heap.size,2,none⟩) so_).trans x2;have Y0:=(hT.bl.cell (p:=⟨w.heap.size+1,0,none⟩) so_).trans y0;have Y1:=(hT.bl.cell (p:=⟨w.heap.size+1,1,none⟩) so_).trans y1;have Y2:=(hT.bl.cell (p:=⟨w.heap.size+1,2,none⟩) so_).trans y2;clear hT x0 x1 x2 y0 y1 y2;have E0:=hid e0;have E1:=hid e1;have E2:=hid e2;have E3:=hid e3;have E4:=hid e4;have E5:=hid e5;clear e0 e1 e2 e3 e4 e5;rcases i with _|_|_|_|_|_|_|_|i
  all_goals (simp at ho;try subst ho)
  all_goals (try simp[Region.binds] at haf)
  · go_wp2
    unfold TInv;exact⟨_,v10,v11,v12,v5,v6,g5,g6,rfl,HT.out.mark 0 dc_,rf_,kq E1,kq E2,kq E3,kq E4,kq E5⟩
  · obtain rfl:=E0.out haf
    go_wp2_with fail;(with_reducible refine(KB1.out _).mono ?_)
    rintro e w9 ⟨rfl,hb9⟩
    go_wp2;unfold TInv;exact⟨_,_,v11,v12,v5,v6,g5,g6,rfl,(HT.out.call hb9).mark 1 dc_,rf_,rf_,kq E2,kq E3,kq E4,kq E5⟩
  · go_wp2
    unfold TInv;exact⟨v9,v10,_,v12,v5,v6,g5,g6,rfl,HT.out.mark 2 dc_,kq E0,kq E1,rf_,kq E3,kq E4,kq E5⟩
  · obtain rfl:=E2.out haf.1
    obtain rfl:=E1.out haf.2;go_wp2_with fail;(with_reducible refine(KB2.out _).mono ?_)
    rintro e w9 ⟨rfl,hb9⟩
    go_wp2;unfold TInv;exact⟨v9,_,_,_,v5,v6,g5,g6,rfl,(HT.out.call hb9).mark 3 dc_,kq E0,rf_,rf_,rf_,kq E4,kq E5⟩
  · go_wp2
    unfold TInv;exact⟨v9,v10,v11,v12,_,v6,_,g6,rfl,HT.out.al5 hL _,kq E0,kq E1,kq E2,kq E3,rf_,kq E5⟩
  · go_wp2
    unfold TInv;exact⟨v9,v10,v11,v12,v5,_,g5,_,rfl,HT.out.al6 hL _,kq E0,kq E1,kq E2,kq E3,kq E4,rf_⟩
  · obtain rfl:=E1.out haf.2.1
    obtain rfl:=E4.out haf.1;obtain rfl:=E3.out haf.2.2.1;obtain rfl:=E0.out haf.2.2.2.1;obtain rfl:=E5.out haf.2.2.2.2.2.2;obtain⟨zt,z0,z1,z2,z3,zf0,zf1,zf2,zf3⟩:=HT.out.z5 haf.1 hL;have HS:=hid (HT.out.st5 haf.1 hL);go_wp2;unfold TInv;exact⟨_,_,v11,_,_,_,g5,g6,rfl,HS.out,rf_,rf_,kq E2,rf_,rf_,rf_⟩
  · obtain rfl:=E3.out haf.2.1
    obtain rfl:=E5.out haf.1;obtain⟨zt,z0,z1,z2,z3,zf0,zf1,zf2,zf3⟩:=HT.out.z6 haf.1 hL;have HS:=hid (HT.out.st6 haf.1 hL);go_wp2;unfold TInv;exact⟨v9,v10,v11,_,v5,_,g5,g6,rfl,HS.out,kq E0,kq E1,kq E2,rf_,kq E4,rf_⟩
 case fin=>
  rintro L a1' w3 hall ⟨v9,v10,v11,v12,v5,v6,g5,g6,rfl,hT,e0,e1,e2,e3,e4,e5⟩
  obtain rfl:=e0 (hall 0 dc_);obtain rfl:=e1 (hall 1 dc_);obtain rfl:=e2 (hall 2 dc_);obtain rfl:=e3 (hall 3 dc_);obtain rfl:=e4 (hall 4 dc_);obtain rfl:=e5 (hall 5 dc_);have HA:=hid (hT.k5 (hall 6 dc_));have HB:=hid (hT.k6 (hall 7 dc_));have B3:=hid (B2.out.trans (hT.bl.mono om_));clear hT e0 e1 e2 e3 e4 e5 hall x0 x1 x2 y0 y1 y2 hz2 B2 KB1 KB2;obtain⟨at2,p0,p1,p2,p3,-,-,-,-⟩:=HA.out;obtain⟨bt2,q0,q1,q2,q3,-,-,-,-⟩:=HB.out;go_wp2_with fail;(with_reducible refine(KM.out _).mono ?_)
  rintro e w4 ⟨r0,r1,r2,r3,rfl,hb4⟩
  have HA4:=hid ((HA.out.below hb4 HA.out.lt).alloc (.cells #[vi vk r0,vi vk r1,vi vk r2,vi vk r3] 46));have HB4:=hid ((HB.out.below hb4 HB.out.lt).alloc (.cells #[vi vk r0,vi vk r1,vi vk r2,vi vk r3] 46));have B4:=hid ((B3.out.trans (hb4.mono B3.out.size)).alloc (by have:=B3.out.size;have:=hb4.size;omega) (.cells #[vi vk r0,vi vk r1,vi vk r2,vi vk r3] 46));clear p0 p1 p2 p3 q0 q1 q2 q3 at2 bt2 HA HB hb4 B3;obtain⟨at2,p0,p1,p2,p3,-,-,-,-⟩:=HA4.out;obtain⟨bt2,q0,q1,q2,q3,-,-,-,-⟩:=HB4.out;cases m with
  |true=>
   go_wp2;go_ret;exact⟨ret_bool (by rw[HR.out];simp),B4.out⟩
  |false=>
   rcases Classical.em (a1=5400000) with h1|h1<;>rcases Classical.em (b1=5400000) with h2|h2<;>rcases Classical.em (a0= -5400000) with h3|h3<;>rcases Classical.em (b0= -5400000) with h4|h4
   all_goals
    (first|subst h1|(have d1:(a1==5400000)=false:=by simpa using h1))
    (first|subst h2|(have d2:(b1==5400000)=false:=by simpa using h2))
    (first|subst h3|(have d3:(a0== -5400000)=false:=by simpa using h3))
    (first|subst h4|(have d4:(b0== -5400000)=false:=by simpa using h4))
    go_wp2;go_ret;exact⟨ret_bool (by rw[HR.out];simp[*]),B4.out⟩
theorem Touch_any(x y:Cl)(hx:Vl x)(hy:Vl y)(w:World):Calls Tryz.prog 66 #[.agg #[vi vk x.1,vi vk x.2.1,vi vk x.2.2],.agg #[vi vk y.1,vi vk y.2.1,vi vk y.2.2]] w fun e w'=>e=.returned (.bool (tchB (bxI x) (bxI y)))∧Below w.heap.size w w':=
 touch40_num x.1 x.2.1 x.2.2 y.1 y.2.1 y.2.2 (bxI x).1 (bxI x).2.1 (bxI x).2.2.1 (bxI x).2.2.2 (bxI y).1 (bxI y).2.1 (bxI y).2.2.1 (bxI y).2.2.2 w
  (fun W=>(refBox_any x.1 x.2.1 x.2.2 W ((vl_iff x).2 hx)).mono fun e w' ⟨he,hb⟩=>⟨he.trans (congrArg Ending.returned (boxV_bx x)),hb⟩)
  (fun W=>(refBox_any y.1 y.2.1 y.2.2 W ((vl_iff y).2 hy)).mono fun e w' ⟨he,hb⟩=>⟨he.trans (congrArg Ending.returned (boxV_bx y)),hb⟩) (vp_bx x hx) (vp_bx y hy)
end
section
namespace PQ
def prtR(c:Nat→Nat)(n i:Nat):List (List Nat):=(ldr c i).map fun r=>(List.range n).filter (fun j=>c j=r)
theorem prtR_new{c:Nat→Nat}{n i:Nat}(hi:c i=i):prtR c n (i+1)=prtR c n i++[(List.range n).filter (fun j=>c j=i)]:=by
 unfold prtR;rw[ldr_succ,if_pos hi,List.map_append];rfl
theorem prtR_old{c:Nat→Nat}{n i:Nat}(hi:c i≠i):prtR c n (i+1)=prtR c n i:=by
 unfold prtR;rw[ldr_succ,if_neg hi]
theorem prtR_len(c:Nat→Nat)(n i:Nat):(prtR c n i).length=rnk c i:=by unfold prtR;rw[List.length_map,ldr_length]
theorem rnk_le(c:Nat→Nat)(i:Nat):rnk c i≤i:=by unfold rnk;exact Nat.le_trans (List.length_filter_le _ _) (by simp)
theorem unm_le(pt:Nat→Nat)(n:Nat):unm pt n≤n:=by unfold unm;exact Nat.le_trans (List.length_filter_le _ _) (by simp)
end PQ
structure PtAt(W:World)(g n:Nat)(f:Nat→Nat):Prop where
 cell: ∀j,j<n→W.cell? ⟨g,j,none⟩=some (vi vk (f j))
 fr: ∀j,j<n→W.frozen? ⟨g,j,none⟩=false
 lt:g<W.heap.size
section
variable {W W':World} {g n:Nat} {f f':Nat→Nat}
theorem PtAt.set(h:PtAt W g n f)(j v:Nat)(hj:j<n):PtAt (W.setCell ⟨g,j,none⟩ (vi vk v)) g n (PQ.upd f j v):=by
 refine⟨fun k hk=>?_,fun k hk=>by simpa using h.fr k hk,by simpa using h.lt⟩;unfold PQ.upd;by_cases e:k=j
 · subst e
   rw[if_pos rfl];exact World.cell?_setCell_same _ _ _ (h.cell k hk)
 · rw[if_neg e,World.cell?_setCell_other _ _ _ _ (fun e'=>e (by injection e' with _ e2;exact e2.symm))]
   exact h.cell k hk
theorem PtAt.below{B:Nat}(h:PtAt W g n f)(hb:Below B W W')(hg:g<B):PtAt W' g n f:=
 ⟨fun j hj=>(hb.cell (p:=⟨g,j,none⟩) hg).trans (h.cell j hj),fun j hj=>(hb.frozen (p:=⟨g,j,none⟩) hg).trans (h.fr j hj),Nat.lt_of_lt_of_le h.lt hb.size⟩
theorem PtAt.made(w:World)(n:Nat)(t:TypeId):PtAt (w.alloc (.cells (madeCells #[vi vk 0] n) t)) w.heap.size n (fun _=>0):=by
 refine⟨fun j hj=>?_,fun j hj=>Blk.frozen (Blk.new w t (madeCells #[vi vk 0] n)) j,by simp⟩;rw[Blk.cell (Blk.new w t (madeCells #[vi vk 0] n)) j];simp[madeCells,hj,Nat.mod_one]
end
theorem grown_bl{w1 W W':World}{B:Nat}{row:Option Nat}(h:w1.grownBy W row)(hb:Below B W W')(hB:w1.heap.size≤B):w1.grownBy W' row:=
 ⟨hb.os.trans h.os,hb.tape.trans h.tape,hb.output.trans h.output,Nat.le_trans h.size hb.size,fun k hk hr=>(hb.block k om_).trans (h.block k hk hr)⟩
theorem grown_set2{w1 W:World}{g o:Nat}{v:Value}(h:w1.grownBy W (some g)):w1.grownBy (W.setCell ⟨g,o,none⟩ v) (some g):=
 ⟨h.os,h.tape,h.output,by simpa using h.size,fun k hk hr=>(Below.heap_setCell _ _ _ k (fun e=>hr (by rw[e]))).trans (h.block k hk hr)⟩
structure SSt(w1 W:World)(g n:Nat)(c:Nat→Nat)(t:Nat→Nat→Bool)(i:Nat)(pt:Nat→Nat)(A:Option Addr)(nT cT:Nat)(T:List Nat)(k m:Nat):Prop where
 row:PtAt W g n pt
 q:Que W w1.heap.size A nT cT T
 g:w1.grownBy W (some g)
 fl:PQ.Fl c t n i pt T k m
section
variable {w1 W W':World} {g n:Nat} {c:Nat→Nat} {t:Nat→Nat→Bool} {i:Nat} {pt:Nat→Nat} {A:Option Addr} {nT cT:Nat} {T:List Nat} {k m:Nat}
theorem SSt.bl(h:SSt w1 W g n c t i pt A nT cT T k m)(hb:Below W.heap.size W W'):SSt w1 W' g n c t i pt A nT cT T k m:=
 ⟨h.row.below hb h.row.lt,h.q.bl hb,grown_bl h.g hb h.g.size,h.fl⟩
theorem SSt.no(h:SSt w1 W g n c t i pt A nT cT T k m)(hm: ¬(pt m=0∧t k m=true)):SSt w1 W g n c t i pt A nT cT T k (m+1):=⟨h.row,h.q,h.g,h.fl.no hm⟩
end
end
theorem K4.two{W:World}{g:Nat}{a b c d:Int}(h:K4 W g a b c d)(x y:Int):K4 ((W.setCell ⟨g,0,none⟩ (vi vk x)).setCell ⟨g,1,none⟩ (vi vk y)) g x y c d:=by
 have o: ∀(V:World) (i j:Nat) (v:Value),i≠j→(V.setCell ⟨g,i,none⟩ v).cell? ⟨g,j,none⟩=V.cell? ⟨g,j,none⟩:=fun V i j v hij=>World.cell?_setCell_other _ _ _ _ (fun e=>hij (by injection e));refine⟨by simpa using h.lt,?_,?_,?_,?_,?_,?_,?_,?_⟩
 · rw[o _ 1 0 _ dc_];exact World.cell?_setCell_same _ _ _ h.c0
 · exact World.cell?_setCell_same _ _ _ (by rw[o _ 0 1 _ dc_];exact h.c1)
 · rw[o _ 1 2 _ dc_,o _ 0 2 _ dc_];exact h.c2
 · rw[o _ 1 3 _ dc_,o _ 0 3 _ dc_];exact h.c3
 · rw[World.frozen?_setCell,World.frozen?_setCell];exact h.f0
 · rw[World.frozen?_setCell,World.frozen?_setCell];exact h.f1
 · rw[World.frozen?_setCell,World.frozen?_setCell];exact h.f2
 · rw[World.frozen?_setCell,World.frozen?_setCell];exact h.f3
theorem K4.farB{W:World}{g:Nat}{a b c d:Int}(h:K4 W g a b c d){p:Addr}(hp:g≠p.block)(u:Value):K4 (W.setCell p u) g a b c d:=by
 have hne: ∀i,p≠(⟨g,i,none⟩:Addr):=fun i e=>hp (by rw[e]);refine⟨by simpa using h.lt,?_,?_,?_,?_,?_,?_,?_,?_⟩
 · rw[World.cell?_setCell_other _ _ _ _ (hne 0)];exact h.c0
 · rw[World.cell?_setCell_other _ _ _ _ (hne 1)];exact h.c1
 · rw[World.cell?_setCell_other _ _ _ _ (hne 2)];exact h.c2
 · rw[World.cell?_setCell_other _ _ _ _ (hne 3)];exact h.c3
 · rw[World.frozen?_setCell];exact h.f0
 · rw[World.frozen?_setCell];exact h.f1
 · rw[World.frozen?_setCell];exact h.f2
 · rw[World.frozen?_setCell];exact h.f3
end Go.Proofs.YtdeiofgddhbdaaaGreatDoor
