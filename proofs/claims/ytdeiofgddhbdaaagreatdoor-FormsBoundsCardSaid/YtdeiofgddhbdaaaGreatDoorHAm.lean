/- Walks of place.inside and place.Inside at any valid places; region.box and region.meets. -/
import Derived.Test.YtdeiofgddhbdaaaGreatDoorHAc
set_option linter.unusedSimpArgs false
set_option linter.unusedVariables false
set_option maxHeartbeats 4000000
set_option maxRecDepth 100000
open Go.RowKit
open Go.Lib (hid)
open Go.Proofs.Tryz
open Go.Value renaming int→vi
open Go.IntKind renaming i64→vk
namespace Go.Proofs.YtdeiofgddhbdaaaGreatDoor
noncomputable def altP (a b c:Int×Int):Int×Int:=(Trig.asnV (max (Trig.sinT a b c).1 (-1073741824)),-Trig.asnV (-(min (Trig.sinT a b c).2 1073741824)))
noncomputable def dstV (q:Bx) (p:Int×Int):Int×Int:=(5400000-(altP (q.1,q.2.1) (p.1,p.1) (q.2.2.1-p.2,q.2.2.2-p.2)).2,5400000-(altP (q.1,q.2.1) (p.1,p.1) (q.2.2.1-p.2,q.2.2.2-p.2)).1)
theorem alt_bd2(a b c:Int×Int): -5400000≤(altP a b c).1∧(altP a b c).1≤5400000∧ -5400000≤(altP a b c).2∧(altP a b c).2≤5400000:=by
 have h1:=Trig.asn_bd (max (Trig.sinT a b c).1 (-1073741824));have h2:=Trig.asn_bd (-(min (Trig.sinT a b c).2 1073741824));unfold altP;simp only[];omega
theorem dst_bd(q:Bx)(p:Int×Int):0≤(dstV q p).1∧(dstV q p).1≤10800000∧0≤(dstV q p).2∧(dstV q p).2≤10800000:=by
 have:=alt_bd2 (q.1,q.2.1) (p.1,p.1) (q.2.2.1-p.2,q.2.2.2-p.2);unfold dstV;simp only[];omega
theorem dst_1(q:Bx)(p:Int×Int):5400000-(dstV q p).1=(altP (q.1,q.2.1) (p.1,p.1) (q.2.2.1-p.2,q.2.2.2-p.2)).2:=by unfold dstV;simp only[];omega
theorem dst_2(q:Bx)(p:Int×Int):5400000-(dstV q p).2=(altP (q.1,q.2.1) (p.1,p.1) (q.2.2.1-p.2,q.2.2.2-p.2)).1:=by unfold dstV;simp only[];omega
structure OkB(q:Bx):Prop where
 a0: -5400000≤q.1
 a1:q.1≤q.2.1
 a2:q.2.1≤5400000
 o0: -10800000≤q.2.2.1
 o1:q.2.2.1≤q.2.2.2
 o2:q.2.2.2≤10800000
def okP(p:Int×Int):Bool:=decide (-5400000≤p.1∧p.1≤5400000∧ -10800000≤p.2∧p.2<10800000)
theorem okP_iff{p:Int×Int}:okP p=true↔(-5400000≤p.1∧p.1≤5400000∧ -10800000≤p.2∧p.2<10800000):=by unfold okP;exact decide_eq_true_iff
theorem alt_box(q:Bx)(p:Int×Int)(W:World)(hq:OkB q)(hp:okP p=true):Calls Tryz.prog 54 #[.agg #[vi vk q.1,vi vk q.2.1,vi vk p.1,vi vk p.1,vi vk (q.2.2.1-p.2),vi vk (q.2.2.2-p.2)]] W fun e w'=>e=.returned (.tuple #[.agg #[vi vk (5400000-(dstV q p).2),vi vk (5400000-(dstV q p).1)],vi vk 0])∧Below W.heap.size W w':=by
 obtain⟨h0,h1,h2,h3⟩:=okP_iff.1 hp;obtain⟨a0,a1,a2,o0,o1,o2⟩:=hq;have hm:=Trig.sinT_meets (q.1,q.2.1) (p.1,p.1) (q.2.2.1-p.2,q.2.2.2-p.2);have:=Altitude_yes (q.1,q.2.1) (p.1,p.1) (q.2.2.1-p.2,q.2.2.2-p.2) W ⟨a0,a1,a2⟩ ⟨h0,Int.le_refl _,h1⟩ (avB_true.2 so_) hm.1 hm.2;refine this.mono ?_;rintro e w' ⟨he,hb⟩
 refine⟨?_,hb⟩;rw[he,dst_1,dst_2];rfl
theorem ralt_box(q:Bx)(p:Int×Int)(W:World)(hq:OkB q)(hp:okP p=true):Calls Tryz.prog 98 #[.agg #[vi vk q.1,vi vk q.2.1,vi vk p.1,vi vk p.1,vi vk (q.2.2.1-p.2),vi vk (q.2.2.2-p.2)]] W fun e w'=>e=.returned (.agg #[vi vk (5400000-(dstV q p).2),vi vk (5400000-(dstV q p).1)])∧Below W.heap.size W w':=by
 obtain⟨h0,h1,h2,h3⟩:=okP_iff.1 hp;obtain⟨a0,a1,a2,o0,o1,o2⟩:=hq;have hm:=Trig.sinT_meets (q.1,q.2.1) (p.1,p.1) (q.2.2.1-p.2,q.2.2.2-p.2);have:=rAltitude_yes (q.1,q.2.1) (p.1,p.1) (q.2.2.1-p.2,q.2.2.2-p.2) W so_ so_ so_ hm.1 hm.2;refine this.mono ?_;rintro e w' ⟨he,hb⟩
 refine⟨?_,hb⟩;rw[he,dst_1,dst_2];rfl
theorem r5Sub_any(a b c d:Int)(w:World)(h0: -2000000000000≤a)(h1:a≤2000000000000)(h2: -2000000000000≤b)(h3:b≤2000000000000)(h4: -2000000000000≤c)(h5:c≤2000000000000)(h6: -2000000000000≤d)(h7:d≤2000000000000):
 Calls Tryz.prog 137 #[.agg #[vi vk a,vi vk b],.agg #[vi vk c,vi vk d]] w fun e w'=>e=.returned (.agg #[vi vk (a-d),vi vk (b-c)])∧Below w.heap.size w w':=by
 go_enter func137,ntmps137;go_wp2;refine bodyPost_ret (v:=.agg #[vi vk (a-d),vi vk (b-c)]) (by simp[results,results137,go_sem, *];done) rfl ⟨rfl,?_⟩;exact bl_
theorem blk6{W:World}{g:Nat}{t:TypeId}{z:Value}(h:Blk W g t #[z,z,z,z,z,z])(u0 u1 u2 u3 u4 u5:Value):Blk ((((((W.setCell ⟨g,0,none⟩ u0).setCell ⟨g,1,none⟩ u1).setCell ⟨g,2,none⟩ u2).setCell ⟨g,3,none⟩ u3).setCell ⟨g,4,none⟩ u4).setCell ⟨g,5,none⟩ u5) g t #[u0,u1,u2,u3,u4,u5]:=by
 have:=((((((h.set_ 0 u0).set_ 1 u1).set_ 2 u2).set_ 3 u3).set_ 4 u4).set_ 5 u5);simp only[List.setIfInBounds_toArray,List.set_cons_zero,List.set_cons_succ] at this;exact this
theorem bl6{B:Nat}{a w:World}{g:Nat}(h:Below B a w)(hg:B≤g)(u0 u1 u2 u3 u4 u5:Value):Below B a ((((((w.setCell ⟨g,0,none⟩ u0).setCell ⟨g,1,none⟩ u1).setCell ⟨g,2,none⟩ u2).setCell ⟨g,3,none⟩ u3).setCell ⟨g,4,none⟩ u4).setCell ⟨g,5,none⟩ u5):=
 ((((((h.setCell hg u0).setCell hg u1).setCell hg u2).setCell hg u3).setCell hg u4).setCell hg u5)
theorem triS{W0 w':World}{g k:Nat}{t t':TypeId}{a0 a1 b0 b1 q0 q1 q2 q3:Int}{z0 z1:Value}(h:Blk W0 g t #[vi vk a0,vi vk a1,vi vk b0,vi vk b1,z0,z1])(h':Blk W0 k t' #[vi vk q0,vi vk q1,vi vk q2,vi vk q3])(hb:Below W0.heap.size W0 w'):
 w'.cell? ⟨g,0,none⟩=some (vi vk a0)∧w'.cell? ⟨g,1,none⟩=some (vi vk a1)∧w'.cell? ⟨g,2,none⟩=some (vi vk b0)∧w'.cell? ⟨g,3,none⟩=some (vi vk b1)∧w'.cell? ⟨k,0,none⟩=some (vi vk q0)∧w'.cell? ⟨k,1,none⟩=some (vi vk q1)∧w'.cell? ⟨k,2,none⟩=some (vi vk q2)∧w'.cell? ⟨k,3,none⟩=some (vi vk q3)∧Below W0.heap.size W0 w':=by
 have u:=h.below hb h.lt;have v:=h'.below hb h'.lt;exact⟨u.cell 0,u.cell 1,u.cell 2,u.cell 3,v.cell 0,v.cell 1,v.cell 2,v.cell 3,hb⟩
theorem Triangle2_any(a0 a1 b0 b1 r0 r1 q0 q1 q2 q3:Int)(w:World)(h4: -40000000≤b0∧b0≤40000000∧ -40000000≤b1∧b1≤40000000∧ -40000000≤q2∧q2≤40000000∧ -40000000≤q3∧q3≤40000000):
 Calls Tryz.prog 99 #[.agg #[vi vk a0,vi vk a1,vi vk b0,vi vk b1,vi vk r0,vi vk r1],.agg #[vi vk q0,vi vk q1,vi vk q2,vi vk q3]] w fun e w'=>e=.returned (.agg #[vi vk q0,vi vk q1,vi vk a0,vi vk a1,vi vk (q2-b1),vi vk (q3-b0)])∧Below w.heap.size w w':=by
 have KS:=hid (fun W=>r5Sub_any q2 q3 b0 b1 W om_ om_ om_ om_ om_ om_ om_ om_);generalize q2-b1=y0 at*;generalize q3-b0=y1 at*;clear h4;have T1:=hid (((Blk.new w 138 #[vi vk a0,vi vk a1,vi vk b0,vi vk b1,vi vk r0,vi vk r1]).alloc (.cells #[vi vk q0,vi vk q1,vi vk q2,vi vk q3] 46)).alloc (.cells #[vi vk 0,vi vk 0,vi vk 0,vi vk 0,vi vk 0,vi vk 0] 95));have T2:Hid (Blk (((w.alloc (.cells #[vi vk a0,vi vk a1,vi vk b0,vi vk b1,vi vk r0,vi vk r1] 138)).alloc (.cells #[vi vk q0,vi vk q1,vi vk q2,vi vk q3] 46)).alloc (.cells #[vi vk 0,vi vk 0,vi vk 0,vi vk 0,vi vk 0,vi vk 0] 95)) (w.heap.size+1) 46 #[vi vk q0,vi vk q1,vi vk q2,vi vk q3]):=hid (by
  have:=(Blk.new (w.alloc (.cells #[vi vk a0,vi vk a1,vi vk b0,vi vk b1,vi vk r0,vi vk r1] 138)) 46 #[vi vk q0,vi vk q1,vi vk q2,vi vk q3]).alloc (.cells #[vi vk 0,vi vk 0,vi vk 0,vi vk 0,vi vk 0,vi vk 0] 95);rwa [World.size_alloc] at this)
 have TR:Hid (Blk (((w.alloc (.cells #[vi vk a0,vi vk a1,vi vk b0,vi vk b1,vi vk r0,vi vk r1] 138)).alloc (.cells #[vi vk q0,vi vk q1,vi vk q2,vi vk q3] 46)).alloc (.cells #[vi vk 0,vi vk 0,vi vk 0,vi vk 0,vi vk 0,vi vk 0] 95)) (w.heap.size+1+1) 95 #[vi vk 0,vi vk 0,vi vk 0,vi vk 0,vi vk 0,vi vk 0]):=hid (by
  have:=Blk.new ((w.alloc (.cells #[vi vk a0,vi vk a1,vi vk b0,vi vk b1,vi vk r0,vi vk r1] 138)).alloc (.cells #[vi vk q0,vi vk q1,vi vk q2,vi vk q3] 46)) 95 #[vi vk 0,vi vk 0,vi vk 0,vi vk 0,vi vk 0,vi vk 0];rwa [World.size_alloc,World.size_alloc] at this)
 have B0:=hid (((bl_alloc w (.cells #[vi vk a0,vi vk a1,vi vk b0,vi vk b1,vi vk r0,vi vk r1] 138)).alloc (by simp) (.cells #[vi vk q0,vi vk q1,vi vk q2,vi vk q3] 46)).alloc (by simp;omega) (.cells #[vi vk 0,vi vk 0,vi vk 0,vi vk 0,vi vk 0,vi vk 0] 95));go_enter func99,ntmps99;go_upto_region 1 with (fail)
 generalize ((w.alloc (.cells #[vi vk a0,vi vk a1,vi vk b0,vi vk b1,vi vk r0,vi vk r1] 138)).alloc (.cells #[vi vk q0,vi vk q1,vi vk q2,vi vk q3] 46)).alloc (.cells #[vi vk 0,vi vk 0,vi vk 0,vi vk 0,vi vk 0,vi vk 0] 95)=W0 at*;obtain⟨x0,x1,x2,x3,x4,x5,x6,x7,-⟩:=triS T1.out T2.out (Below.refl _ _);have hn1: ¬w.heap.size+1+1=w.heap.size:=by omega
 have hn2: ¬w.heap.size+1+1=w.heap.size+1:=by omega
 go_region_held3 (fun w'=>w'.cell? ⟨w.heap.size,0,none⟩=some (vi vk a0)∧w'.cell? ⟨w.heap.size,1,none⟩=some (vi vk a1)∧w'.cell? ⟨w.heap.size,2,none⟩=some (vi vk b0)∧w'.cell? ⟨w.heap.size,3,none⟩=some (vi vk b1)∧w'.cell? ⟨w.heap.size+1,0,none⟩=some (vi vk q0)∧w'.cell? ⟨w.heap.size+1,1,none⟩=some (vi vk q1)∧w'.cell? ⟨w.heap.size+1,2,none⟩=some (vi vk q2)∧w'.cell? ⟨w.heap.size+1,3,none⟩=some (vi vk q3)) (simp[*,World.cell?_setCell_other]) (first
  |(go_at_call 137;(with_reducible refine(KS.out _).mono ?_);rintro e w9 ⟨rfl,hb9⟩;(first|(replace hb9:=first_b hb9)|skip);have Z9:=hb9;clear x0 x1 x2 x3 x4 x5 x6 x7;have B9:=hid (B0.out.trans (Z9.mono B0.out.size));have T9:=hid (TR.out.below Z9 TR.out.lt);obtain⟨x0,x1,x2,x3,x4,x5,x6,x7,-⟩:=triS T1.out T2.out Z9;have z9:=fun i=>T9.out.cell i;have f9:=fun i=>T9.out.frozen i)
  |fail)
 all_goals
  have hB:=B9.out;have HZ:=hid T9.out;clear x0 x1 x2 x3 x4 x5 x6 x7 KS T1 T2 TR T9;go_wp2;clear z9 f9;generalize hW:World.setCell _ (⟨w.heap.size+1+1,5,none⟩:Addr) _=W6;have TB:Blk W6 (w.heap.size+1+1) 95 #[vi vk q0,vi vk q1,vi vk a0,vi vk a1,vi vk y0,vi vk y1]:=by
   rw[←hW];with_reducible exact blk6 HZ.out _ _ _ _ _ _
  have hBW:Below w.heap.size w W6:=by
   rw[←hW];with_reducible exact bl6 hB (Nat.le_succ_of_le (Nat.le_succ _)) _ _ _ _ _ _
  have z:=fun i=>TB.cell i;clear hW hB HZ TB;have c0:W6.cell? ⟨w.heap.size+1+1,0,none⟩=some (vi vk q0):=z 0;have c1:W6.cell? ⟨w.heap.size+1+1,1,none⟩=some (vi vk q1):=z 1;have c2:W6.cell? ⟨w.heap.size+1+1,2,none⟩=some (vi vk a0):=z 2;have c3:W6.cell? ⟨w.heap.size+1+1,3,none⟩=some (vi vk a1):=z 3;have c4:W6.cell? ⟨w.heap.size+1+1,4,none⟩=some (vi vk y0):=z 4;have c5:W6.cell? ⟨w.heap.size+1+1,5,none⟩=some (vi vk y1):=z 5;clear z;refine bodyPost_ret (v:=.agg #[vi vk q0,vi vk q1,vi vk a0,vi vk a1,vi vk y0,vi vk y1]) ?_ rfl ⟨rfl,hBW⟩;clear hBW;simp[results,results99,go_sem,c0,c1,c2,c3,c4,c5]
theorem Triangle_any(a0 a1 b0 b1 q0 q1 q2 q3:Int)(w:World)(h4: -20000000≤b0∧b0≤20000000∧ -20000000≤b1∧b1≤20000000∧ -20000000≤q2∧q2≤20000000∧ -20000000≤q3∧q3≤20000000):
 Calls Tryz.prog 99 #[.agg #[vi vk a0,vi vk a1,vi vk b0,vi vk b1,vi vk 0,vi vk 0],.agg #[vi vk q0,vi vk q1,vi vk q2,vi vk q3]] w fun e w'=>e=.returned (.agg #[vi vk q0,vi vk q1,vi vk a0,vi vk a1,vi vk (q2-b1),vi vk (q3-b0)])∧Below w.heap.size w w':=Triangle2_any a0 a1 b0 b1 0 0 q0 q1 q2 q3 w om_
theorem Distance_any(q:Bx)(p:Int×Int)(w:World)(hq:OkB q)(hp:okP p=true):
 Calls Tryz.prog 69 #[.agg #[vi vk q.1,vi vk q.2.1,vi vk q.2.2.1,vi vk q.2.2.2],.agg #[vi vk p.1,vi vk p.2]] w fun e w'=>e=.returned (.agg #[vi vk (dstV q p).1,vi vk (dstV q p).2])∧Below w.heap.size w w':=by
 have KA:=fun W=>ralt_box q p W hq hp;have hd:=dst_bd q p;have KT:=fun W=>Triangle_any p.1 p.1 p.2 p.2 q.1 q.2.1 q.2.2.1 q.2.2.2 W (by have:=okP_iff.1 hp;have:=hq.o0;have:=hq.o1;have:=hq.o2;omega);generalize (dstV q p).1=d0 at*;generalize (dstV q p).2=d1 at*;obtain⟨q0,q1,q2,q3⟩:=q;obtain⟨p0,p1⟩:=p;simp only[] at KA KT⊢;clear hq hp;have KA:=hid KA;have KT:=hid KT;have TR:Hid (D2 (((w.alloc (.cells #[vi vk q0,vi vk q1,vi vk q2,vi vk q3] 46)).alloc (.cells #[vi vk p0,vi vk p1] 50)).alloc (.cells #[vi vk 0,vi vk 0] 33)) (w.heap.size+1+1) 0 0):=hid (by
  have:=D2.new ((w.alloc (.cells #[vi vk q0,vi vk q1,vi vk q2,vi vk q3] 46)).alloc (.cells #[vi vk p0,vi vk p1] 50)) 0 0 33;rwa [World.size_alloc,World.size_alloc] at this)
 have B0:=hid (((bl_alloc w (.cells #[vi vk q0,vi vk q1,vi vk q2,vi vk q3] 46)).alloc (by simp) (.cells #[vi vk p0,vi vk p1] 50)).alloc (by simp;omega) (.cells #[vi vk 0,vi vk 0] 33));go_enter func69,ntmps69;go_wp2_with fail;(with_reducible refine(KT.out _).mono ?_)
 rintro e w1 ⟨rfl,hb1⟩
 have hs0:=TR.out.lt;have hb1':=(bl_alloc _ _).trans (hb1.mono (by simp));have TR1:=hid (TR.out.below hb1' TR.out.lt);have B1:=hid (B0.out.trans (hb1'.mono B0.out.size));clear hb1 hb1' TR B0 KT hs0;go_wp2_with fail;(with_reducible refine(KA.out _).mono ?_)
 rintro e w2 ⟨rfl,hb2⟩
 have B2:=hid (B1.out.trans (hb2.mono B1.out.size));obtain⟨rt,ra,rb,rf0,rf1⟩:=TR1.out.below hb2 TR1.out.lt;clear hb2 TR1;have n1:5400000-(5400000-d0)=d0:=by omega
 have n2:5400000-(5400000-d1)=d1:=by omega
 go_wp2;refine bodyPost_ret (v:=.agg #[vi vk d0,vi vk d1]) (by simp[results,results69,go_sem, *];done) rfl ⟨rfl,?_⟩;have B3:=B2.out;have hs3:=B3.size;exact bl_
noncomputable def radF (D:List Bx) (p:Int×Int) (k:Nat):Int×Int:=(D.take k).foldl (fun s q=>(max s.1 (dstV q p).1,max s.2 (dstV q p).2)) (0,0)
theorem radF_succ(D:List Bx)(p:Int×Int)(k:Nat)(hk:k<D.length):radF D p (k+1)=(max (radF D p k).1 (dstV (gb D k) p).1,max (radF D p k).2 (dstV (gb D k) p).2):=by
 unfold radF;rw[List.take_succ_eq_append_getElem hk,List.foldl_append];simp[gb,hk]
theorem radF_zero(D:List Bx)(p:Int×Int):radF D p 0=(0,0):=by simp[radF]
theorem radF_one(D:List Bx)(p:Int×Int)(h:0<D.length):radF D p 1=dstV (gb D 0) p:=by
 have hd:=dst_bd (gb D 0) p;rw[radF_succ D p 0 h,radF_zero];simp only[];rw[show max 0 (dstV (gb D 0) p).1=(dstV (gb D 0) p).1 by omega,show max 0 (dstV (gb D 0) p).2=(dstV (gb D 0) p).2 by omega]
theorem okB_bx(x:Cl)(hv:Vl x):OkB (bxI x):=by
 obtain⟨h1,h2,h3,h4,h5,h6,h7,h8⟩:=box_nums hv;constructor<;>(simp only[bxI];omega)
theorem okB_gb{L:List Cl}(hv: ∀x∈L,Vl x){k:Nat}(hk:k<(L.map bxI).length):OkB (gb (L.map bxI) k):=by
 have:gb (L.map bxI) k=bxI (gt L k):=by
  rw[List.length_map] at hk;simp[gb,gt,hk]
 rw[this];rw[List.length_map] at hk;exact okB_bx _ (hv _ (by simp[gt,hk]))
theorem Radius_yes(A:Option Addr)(n c:Nat)(L:List Cl)(p0 p1:Int)(w:World)(hr:Reads w w.heap.size 3 A n (cvs L))(hn:n≤maxLen)(hv:vrB L=true)(hp:okP (p0,p1)=true)(h0:0<n):
 Calls Tryz.prog 20 #[.slice A n c,.agg #[vi vk p0,vi vk p1]] w fun e w'=>e=.returned (.tuple #[.agg #[vi vk (radF (L.map bxI) (p0,p1) n).1,vi vk (radF (L.map bxI) (p0,p1) n).2],vi vk 0])∧Below w.heap.size w w':=by
 have HL:Hid ((L.map bxI).length=n):=hid (by rw[List.length_map];exact hr.len);have KB:=hid (fun W (hW:Below w.heap.size w W)=>boxes_any A n c L W ((hr.below hW).more hW.size) hn);rw[hv] at KB;simp only[if_true] at KB;have kp:=fun W=>vpt_any p0 p1 W;rw[show vptB p0 p1=true from hp] at kp;have KP:=hid kp;clear kp;have hvl:=((vrB_iff L).1 hv).2.1;have hfew:n≤4000:=by have:=((vrB_iff L).1 hv).1;rw[hr.len] at this;exact this
 have KA:=hid (fun k (hk:k<n) W=>alt_box (gb (L.map bxI) k) (p0,p1) W (okB_gb hvl (by rw[HL.out];exact hk)) hp);have KO:=hid (fun k (hk:k<n)=>okB_gb hvl (k:=k) (by rw[HL.out];exact hk));have HP:=hid (okP_iff.1 hp);clear hp hv hn hr hvl;generalize L.map bxI=D at*;have T0:=hid ((K2.new w p0 p1 50).alloc (.cells #[vi vk 0,vi vk 0] 33));have z0:=K2.new (w.alloc (.cells #[vi vk p0,vi vk p1] 50)) 0 0 33;rw[World.size_alloc] at z0;have Z0:=hid z0;clear z0;have B0:=hid ((bl_alloc w (.cells #[vi vk p0,vi vk p1] 50)).alloc (by simp) (.cells #[vi vk 0,vi vk 0] 33));go_enter func20,ntmps20;go_wp2_with fail;(with_reducible refine(KB.out _ B0.out).mono ?_)
 rintro e w1 ⟨v,rfl,hown,hb1⟩
 rw[HL.out] at hown;obtain⟨A1,c1,rfl,ra,-,-⟩:=own_form hown;have RA:=hid ra;have T1:=hid (T0.out.below hb1 T0.out.lt);have Z1:=hid (Z0.out.below hb1 Z0.out.lt);have B1:=hid (B0.out.trans (hb1.mono B0.out.size));clear hown hb1 ra T0 Z0 B0 KB;obtain⟨tt,t0,t1,-,-⟩:=T1.out;go_wp2_with fail;clear t0 t1 tt;(with_reducible refine(KP.out _).mono ?_)
 rintro e w2 ⟨rfl,hb2⟩
 have T2:=hid ((T1.out.below hb2 T1.out.lt).alloc (.cells #[vi vk 0,vi vk 0] 33));have Z2:=hid ((Z1.out.below hb2 Z1.out.lt).alloc (.cells #[vi vk 0,vi vk 0] 33));have hz1:=hb2.size;have B2:=hid ((B1.out.trans (hb2.mono B1.out.size)).alloc (by have:=B1.out.size;omega) (.cells #[vi vk 0,vi vk 0] 33));have C2:=hid (hb2.alloc om_ (.cells #[vi vk 0,vi vk 0] 33));have N2:=hid (K2.new w2 0 0 33);have hgt:w.heap.size+1<w2.heap.size:=by have:=Z1.out.lt;omega
 clear T1 Z1 hb2 KP;have hn0:((n:Int)==0)=false:=by simp;omega
 generalize hg8:w2.heap.size=g8 at*;go_wp2;go_loopw [37] (fun i wr=> ∃k:Nat,k≤n∧i=vi vk k∧K2 wr g8 (radF D (p0,p1) k).1 (radF D (p0,p1) k).2∧K2 wr w.heap.size p0 p1∧K2 wr (w.heap.size+1) 0 0∧Below w.heap.size w wr∧Below w1.heap.size w1 wr) (fun i _=>n-(intOf i).toNat)
 case atStart=>exact⟨0,Nat.zero_le _,rfl,by rw[radF_zero];exact N2.out,T2.out,Z2.out,B2.out,C2.out⟩
 case round=>
  obtain⟨k,hk,rfl,hN,hT,hZ,hB,hC⟩:=hrel;clear N2 T2 Z2 B2 C2;by_cases hlt:k<n
  · obtain⟨b,off,rfl,hb,x0,x1,x2,x3⟩:=BReads.elem RA.out hlt
    have y0:=(hC.cell (p:=⟨b,off+k*4,none⟩) hb).trans x0;have y1:=(hC.cell (p:=⟨b,off+k*4+1,none⟩) hb).trans x1;have y2:=(hC.cell (p:=⟨b,off+k*4+2,none⟩) hb).trans x2;have y3:=(hC.cell (p:=⟨b,off+k*4+3,none⟩) hb).trans x3;have HF:=hid (radF_succ D (p0,p1) k (by rw[HL.out];exact hlt));have ka:=hid (KA.out k hlt);have ko:=KO.out k hlt;have hdb:=dst_bd (gb D k) (p0,p1);have hs0:k=0→(radF D (p0,p1) k).1=0∧(radF D (p0,p1) k).2=0:=fun e=>by subst e;rw[radF_zero];exact⟨rfl,rfl⟩
    generalize dstV (gb D k) (p0,p1)=d at*;generalize gb D k=q at*;generalize radF D (p0,p1) k=s at*;obtain⟨q0,q1,q2,q3⟩:=q;obtain⟨d0,d1⟩:=d;obtain⟨s0,s1⟩:=s;simp only[] at y0 y1 y2 y3 HF ka hdb hN hs0;obtain⟨-,-,-,o3,o4,o5⟩:=ko;replace o3: -10800000≤q2:=o3
    replace o4:q2≤q3:=o4
    replace o5:q3≤10800000:=o5
    have hpp:=HP.out;have n0:wrap64 (q2-p1)=q2-p1:=IntWalk.wrap64_in _ om_;have n1:wrap64 (q3-p1)=q3-p1:=IntWalk.wrap64_in _ om_;clear x0 x1 x2 x3 o3 o4 o5 hpp KA KO;have HN:=hid hN;have HT:=hid hT;have HZ:=hid hZ;have HB:=hid hB;have HC:=hid hC;obtain⟨tt,t0,t1,-,-⟩:=hT;clear hN hZ hB hC;go_wp2_with fail;(with_reducible refine(ka.out _).mono ?_)
    rintro e w5 ⟨rfl,hb5⟩
    have hb6:=two_bl hb5;clear hb5 y0 y1 y2 y3 t0 t1 tt n0 n1;have HN5:=hid (((HN.out.below hb6 HN.out.lt).alloc (.cells #[vi vk (5400000-d1),vi vk (5400000-d0)] 33)).alloc (.cells #[vi vk d0,vi vk d1] 33));have HT5:=hid (((HT.out.below hb6 HT.out.lt).alloc (.cells #[vi vk (5400000-d1),vi vk (5400000-d0)] 33)).alloc (.cells #[vi vk d0,vi vk d1] 33));have HZ5:=hid (((HZ.out.below hb6 HZ.out.lt).alloc (.cells #[vi vk (5400000-d1),vi vk (5400000-d0)] 33)).alloc (.cells #[vi vk d0,vi vk d1] 33));have hs5:=hb6.size;have hsB:=HB.out.size;have hsC:=HC.out.size;have HB5:=hid (((HB.out.trans (hb6.mono hsB)).alloc om_ (.cells #[vi vk (5400000-d1),vi vk (5400000-d0)] 33)).alloc (by simp;omega) (.cells #[vi vk d0,vi vk d1] 33));have HC5:=hid (((HC.out.trans (hb6.mono hsC)).alloc om_ (.cells #[vi vk (5400000-d1),vi vk (5400000-d0)] 33)).alloc (by simp;omega) (.cells #[vi vk d0,vi vk d1] 33));have hlt8:=HN.out.lt;clear HN HT HZ HB HC hb6 ka;have e0:5400000-(5400000-d0)=d0:=by omega
    have e1:5400000-(5400000-d1)=d1:=by omega
    have hx1: ¬w5.heap.size+1=g8:=by omega
    have hx2: ¬g8=w5.heap.size+1:=by omega
    have hg1:w.heap.size≠g8:=by omega
    have hg2:w.heap.size+1≠g8:=by omega
    obtain⟨nt,n0,n1,nf0,nf1⟩:=HN5.out;by_cases hk0:k=0
    · obtain⟨rfl,rfl⟩:=hs0 hk0
      have hd:((k:Int)==0)=true:=by simp[hk0]
      clear hs0 hk0;go_wp2;go_roundw
      case rel=>
       exact⟨k+1,om_,by go_num,by
        rw[HF.out,show max 0 d0=d0 by omega,show max 0 d1=d1 by omega];exact(((HN5.out.set0 _).set1 _).set0 _).set1 _,(((HT5.out.far hg1 _).far hg1 _).far hg1 _).far hg1 _,(((HZ5.out.far hg2 _).far hg2 _).far hg2 _).far hg2 _,(((HB5.out.setCell so_ _).setCell so_ _).setCell so_ _).setCell so_ _,(((HC5.out.setCell so_ _).setCell so_ _).setCell so_ _).setCell so_ _⟩
      case measure=>simp[intOf];omega
    · have hkk: ¬(k:Int)=0:=by omega
      clear hs0;go_wp2;go_roundw
      case rel=>
       exact⟨k+1,om_,by go_num,by rw[HF.out];exact(HN5.out.set0 _).set1 _,(HT5.out.far hg1 _).far hg1 _,(HZ5.out.far hg2 _).far hg2 _,(HB5.out.setCell so_ _).setCell so_ _,(HC5.out.setCell so_ _).setCell so_ _⟩
      case measure=>simp[intOf];omega
  · obtain rfl:k=n:=by omega
    obtain⟨⟨s0,s1⟩,hs⟩: ∃s,radF D (p0,p1) k=s:=⟨_,rfl⟩;rw[hs] at hN;simp only[] at hN;have HS:=hid hs;clear hs;obtain⟨zt,z0,z1,zf0,zf1⟩:=hZ;obtain⟨nt,n0,n1,-,-⟩:=hN;have HB:=hid hB;clear hB hC hT;go_wp2;refine bodyPost_ret (v:=.tuple #[.agg #[vi vk s0,vi vk s1],vi vk 0]) (by simp[results,results20,go_sem, *];done) rfl ⟨by rw[HS.out],?_⟩;exact(HB.out.setCell (by simp) _).setCell (by simp) _
theorem latF_bd{D:List Bx}(hD: ∀k,k<D.length→OkB (gb D k))(h0:0<D.length)(k:Nat)(hk:k≤D.length): -5400000≤(latF D k).1∧(latF D k).1≤5400000∧ -5400000≤(latF D k).2∧(latF D k).2≤5400000:=by
 induction k with
 |zero=>
  obtain⟨a0,a1,a2,-,-,-⟩:=hD 0 h0;rw[latF_zero];simp only[];omega
 |succ k ih=>
  have ih:=ih om_;obtain⟨a0,a1,a2,-,-,-⟩:=hD k om_;rw[latF_succ D k om_];simp only[];omega
noncomputable def bndV (L:List Cl):Bx:=((latF (L.map bxI) L.length).1,(latF (L.map bxI) L.length).2,(rarn (lons (L.map bxI))).1,(rarn (lons (L.map bxI))).2)
noncomputable def cenV (L:List Cl):Int×Int:=(((bndV L).1+(bndV L).2.1)/2,sgA (((bndV L).2.2.1+(bndV L).2.2.2)/2))
theorem bnd_bd{L:List Cl}(hv: ∀x∈L,Vl x)(h0:0<L.length): -5400000≤(bndV L).1∧(bndV L).1≤5400000∧ -5400000≤(bndV L).2.1∧(bndV L).2.1≤5400000∧ -10800000≤(bndV L).2.2.1∧(bndV L).2.2.1≤10800000∧(bndV L).2.2.1≤(bndV L).2.2.2∧(bndV L).2.2.2≤(bndV L).2.2.1+43200000:=by
 have h1:=latF_bd (D:=L.map bxI) (fun k hk=>okB_gb hv hk) (by rw[List.length_map];exact h0) L.length (by rw[List.length_map];exact Nat.le_refl _);have h2:=foldR_bd (lons (L.map bxI)) (okR_of (okC_bx hv)) (lons (L.map bxI)).length (Nat.le_refl _);unfold bndV rarn;simp only[];omega
theorem fBounds_yes(A:Option Addr)(n c:Nat)(L:List Cl)(w:World)(hr:Reads w w.heap.size 3 A n (cvs L))(hn:n≤maxLen)(hv:vrB L=true)(h0:0<n):
 Calls Tryz.prog 18 #[.slice A n c] w fun e w'=>e=.returned (.tuple #[.agg #[vi vk (bndV L).1,vi vk (bndV L).2.1,vi vk (bndV L).2.2.1,vi vk (bndV L).2.2.2],vi vk 0])∧Below w.heap.size w w':=by
 have hlen:(L.map bxI).length=n:=by rw[List.length_map];exact hr.len
 have hll:L.length=n:=hr.len;have hfew:n≤4000:=by rw[←hll];exact((vrB_iff L).1 hv).1
 have KB:=hid (fun W (hW:Below w.heap.size w W)=>boxes_any A n c L W ((hr.below hW).more hW.size) hn);rw[hv] at KB;simp only[if_true] at KB;have KF:=hid (fun(W:World) (A:Option Addr) (c:Nat) (h:Reads W W.heap.size 4 A n (bvs (L.map bxI)))=>fbounds_any A n c (L.map bxI) W h h0 hfew (okC_bx ((vrB_iff L).1 hv).2.1));have HLN:=hid hlen;unfold bndV;rw[hll];clear hr hn hv hfew hlen hll;generalize rarn (lons (L.map bxI))=r at*;generalize latF (L.map bxI) n=s at*;obtain⟨r0,r1⟩:=r;obtain⟨s0,s1⟩:=s;simp only[] at KF⊢;generalize L.map bxI=D at*;have B0:=hid (bl_alloc w (.cells #[vi vk 0,vi vk 0,vi vk 0,vi vk 0] 46));have Z0:=hid (K4.new w 0 0 0 0 46);go_enter func18,ntmps18;go_wp2_with fail;(with_reducible refine(KB.out _ B0.out).mono ?_)
 rintro e w1 ⟨v,rfl,hown,hb1⟩
 rw[HLN.out] at hown;obtain⟨A1,c1,rfl,ra,-,-⟩:=own_form hown;have RA:=hid ra;have Z1:=hid (Z0.out.below hb1 Z0.out.lt);have B1:=hid (B0.out.trans (hb1.mono B0.out.size));clear hown hb1 ra Z0 B0 KB;have hn0: ¬(n:Int)=0:=by omega
 go_wp2_with fail;(with_reducible refine(KF.out _ _ _ RA.out).mono ?_)
 rintro e w2 ⟨rfl,hb2⟩
 have B2:=hid (B1.out.trans (hb2.mono B1.out.size));obtain⟨zt,z0,z1,z2,z3,zf0,zf1,zf2,zf3⟩:=Z1.out.below hb2 Z1.out.lt;go_wp2;refine bodyPost_ret (v:=.tuple #[.agg #[vi vk s0,vi vk s1,vi vk r0,vi vk r1],vi vk 0]) (by simp[results,results18,go_sem, *];done) rfl ⟨rfl,?_⟩;exact bl_put4 B2.out (Nat.le_refl _)
theorem fBounds_no(A:Option Addr)(n c:Nat)(L:List Cl)(E:Int)(w:World)(hr:Reads w w.heap.size 3 A n (cvs L))(hn:n≤maxLen)(hE:(vrB L=false∧E=1)∨(vrB L=true∧n=0∧E=14)):
 Calls Tryz.prog 18 #[.slice A n c] w fun e w'=>e=.returned (.tuple #[.agg #[vi vk 0,vi vk 0,vi vk 0,vi vk 0],vi vk E])∧Below w.heap.size w w':=by
 have KB:=hid (fun W (hW:Below w.heap.size w W)=>boxes_any A n c L W ((hr.below hW).more hW.size) hn);have B0:=hid (bl_alloc w (.cells #[vi vk 0,vi vk 0,vi vk 0,vi vk 0] 46));have Z0:=hid (K4.new w 0 0 0 0 46);have hlen:L.length=n:=hr.len;rcases hE with ⟨hv,rfl⟩|⟨hv,rfl,rfl⟩
 · rw[hv] at KB
   simp only[Bool.false_eq_true,if_false] at KB;clear hr hn;go_enter func18,ntmps18;go_wp2_with fail;(with_reducible refine(KB.out _ B0.out).mono ?_)
   rintro e w1 ⟨v,rfl,hown,hb1⟩
   obtain⟨A1,c1,rfl,-,-,-⟩:=own_form hown;have B1:=hid (B0.out.trans (hb1.mono B0.out.size));obtain⟨zt,z0,z1,z2,z3,zf0,zf1,zf2,zf3⟩:=Z0.out.below hb1 Z0.out.lt;clear hown hb1 Z0 B0 KB;go_wp2;refine bodyPost_ret (v:=.tuple #[.agg #[vi vk 0,vi vk 0,vi vk 0,vi vk 0],vi vk 1]) (by simp[results,results18,go_sem, *];done) rfl ⟨rfl,?_⟩;exact bl_put4 B1.out (Nat.le_refl _)
 · obtain rfl:=List.eq_nil_of_length_eq_zero hlen
   rw[hv] at KB;simp only[if_true,List.map_nil] at KB;clear hr hn;go_enter func18,ntmps18;go_wp2_with fail;(with_reducible refine(KB.out _ B0.out).mono ?_)
   rintro e w1 ⟨v,rfl,hown,hb1⟩
   obtain⟨A1,c1,rfl,-,-,-⟩:=own_form hown;have B1:=hid (B0.out.trans (hb1.mono B0.out.size));obtain⟨zt,z0,z1,z2,z3,zf0,zf1,zf2,zf3⟩:=Z0.out.below hb1 Z0.out.lt;clear hown hb1 Z0 B0 KB;go_wp2;refine bodyPost_ret (v:=.tuple #[.agg #[vi vk 0,vi vk 0,vi vk 0,vi vk 0],vi vk 14]) (by simp[results,results18,go_sem, *];done) rfl ⟨rfl,?_⟩;exact bl_put4 B1.out (Nat.le_refl _)
theorem fCenter_yes(A:Option Addr)(n c:Nat)(L:List Cl)(w:World)(hr:Reads w w.heap.size 3 A n (cvs L))(hn:n≤maxLen)(hv:vrB L=true)(h0:0<n):
 Calls Tryz.prog 19 #[.slice A n c] w fun e w'=>e=.returned (.tuple #[.agg #[vi vk (cenV L).1,vi vk (cenV L).2],vi vk 0])∧Below w.heap.size w w':=by
 have KB:=hid (fun W (hW:Below w.heap.size w W)=>fBounds_yes A n c L W ((hr.below hW).more hW.size) hn hv h0);have hbd:=bnd_bd ((vrB_iff L).1 hv).2.1 (by rw[hr.len];exact h0);unfold cenV;generalize bndV L=q at*;obtain⟨l0,l1,r0,r1⟩:=q;simp only[] at KB hbd⊢;have KS:=hid (fun W=>SignedA_any ((r0+r1)/2) W om_ om_);generalize sgA ((r0+r1)/2)=sg at*;have n0:wrap64 (l0+l1)=l0+l1:=IntWalk.wrap64_in _ om_;have n1:wrap64 (r0+r1)=r0+r1:=IntWalk.wrap64_in _ om_;have m0:IntKind.i64.wrap (l0+l1)=l0+l1:=by rw[IntKind.wrap_i64];omega
 have m1:IntKind.i64.wrap (r0+r1)=r0+r1:=by rw[IntKind.wrap_i64];omega
 have n2:wrap64 ((l0+l1)/2)=(l0+l1)/2:=IntWalk.wrap64_in _ om_;have n3:wrap64 ((r0+r1)/2)=(r0+r1)/2:=IntWalk.wrap64_in _ om_;clear hr hn hv hbd;have B0:=hid (bl_alloc w (.cells #[vi vk 0,vi vk 0] 50));have Z0:=hid (K2.new w 0 0 50);go_enter func19,ntmps19;go_wp2_with fail;(with_reducible refine(KB.out _ B0.out).mono ?_)
 rintro e w1 ⟨rfl,hb1⟩
 have Z1:=hid ((Z0.out.below hb1 Z0.out.lt).alloc (.cells #[vi vk l0,vi vk l1,vi vk r0,vi vk r1] 46));have hz1:=hb1.size;have B1:=hid ((B0.out.trans (hb1.mono B0.out.size)).alloc (by have:=B0.out.size;omega) (.cells #[vi vk l0,vi vk l1,vi vk r0,vi vk r1] 46));have P1:=hid (K4.new w1 l0 l1 r0 r1 46);go_upto_region 4 with (fail)
 obtain⟨W1,hW1⟩: ∃W1,w1.alloc (.cells #[vi vk l0,vi vk l1,vi vk r0,vi vk r1] 46)=W1:=⟨_,rfl⟩;rw[hW1] at Z1 B1 P1⊢;have hlt0:w.heap.size<w1.heap.size:=by have:=B0.out.size;have:=Z0.out.lt;omega
 clear hW1 Z0 B0 KB hb1 hz1;generalize w1.heap.size=ga at*;have hn1: ¬w.heap.size=ga:=by omega
 have hn2: ¬ga=w.heap.size:=by omega
 obtain⟨pt,p0,p1,p2,p3,-,-,-,-⟩:=P1.out;go_region_held3 (fun w'=>w'.cell? ⟨ga,0,none⟩=some (vi vk l0)∧w'.cell? ⟨ga,1,none⟩=some (vi vk l1)∧w'.cell? ⟨ga,2,none⟩=some (vi vk r0)∧w'.cell? ⟨ga,3,none⟩=some (vi vk r1)) (simp[*]) (first
  |(go_at_call 52;(with_reducible refine(KS.out _).mono ?_);rintro e w9 ⟨rfl,hb9⟩;have P9:=P1.out.drew.below hb9 (by simpa using P1.out.lt);have Z9:=Z1.out.below ((bl_drew (Below.refl _ _)).trans hb9) (by simpa using Z1.out.lt);have B9:=hid (B1.out.trans (((bl_drew (Below.refl _ _)).trans hb9).mono (by simpa using B1.out.size)));obtain⟨pt9,p09,p19,p29,p39,-,-,-,-⟩:=P9;obtain⟨zt9,z09,z19,zf09,zf19⟩:=Z9;have e9:=fun(i:Nat) (u v:Value)=>(World.cell?_setCell_other (w9.setCell ⟨w.heap.size,0,none⟩ u) ⟨w.heap.size,1,none⟩ ⟨ga,i,none⟩ v (fun e=>hn1 (by injection e))).trans (World.cell?_setCell_other w9 ⟨w.heap.size,0,none⟩ ⟨ga,i,none⟩ u (fun e=>hn1 (by injection e))))
  |fail)
 go_wp2;refine bodyPost_ret (v:=.tuple #[.agg #[vi vk ((l0+l1)/2),vi vk sg],vi vk 0]) (by simp[results,results19,go_sem, *];done) rfl ⟨rfl,?_⟩;exact(B9.out.setCell (by simp) _).setCell (by simp) _
namespace Trig
theorem asn_ex{v:Int}(h: -1073741824≤v): ∃r,IsAsn v r:=by
 have h0:hiB (-5400000)≤v:=by
  have e:=hiB_neg (n:=5400000) om_ om_;rw[loB_poles.2] at e;omega
 have key: ∀N:Nat,N≤10800000→ ∃k:Nat,k≤N∧hiB (-5400000+k)≤v∧(k<N→v<hiB (-5400000+k+1)):=by
  intro N;induction N with
  |zero=>intro _;exact⟨0,Nat.le_refl _,by simpa using h0,fun h=>absurd h om_⟩
  |succ N ih=>
   intro hN;by_cases c:hiB (-5400000+((N+1:Nat):Int))≤v
   · exact⟨N+1,Nat.le_refl _,c,fun h=>absurd h om_⟩
   · obtain⟨k,k1,k2,k3⟩:=ih om_
     refine⟨k,om_,k2,fun hk=>?_⟩;by_cases e:k<N
     · exact k3 e
     · have:k=N:=by omega
       subst this;have e2:(-5400000:Int)+((k+1:Nat):Int)= -5400000+(k:Int)+1:=by omega
       rw[e2] at c;omega
 obtain⟨k,k1,k2,k3⟩:=key 10800000 (Nat.le_refl _);exact⟨-5400000+k,om_,om_,k2,fun h=>k3 om_⟩
theorem asnV_is{v:Int}(h: -1073741824≤v):IsAsn v (asnV v):=by
 obtain⟨r,hr⟩:=asn_ex h;rw[←asn_is hr];exact hr
end Trig
section
open Canon
def Td(L:List Cl):Prop:=AllV L∧(L.map blkOf).Pairwise before2∧NoFour (L.map blkOf)
theorem td_iff{L:List Cl}(hL:AllV L):Td L↔canonC (covL L)=L:=by
 rw[tidy_iff hL,pairs_iff hL,fours_iff hL];exact⟨fun h=>h.2,fun h=>⟨hL,h⟩⟩
theorem cov_one(x:Cl)(q:Nat):covL [x] q↔(spF x≤q∧q<spT x):=by simp[covL]
theorem cov_kids{p:Cl}(hp:Vl p)(h:p.1<16)(q:Nat):covL (kidsC p) q↔covL [p] q:=by
 show(covL (kidsC p) q↔covL [p] q)
 unfold covL;rw[←covB_map,←covB_map];rw[kids_blk hp h];obtain⟨k,hb⟩: ∃k,(blkOf p).1=k+1:=⟨(blkOf p).1-1,by
  have:(blkOf p).1=16-p.1.toNat:=rfl;have:=hp.l0;omega⟩
 rw[covS,covS];simp only[List.map_cons,List.map_nil,List.mem_singleton,exists_eq_left];rw[hb];simp only[Nat.add_sub_cancel];generalize (blkOf p).2=n;have e:4^(k+1)=4*4^k:=by rw[Nat.pow_succ];omega
 rw[e];generalize hu:4^k=u;simp only[kidsB,List.mem_cons,List.not_mem_nil,or_false];have m0:4*n*u=4*(n*u):=by rw[Nat.mul_assoc]
 have m1:n*(4*u)=4*(n*u):=by rw[←Nat.mul_assoc,Nat.mul_comm n 4,Nat.mul_assoc]
 have m2:(n+1)*(4*u)=4*(n*u)+4*u:=by rw[Nat.add_mul,m1];omega
 have a1:(4*n+1)*u=4*(n*u)+u:=by rw[Nat.add_mul,m0];omega
 have a2:(4*n+2)*u=4*(n*u)+2*u:=by rw[Nat.add_mul,m0]
 have a3:(4*n+3)*u=4*(n*u)+3*u:=by rw[Nat.add_mul,m0]
 have a4:(4*n+3+1)*u=4*(n*u)+4*u:=by rw[show 4*n+3+1=4*n+4 by omega,Nat.add_mul,m0]
 have b1:(4*n+1+1)*u=4*(n*u)+2*u:=a2;have b2:(4*n+2+1)*u=4*(n*u)+3*u:=a3;constructor
 · rintro⟨b,rfl|rfl|rfl|rfl,h1,h2⟩<;>simp only[hu] at h1 h2<;>(constructor<;>omega)
 · rintro⟨h1,h2⟩
   by_cases c1:q<(4*n+1)*u
   · exact⟨(k,4*n),.inl rfl,by simp only[hu];omega,by simp only[hu];omega⟩
   · by_cases c2:q<(4*n+2)*u
     · exact⟨(k,4*n+1),.inr (.inl rfl),by simp only[hu];omega,by simp only[hu];rw[show 4*n+1+1=4*n+2 by omega];omega⟩
     · by_cases c3:q<(4*n+3)*u
       · exact⟨(k,4*n+2),.inr (.inr (.inl rfl)),by simp only[hu];omega,by simp only[hu];rw[show 4*n+2+1=4*n+3 by omega];omega⟩
       · exact⟨(k,4*n+3),.inr (.inr (.inr rfl)),by simp only[hu];omega,by simp only[hu];omega⟩
theorem can_v(X:List Cl)(hX:AllV X):AllV (canonC (covL X)):=by
 have e:canonC (covL X)=regB (covB (X.map blkOf)):=canonC_congr fun q=>(covB_map X q).symm;rw[e];exact reg_v _
end
end Go.Proofs.YtdeiofgddhbdaaaGreatDoor
