/- The walks of arctrig's sums, differences, parts and multiples of numbers. -/
import Derived.Test.YtdeiofgddhbdaaaGreatHUc
set_option linter.unusedSimpArgs false
set_option linter.unusedVariables false
set_option maxHeartbeats 4000000
set_option maxRecDepth 100000
open Go.RowKit
open Go.Lib (hid)
open Go.Proofs.Tryz
open Go.Value renaming int→vi
open Go.IntKind renaming u64→vu
namespace Go.Proofs.YtdeiofgddhbdaaaGreat
structure Twq(w wx:World)(a0 a1 a2 a3 b0 b1 b2 b3:Int):Prop where
 bl:Below w.heap.size w wx
 A:Blk wx w.heap.size 242 (arr4 a0 a1 a2 a3)
 B:Blk wx (w.heap.size+1) 242 (arr4 b0 b1 b2 b3)
 C:Blk wx (w.heap.size+1+1) 242 (arr4 0 0 0 0)
theorem Twq.drew{w wx:World}{a0 a1 a2 a3 b0 b1 b2 b3:Int}(h:Twq w wx a0 a1 a2 a3 b0 b1 b2 b3):Twq w wx.drew a0 a1 a2 a3 b0 b1 b2 b3:=⟨bl_drew h.bl,h.A,h.B,h.C⟩
theorem Twq.start(w:World)(a0 a1 a2 a3 b0 b1 b2 b3:Int):Twq w (((w.alloc (.cells (arr4 a0 a1 a2 a3) 242)).alloc (.cells (arr4 b0 b1 b2 b3) 242)).alloc (.cells (arr4 0 0 0 0) 242)) a0 a1 a2 a3 b0 b1 b2 b3:=by
 refine⟨?_,?_,?_,?_⟩
 · exact(((Below.refl _ _).alloc (Nat.le_refl _) _).alloc (by simp) _).alloc (by simp;omega) _
 · exact((Blk.new w 242 (arr4 a0 a1 a2 a3)).alloc _).alloc _
 · have:=(Blk.new (w.alloc (.cells (arr4 a0 a1 a2 a3) 242)) 242 (arr4 b0 b1 b2 b3)).alloc (.cells (arr4 0 0 0 0) 242)
   simpa using this
 · have:=Blk.new ((w.alloc (.cells (arr4 a0 a1 a2 a3) 242)).alloc (.cells (arr4 b0 b1 b2 b3) 242)) 242 (arr4 0 0 0 0)
   simpa using this
theorem Twq.set_{w wx:World}{a0 a1 a2 a3 b0 b1 b2 b3:Int}(h:Twq w wx a0 a1 a2 a3 b0 b1 b2 b3)(i:Nat)(u:Value):
 Below w.heap.size w (wx.setCell ⟨w.heap.size,i,none⟩ u)∧Blk (wx.setCell ⟨w.heap.size,i,none⟩ u) w.heap.size 242 ((arr4 a0 a1 a2 a3).setIfInBounds i u)∧Blk (wx.setCell ⟨w.heap.size,i,none⟩ u) (w.heap.size+1) 242 (arr4 b0 b1 b2 b3)∧Blk (wx.setCell ⟨w.heap.size,i,none⟩ u) (w.heap.size+1+1) 242 (arr4 0 0 0 0):=
 ⟨h.bl.setCell (Nat.le_refl _) _,h.A.set_ i u,h.B.far (by simp) u,h.C.far (by simp;omega) u⟩
theorem Twq.set0{w wx:World}{a0 a1 a2 a3 b0 b1 b2 b3 d:Int}(h:Twq w wx a0 a1 a2 a3 b0 b1 b2 b3):Twq w (wx.setCell ⟨w.heap.size,0,none⟩ (vi vu d)) d a1 a2 a3 b0 b1 b2 b3:=by
 obtain⟨h1,h2,h3,h4⟩:=h.set_ 0 (vi vu d);exact⟨h1,h2,h3,h4⟩
theorem Twq.set1{w wx:World}{a0 a1 a2 a3 b0 b1 b2 b3 d:Int}(h:Twq w wx a0 a1 a2 a3 b0 b1 b2 b3):Twq w (wx.setCell ⟨w.heap.size,1,none⟩ (vi vu d)) a0 d a2 a3 b0 b1 b2 b3:=by
 obtain⟨h1,h2,h3,h4⟩:=h.set_ 1 (vi vu d);exact⟨h1,h2,h3,h4⟩
theorem Twq.set2{w wx:World}{a0 a1 a2 a3 b0 b1 b2 b3 d:Int}(h:Twq w wx a0 a1 a2 a3 b0 b1 b2 b3):Twq w (wx.setCell ⟨w.heap.size,2,none⟩ (vi vu d)) a0 a1 d a3 b0 b1 b2 b3:=by
 obtain⟨h1,h2,h3,h4⟩:=h.set_ 2 (vi vu d);exact⟨h1,h2,h3,h4⟩
theorem Twq.set3{w wx:World}{a0 a1 a2 a3 b0 b1 b2 b3 d:Int}(h:Twq w wx a0 a1 a2 a3 b0 b1 b2 b3):Twq w (wx.setCell ⟨w.heap.size,3,none⟩ (vi vu d)) a0 a1 a2 d b0 b1 b2 b3:=by
 obtain⟨h1,h2,h3,h4⟩:=h.set_ 3 (vi vu d);exact⟨h1,h2,h3,h4⟩
theorem subQ_any(a0 a1 a2 a3 b0 b1 b2 b3:Int)(w:World)(ha0:U64 a0)(ha1:U64 a1)(ha2:U64 a2)(ha3:U64 a3)(hb0:U64 b0)(hb1:U64 b1)(hb2:U64 b2)(hb3:U64 b3):
 Calls Tryz.prog 266 #[num4 a0 a1 a2 a3,num4 b0 b1 b2 b3] w fun e w'=>e=.returned (num4 (suD a0 b0 (suB a1 b1 (suB a2 b2 (suB a3 b3 0)))) (suD a1 b1 (suB a2 b2 (suB a3 b3 0))) (suD a2 b2 (suB a3 b3 0)) (suD a3 b3 0))∧Below w.heap.size w w':=by
 have s3:=hid (sub64 a3 b3 0 ha3 hb3 om_ om_);have c3:=suB_bd a3 b3 0;generalize suB a3 b3 0=k3 at*;generalize suD a3 b3 0=d3 at*;have s2:=hid (sub64 a2 b2 k3 ha2 hb2 c3.1 c3.2);have c2:=suB_bd a2 b2 k3;generalize suB a2 b2 k3=k2 at*;generalize suD a2 b2 k3=d2 at*;have s1:=hid (sub64 a1 b1 k2 ha1 hb1 c2.1 c2.2);have c1:=suB_bd a1 b1 k2;generalize suB a1 b1 k2=k1 at*;generalize suD a1 b1 k2=d1 at*;have s0:=hid (sub64 a0 b0 k1 ha0 hb0 c1.1 c1.2);generalize suB a0 b0 k1=k0 at*;generalize suD a0 b0 k1=d0 at*;clear ha0 ha1 ha2 ha3 hb0 hb1 hb2 hb3 c1 c2 c3;go_enter func266,ntmps266;go_wp2;have T4:=hid (Twq.start w a0 a1 a2 a3 b0 b1 b2 b3);unfold arr4 at T4;generalize ((w.alloc (.cells #[vi vu a0,vi vu a1,vi vu a2,vi vu a3] 242)).alloc (.cells #[vi vu b0,vi vu b1,vi vu b2,vi vu b3] 242)).alloc (.cells #[vi vu 0,vi vu 0,vi vu 0,vi vu 0] 242)=w4 at*;refine wp_loop_rounds 5 ?_;rw[rounds_succ];have x:=T4.out.A.cell 3;have f:=T4.out.A.frozen 3;have y:=T4.out.B.cell 3;simp at x y;go_upto_block 1 with (fail)
 go_cut [5] (fun s5 wy=>s5=vi vu k3∧Twq w wy a0 a1 a2 d3 b0 b1 b2 b3)
 case first=>
  have q:=s3.out;go_wp2;go_region_law (fail)
  all_goals
   go_wp2_with fail;go_meet
   case rel=>exact⟨rfl,T4.out.drew.set3⟩
 case rest=>
 obtain⟨rfl,T⟩:=hcut;rename World=>w3
 have T3:=hid T;clear x f y T T4;go_wp2;rw[rounds_succ];have x:=T3.out.A.cell 2;have f:=T3.out.A.frozen 2;have y:=T3.out.B.cell 2;simp at x y;go_upto_block 1 with (fail)
 go_cut [5] (fun s5 wy=>s5=vi vu k2∧Twq w wy a0 a1 d2 d3 b0 b1 b2 b3)
 case first=>
  have q:=s2.out;go_wp2;go_region_law (fail)
  all_goals
   go_wp2_with fail;go_meet
   case rel=>exact⟨rfl,T3.out.drew.set2⟩
 case rest=>
 obtain⟨rfl,T⟩:=hcut;rename World=>w2
 have T2:=hid T;clear x f y T T3;go_wp2;rw[rounds_succ];have x:=T2.out.A.cell 1;have f:=T2.out.A.frozen 1;have y:=T2.out.B.cell 1;simp at x y;go_upto_block 1 with (fail)
 go_cut [5] (fun s5 wy=>s5=vi vu k1∧Twq w wy a0 d1 d2 d3 b0 b1 b2 b3)
 case first=>
  have q:=s1.out;go_wp2;go_region_law (fail)
  all_goals
   go_wp2_with fail;go_meet
   case rel=>exact⟨rfl,T2.out.drew.set1⟩
 case rest=>
 obtain⟨rfl,T⟩:=hcut;rename World=>w1
 have T1:=hid T;clear x f y T T2;go_wp2;rw[rounds_succ];have x:=T1.out.A.cell 0;have f:=T1.out.A.frozen 0;have y:=T1.out.B.cell 0;simp at x y;go_upto_block 1 with (fail)
 go_cut [5] (fun s5 wy=>s5=vi vu k0∧Twq w wy d0 d1 d2 d3 b0 b1 b2 b3)
 case first=>
  have q:=s0.out;go_wp2;go_region_law (fail)
  all_goals
   go_wp2_with fail;go_meet
   case rel=>exact⟨rfl,T1.out.drew.set0⟩
 case rest=>
 obtain⟨rfl,T⟩:=hcut;rename World=>w0
 have T0:=hid T;clear x f y T T1;go_wp2;rw[rounds_succ];have x0:=T0.out.A.cell 0;have x1:=T0.out.A.cell 1;have x2:=T0.out.A.cell 2;have x3:=T0.out.A.cell 3;have z0:=T0.out.C.cell 0;have z1:=T0.out.C.cell 1;have z2:=T0.out.C.cell 2;have z3:=T0.out.C.cell 3;have f0:=T0.out.C.frozen 0;have f1:=T0.out.C.frozen 1;have f2:=T0.out.C.frozen 2;have f3:=T0.out.C.frozen 3;simp at x0 x1 x2 x3 z0 z1 z2 z3;go_wp2;refine bodyPost_ret (v:=num4 d0 d1 d2 d3) (by simp[results,results266,go_sem, *]) rfl ⟨rfl,?_⟩;exact(((T0.out.bl.setCell (by simp;omega) _).setCell (by simp;omega) _).setCell (by simp;omega) _).setCell (by simp;omega) _
theorem addQ_any(a0 a1 a2 a3 b0 b1 b2 b3:Int)(w:World)(ha0:U64 a0)(ha1:U64 a1)(ha2:U64 a2)(ha3:U64 a3)(hb0:U64 b0)(hb1:U64 b1)(hb2:U64 b2)(hb3:U64 b3):
 Calls Tryz.prog 267 #[num4 a0 a1 a2 a3,num4 b0 b1 b2 b3] w fun e w'=>e=.returned (num4 (adS a0 b0 (adC a1 b1 (adC a2 b2 (adC a3 b3 0)))) (adS a1 b1 (adC a2 b2 (adC a3 b3 0))) (adS a2 b2 (adC a3 b3 0)) (adS a3 b3 0))∧Below w.heap.size w w':=by
 have s3:=hid (add64 a3 b3 0 ha3 hb3 om_ om_);have c3:=adC_bd ha3 hb3 (by omega:(0:Int)≤0) om_;generalize adC a3 b3 0=k3 at*;generalize adS a3 b3 0=d3 at*;have s2:=hid (add64 a2 b2 k3 ha2 hb2 c3.1 c3.2);have c2:=adC_bd ha2 hb2 c3.1 c3.2;generalize adC a2 b2 k3=k2 at*;generalize adS a2 b2 k3=d2 at*;have s1:=hid (add64 a1 b1 k2 ha1 hb1 c2.1 c2.2);have c1:=adC_bd ha1 hb1 c2.1 c2.2;generalize adC a1 b1 k2=k1 at*;generalize adS a1 b1 k2=d1 at*;have s0:=hid (add64 a0 b0 k1 ha0 hb0 c1.1 c1.2);generalize adC a0 b0 k1=k0 at*;generalize adS a0 b0 k1=d0 at*;clear ha0 ha1 ha2 ha3 hb0 hb1 hb2 hb3 c1 c2 c3;go_enter func267,ntmps267;go_wp2;have T4:=hid (Twq.start w a0 a1 a2 a3 b0 b1 b2 b3);unfold arr4 at T4;generalize ((w.alloc (.cells #[vi vu a0,vi vu a1,vi vu a2,vi vu a3] 242)).alloc (.cells #[vi vu b0,vi vu b1,vi vu b2,vi vu b3] 242)).alloc (.cells #[vi vu 0,vi vu 0,vi vu 0,vi vu 0] 242)=w4 at*;refine wp_loop_rounds 5 ?_;rw[rounds_succ];have x:=T4.out.A.cell 3;have f:=T4.out.A.frozen 3;have y:=T4.out.B.cell 3;simp at x y;go_upto_block 1 with (fail)
 go_cut [5] (fun s5 wy=>s5=vi vu k3∧Twq w wy a0 a1 a2 d3 b0 b1 b2 b3)
 case first=>
  have q:=s3.out;go_wp2;go_region_law (fail)
  all_goals
   go_wp2_with fail;go_meet
   case rel=>exact⟨rfl,T4.out.drew.set3⟩
 case rest=>
 obtain⟨rfl,T⟩:=hcut;rename World=>w3
 have T3:=hid T;clear x f y T T4;go_wp2;rw[rounds_succ];have x:=T3.out.A.cell 2;have f:=T3.out.A.frozen 2;have y:=T3.out.B.cell 2;simp at x y;go_upto_block 1 with (fail)
 go_cut [5] (fun s5 wy=>s5=vi vu k2∧Twq w wy a0 a1 d2 d3 b0 b1 b2 b3)
 case first=>
  have q:=s2.out;go_wp2;go_region_law (fail)
  all_goals
   go_wp2_with fail;go_meet
   case rel=>exact⟨rfl,T3.out.drew.set2⟩
 case rest=>
 obtain⟨rfl,T⟩:=hcut;rename World=>w2
 have T2:=hid T;clear x f y T T3;go_wp2;rw[rounds_succ];have x:=T2.out.A.cell 1;have f:=T2.out.A.frozen 1;have y:=T2.out.B.cell 1;simp at x y;go_upto_block 1 with (fail)
 go_cut [5] (fun s5 wy=>s5=vi vu k1∧Twq w wy a0 d1 d2 d3 b0 b1 b2 b3)
 case first=>
  have q:=s1.out;go_wp2;go_region_law (fail)
  all_goals
   go_wp2_with fail;go_meet
   case rel=>exact⟨rfl,T2.out.drew.set1⟩
 case rest=>
 obtain⟨rfl,T⟩:=hcut;rename World=>w1
 have T1:=hid T;clear x f y T T2;go_wp2;rw[rounds_succ];have x:=T1.out.A.cell 0;have f:=T1.out.A.frozen 0;have y:=T1.out.B.cell 0;simp at x y;go_upto_block 1 with (fail)
 go_cut [5] (fun s5 wy=>s5=vi vu k0∧Twq w wy d0 d1 d2 d3 b0 b1 b2 b3)
 case first=>
  have q:=s0.out;go_wp2;go_region_law (fail)
  all_goals
   go_wp2_with fail;go_meet
   case rel=>exact⟨rfl,T1.out.drew.set0⟩
 case rest=>
 obtain⟨rfl,T⟩:=hcut;rename World=>w0
 have T0:=hid T;clear x f y T T1;go_wp2;rw[rounds_succ];have x0:=T0.out.A.cell 0;have x1:=T0.out.A.cell 1;have x2:=T0.out.A.cell 2;have x3:=T0.out.A.cell 3;have z0:=T0.out.C.cell 0;have z1:=T0.out.C.cell 1;have z2:=T0.out.C.cell 2;have z3:=T0.out.C.cell 3;have f0:=T0.out.C.frozen 0;have f1:=T0.out.C.frozen 1;have f2:=T0.out.C.frozen 2;have f3:=T0.out.C.frozen 3;simp at x0 x1 x2 x3 z0 z1 z2 z3;go_wp2;refine bodyPost_ret (v:=num4 d0 d1 d2 d3) (by simp[results,results267,go_sem, *]) rfl ⟨rfl,?_⟩;exact(((T0.out.bl.setCell (by simp;omega) _).setCell (by simp;omega) _).setCell (by simp;omega) _).setCell (by simp;omega) _
structure Onq(w wx:World)(a0 a1 a2 a3:Int):Prop where
 bl:Below w.heap.size w wx
 A:Blk wx w.heap.size 242 (arr4 a0 a1 a2 a3)
 C:Blk wx (w.heap.size+1) 242 (arr4 0 0 0 0)
theorem Onq.drewN{w wx:World}{a0 a1 a2 a3:Int}(h:Onq w wx a0 a1 a2 a3)(n:Nat):Onq w (wx.drewN n) a0 a1 a2 a3:=⟨bl_drewN h.bl n,h.A,h.C⟩
theorem Onq.start(w:World)(a0 a1 a2 a3:Int):Onq w ((w.alloc (.cells (arr4 a0 a1 a2 a3) 242)).alloc (.cells (arr4 0 0 0 0) 242)) a0 a1 a2 a3:=by
 refine⟨?_,?_,?_⟩
 · exact((Below.refl _ _).alloc (Nat.le_refl _) _).alloc (by simp) _
 · exact(Blk.new w 242 (arr4 a0 a1 a2 a3)).alloc _
 · have:=Blk.new (w.alloc (.cells (arr4 a0 a1 a2 a3) 242)) 242 (arr4 0 0 0 0)
   simpa using this
theorem Onq.set_{w wx:World}{a0 a1 a2 a3:Int}(h:Onq w wx a0 a1 a2 a3)(i:Nat)(u:Value):
 Below w.heap.size w (wx.setCell ⟨w.heap.size,i,none⟩ u)∧Blk (wx.setCell ⟨w.heap.size,i,none⟩ u) w.heap.size 242 ((arr4 a0 a1 a2 a3).setIfInBounds i u)∧Blk (wx.setCell ⟨w.heap.size,i,none⟩ u) (w.heap.size+1) 242 (arr4 0 0 0 0):=
 ⟨h.bl.setCell (Nat.le_refl _) _,h.A.set_ i u,h.C.far (by simp) u⟩
theorem Onq.set0{w wx:World}{a0 a1 a2 a3 d:Int}(h:Onq w wx a0 a1 a2 a3):Onq w (wx.setCell ⟨w.heap.size,0,none⟩ (vi vu d)) d a1 a2 a3:=by
 obtain⟨h1,h2,h3⟩:=h.set_ 0 (vi vu d);exact⟨h1,h2,h3⟩
theorem Onq.set1{w wx:World}{a0 a1 a2 a3 d:Int}(h:Onq w wx a0 a1 a2 a3):Onq w (wx.setCell ⟨w.heap.size,1,none⟩ (vi vu d)) a0 d a2 a3:=by
 obtain⟨h1,h2,h3⟩:=h.set_ 1 (vi vu d);exact⟨h1,h2,h3⟩
theorem Onq.set2{w wx:World}{a0 a1 a2 a3 d:Int}(h:Onq w wx a0 a1 a2 a3):Onq w (wx.setCell ⟨w.heap.size,2,none⟩ (vi vu d)) a0 a1 d a3:=by
 obtain⟨h1,h2,h3⟩:=h.set_ 2 (vi vu d);exact⟨h1,h2,h3⟩
theorem Onq.set3{w wx:World}{a0 a1 a2 a3 d:Int}(h:Onq w wx a0 a1 a2 a3):Onq w (wx.setCell ⟨w.heap.size,3,none⟩ (vi vu d)) a0 a1 a2 d:=by
 obtain⟨h1,h2,h3⟩:=h.set_ 3 (vi vu d);exact⟨h1,h2,h3⟩
theorem overQ_any(a0 a1 a2 a3 d:Int)(w:World)(ha0:U64 a0)(ha1:U64 a1)(ha2:U64 a2)(ha3:U64 a3)(hd0:0<d)(hd1:d<4294967296):
 Calls Tryz.prog 249 #[num4 a0 a1 a2 a3,vi vu d] w fun e w'=>e=.returned (num4 (dvQ 0 a0 d) (dvQ (dvR 0 a0 d) a1 d) (dvQ (dvR (dvR 0 a0 d) a1 d) a2 d) (dvQ (dvR (dvR (dvR 0 a0 d) a1 d) a2 d) a3 d))∧Below w.heap.size w w':=by
 have K0:Hid (∀W,Calls Tryz.prog 265 #[vi vu 0,vi vu a0,vi vu d] W fun e w'=>e=.returned (.tuple #[vi vu (dvQ 0 a0 d),vi vu (dvR 0 a0 d)])∧ ∃n,w'=W.drewN n):=hid (fun W=>div64 0 a0 d W hd0 hd1 (Int.le_refl 0) hd0 ha0);have c0:=dvR_bd 0 a0 hd0;generalize dvR 0 a0 d=t1 at*;generalize dvQ 0 a0 d=q0 at*;have K1:Hid (∀W,Calls Tryz.prog 265 #[vi vu t1,vi vu a1,vi vu d] W fun e w'=>e=.returned (.tuple #[vi vu (dvQ t1 a1 d),vi vu (dvR t1 a1 d)])∧ ∃n,w'=W.drewN n):=hid (fun W=>div64 t1 a1 d W hd0 hd1 c0.1 c0.2 ha1);have c1:=dvR_bd t1 a1 hd0;generalize dvR t1 a1 d=t2 at*;generalize dvQ t1 a1 d=q1 at*;have K2:Hid (∀W,Calls Tryz.prog 265 #[vi vu t2,vi vu a2,vi vu d] W fun e w'=>e=.returned (.tuple #[vi vu (dvQ t2 a2 d),vi vu (dvR t2 a2 d)])∧ ∃n,w'=W.drewN n):=hid (fun W=>div64 t2 a2 d W hd0 hd1 c1.1 c1.2 ha2);have c2:=dvR_bd t2 a2 hd0;generalize dvR t2 a2 d=t3 at*;generalize dvQ t2 a2 d=q2 at*;have K3:Hid (∀W,Calls Tryz.prog 265 #[vi vu t3,vi vu a3,vi vu d] W fun e w'=>e=.returned (.tuple #[vi vu (dvQ t3 a3 d),vi vu (dvR t3 a3 d)])∧ ∃n,w'=W.drewN n):=hid (fun W=>div64 t3 a3 d W hd0 hd1 c2.1 c2.2 ha3);have c3:=dvR_bd t3 a3 hd0;generalize dvR t3 a3 d=t4 at*;generalize dvQ t3 a3 d=q3 at*;clear ha0 ha1 ha2 ha3 hd0 hd1 c0 c1 c2 c3;go_enter func249,ntmps249;go_wp2;have T0:=hid (Onq.start w a0 a1 a2 a3);unfold arr4 at T0;generalize (w.alloc (.cells #[vi vu a0,vi vu a1,vi vu a2,vi vu a3] 242)).alloc (.cells #[vi vu 0,vi vu 0,vi vu 0,vi vu 0] 242)=w0 at*;refine wp_loop_rounds 5 ?_;rw[rounds_succ];have x:=T0.out.A.cell 0;simp at x;go_wp2_with fail;(with_reducible refine(K0.out _).mono ?_)
 rintro e wy ⟨rfl,n,rfl⟩
 have x:=(T0.out.drewN n).A.cell 0;have f:=(T0.out.drewN n).A.frozen 0;simp at x;go_wp2;have T1:=hid ((T0.out.drewN n).set0 (d:=q0));generalize ((w0.drewN n).setCell ⟨w.heap.size,0,none⟩ (vi vu q0))=w1 at*;clear x f K0 T0;rw[rounds_succ];have x:=T1.out.A.cell 1;simp at x;go_wp2_with fail;(with_reducible refine(K1.out _).mono ?_)
 rintro e wy ⟨rfl,n,rfl⟩
 have x:=(T1.out.drewN n).A.cell 1;have f:=(T1.out.drewN n).A.frozen 1;simp at x;go_wp2;have T2:=hid ((T1.out.drewN n).set1 (d:=q1));generalize ((w1.drewN n).setCell ⟨w.heap.size,1,none⟩ (vi vu q1))=w2 at*;clear x f K1 T1;rw[rounds_succ];have x:=T2.out.A.cell 2;simp at x;go_wp2_with fail;(with_reducible refine(K2.out _).mono ?_)
 rintro e wy ⟨rfl,n,rfl⟩
 have x:=(T2.out.drewN n).A.cell 2;have f:=(T2.out.drewN n).A.frozen 2;simp at x;go_wp2;have T3:=hid ((T2.out.drewN n).set2 (d:=q2));generalize ((w2.drewN n).setCell ⟨w.heap.size,2,none⟩ (vi vu q2))=w3 at*;clear x f K2 T2;rw[rounds_succ];have x:=T3.out.A.cell 3;simp at x;go_wp2_with fail;(with_reducible refine(K3.out _).mono ?_)
 rintro e wy ⟨rfl,n,rfl⟩
 have x:=(T3.out.drewN n).A.cell 3;have f:=(T3.out.drewN n).A.frozen 3;simp at x;go_wp2;have T4:=hid ((T3.out.drewN n).set3 (d:=q3));generalize ((w3.drewN n).setCell ⟨w.heap.size,3,none⟩ (vi vu q3))=w4 at*;clear x f K3 T3;rw[rounds_succ];have x0:=T4.out.A.cell 0;have x1:=T4.out.A.cell 1;have x2:=T4.out.A.cell 2;have x3:=T4.out.A.cell 3;have z0:=T4.out.C.cell 0;have z1:=T4.out.C.cell 1;have z2:=T4.out.C.cell 2;have z3:=T4.out.C.cell 3;have f0:=T4.out.C.frozen 0;have f1:=T4.out.C.frozen 1;have f2:=T4.out.C.frozen 2;have f3:=T4.out.C.frozen 3;simp at x0 x1 x2 x3 z0 z1 z2 z3;go_wp2;refine bodyPost_ret (v:=num4 q0 q1 q2 q3) (by simp[results,results249,go_sem, *]) rfl ⟨rfl,?_⟩;exact(((T4.out.bl.setCell (by simp) _).setCell (by simp) _).setCell (by simp) _).setCell (by simp) _
theorem timStep{a n c:Int}(ha:U64 a)(hn:U64 n)(hc:U64 c): ∃H L S C c':Int,
 (∀W,Calls Tryz.prog 252 #[vi vu a,vi vu n] W fun e w'=>e=.returned (.tuple #[vi vu H,vi vu L])∧w'=W)∧
 (∀W,(callFunc 253 #[vi vu L,vi vu c,vi vu 0]).run Tryz.prog W=.ok (.value (.tuple #[vi vu S,vi vu C])) W)∧
 0≤H∧H≤18446744073709551614∧0≤C∧C≤1∧H+C=c'∧c'≤18446744073709551615∧U64 S∧S+18446744073709551616*c'=a*n+c:=by
 have hL:=muL_u a n;have hH:=muH_bd ha hn;have e1:=mu_eq a n;have e2:=ad_eq (muL a n) c 0;have b2:=adC_bd hL hc (by omega:(0:Int)≤0) om_;have u2:=adS_u (muL a n) c 0;refine⟨muH a n,muL a n,adS (muL a n) c 0,adC (muL a n) c 0,_,fun W=>mul64 a n ha hn W,fun W=>add64_0 _ c hL hc W,hH.1,hH.2,b2.1,b2.2,rfl,om_,u2,om_⟩
def TimR(a0 a1 a2 a3 n:Int)(e:Ending):Prop:= ∃r0 r1 r2 r3 t:Int,e=.returned (num4 r0 r1 r2 r3)∧(U64 r0∧U64 r1∧U64 r2∧U64 r3)∧0≤t∧nv r0 r1 r2 r3+115792089237316195423570985008687907853269984665640564039457584007913129639936*t=a0*n*6277101735386680763835789423207666416102355444464034512896+a1*n*340282366920938463463374607431768211456+a2*n*18446744073709551616+a3*n
theorem timesQ_any(a0 a1 a2 a3 n:Int)(w:World)(ha0:U64 a0)(ha1:U64 a1)(ha2:U64 a2)(ha3:U64 a3)(hn:U64 n):
 Calls Tryz.prog 234 #[num4 a0 a1 a2 a3,vi vu n] w fun e w'=>TimR a0 a1 a2 a3 n e∧Below w.heap.size w w':=by
 have c4:U64 0:=⟨om_,om_⟩;obtain⟨H3,L3,S3,C3,t3,m3,d3,h30,h31,g30,g31,e3,q3,u3,v3⟩:=timStep ha3 hn c4;have c3:U64 t3:=⟨om_,om_⟩;have M3:=hid m3;have D3:=hid d3;have E3:=hid e3;have n3:IntKind.u64.wrap (H3+C3)=t3:=by rw[IntKind.wrap_u64];omega
 have N3:=hid n3;clear m3 d3 n3;obtain⟨H2,L2,S2,C2,t2,m2,d2,h20,h21,g20,g21,e2,q2,u2,v2⟩:=timStep ha2 hn c3;have c2:U64 t2:=⟨om_,om_⟩;have M2:=hid m2;have D2:=hid d2;have E2:=hid e2;have n2:IntKind.u64.wrap (H2+C2)=t2:=by rw[IntKind.wrap_u64];omega
 have N2:=hid n2;clear m2 d2 n2;obtain⟨H1,L1,S1,C1,t1,m1,d1,h10,h11,g10,g11,e1,q1,u1,v1⟩:=timStep ha1 hn c2;have c1:U64 t1:=⟨om_,om_⟩;have M1:=hid m1;have D1:=hid d1;have E1:=hid e1;have n1:IntKind.u64.wrap (H1+C1)=t1:=by rw[IntKind.wrap_u64];omega
 have N1:=hid n1;clear m1 d1 n1;obtain⟨H0,L0,S0,C0,t0,m0,d0,h00,h01,g00,g01,e0,q0,u0,v0⟩:=timStep ha0 hn c1;have c0:U64 t0:=⟨om_,om_⟩;have M0:=hid m0;have D0:=hid d0;have E0:=hid e0;have n0:IntKind.u64.wrap (H0+C0)=t0:=by rw[IntKind.wrap_u64];omega
 have N0:=hid n0;clear m0 d0 n0;have HS:=hid (And.intro (And.intro u0 (And.intro u1 (And.intro u2 u3))) (And.intro (And.intro v0 v1) (And.intro v2 v3)));have HT:=hid c0.1;clear ha0 ha1 ha2 ha3 hn c0 c1 c2 c3 c4 u0 u1 u2 u3 v0 v1 v2 v3 h00 h01 h10 h11 h20 h21 h30 h31 g00 g01 g10 g11 g20 g21 g30 g31 q0 q1 q2 q3 e0 e1 e2 e3;go_enter func234,ntmps234;go_wp2;have T4:=hid (Onq.start w a0 a1 a2 a3);unfold arr4 at T4;generalize (w.alloc (.cells #[vi vu a0,vi vu a1,vi vu a2,vi vu a3] 242)).alloc (.cells #[vi vu 0,vi vu 0,vi vu 0,vi vu 0] 242)=w4 at*;refine wp_loop_rounds 5 ?_;rw[rounds_succ];have x:=T4.out.A.cell 3;simp at x;go_wp2_with fail;(with_reducible refine(M3.out _).mono ?_)
 rintro e wy ⟨rfl,hwy⟩
 rw[hwy];clear hwy wy;have f:=T4.out.A.frozen 3;have d:=D3.out;have nn:=N3.out;go_wp2;have T3:=hid (T4.out.set3 (d:=S3));generalize (w4.setCell ⟨w.heap.size,3,none⟩ (vi vu S3))=w3 at*;clear x f d nn M3 D3 N3 T4;rw[rounds_succ];have x:=T3.out.A.cell 2;simp at x;go_wp2_with fail;(with_reducible refine(M2.out _).mono ?_)
 rintro e wy ⟨rfl,hwy⟩
 rw[hwy];clear hwy wy;have f:=T3.out.A.frozen 2;have d:=D2.out;have nn:=N2.out;go_wp2;have T2:=hid (T3.out.set2 (d:=S2));generalize (w3.setCell ⟨w.heap.size,2,none⟩ (vi vu S2))=w2 at*;clear x f d nn M2 D2 N2 T3;rw[rounds_succ];have x:=T2.out.A.cell 1;simp at x;go_wp2_with fail;(with_reducible refine(M1.out _).mono ?_)
 rintro e wy ⟨rfl,hwy⟩
 rw[hwy];clear hwy wy;have f:=T2.out.A.frozen 1;have d:=D1.out;have nn:=N1.out;go_wp2;have T1:=hid (T2.out.set1 (d:=S1));generalize (w2.setCell ⟨w.heap.size,1,none⟩ (vi vu S1))=w1 at*;clear x f d nn M1 D1 N1 T2;rw[rounds_succ];have x:=T1.out.A.cell 0;simp at x;go_wp2_with fail;(with_reducible refine(M0.out _).mono ?_)
 rintro e wy ⟨rfl,hwy⟩
 rw[hwy];clear hwy wy;have f:=T1.out.A.frozen 0;have d:=D0.out;have nn:=N0.out;go_wp2;have T0:=hid (T1.out.set0 (d:=S0));generalize (w1.setCell ⟨w.heap.size,0,none⟩ (vi vu S0))=w0 at*;clear x f d nn M0 D0 N0 T1;rw[rounds_succ];have x0:=T0.out.A.cell 0;have x1:=T0.out.A.cell 1;have x2:=T0.out.A.cell 2;have x3:=T0.out.A.cell 3;have z0:=T0.out.C.cell 0;have z1:=T0.out.C.cell 1;have z2:=T0.out.C.cell 2;have z3:=T0.out.C.cell 3;have f0:=T0.out.C.frozen 0;have f1:=T0.out.C.frozen 1;have f2:=T0.out.C.frozen 2;have f3:=T0.out.C.frozen 3;simp at x0 x1 x2 x3 z0 z1 z2 z3;go_wp2;refine bodyPost_ret (v:=num4 S0 S1 S2 S3) (by simp[results,results234,go_sem, *]) rfl ⟨⟨S0,S1,S2,S3,t0,rfl,HS.out.1,HT.out,?_⟩,?_⟩
 · obtain⟨⟨v0,v1⟩,v2,v3⟩:=HS.out.2
   unfold nv;generalize a0*n=y0 at*;generalize a1*n=y1 at*;generalize a2*n=y2 at*;generalize a3*n=y3 at*;clear x0 x1 x2 x3 z0 z1 z2 z3 f0 f1 f2 f3;omega
 · exact(((T0.out.bl.setCell (by simp) _).setCell (by simp) _).setCell (by simp) _).setCell (by simp) _
end Go.Proofs.YtdeiofgddhbdaaaGreat
