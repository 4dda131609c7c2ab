/- Arguments that are places, circles, and slices of circles. -/
import Derived.Test.YtifdgdgfmjfbdaaGreatRows
import Derived.BigRegion
import Derived.Below
import Derived.ProofKit
import Derived.Lib.SmallJoins
import Derived.Deep.Slices
import Derived.Deep.Strs
import Derived.Deep.Fields
import Derived.ChangeSame
import Derived.Carry
import Derived.Test.YtifdgdgfmjfbdaaGreatIGi
import Derived.Test.YtifdgdgfmjfbdaaGreatIJc
import Derived.Test.YtifdgdgfmjfbdaaGreatIAl
import Derived.Test.YtifdgdgfmjfbdaaGreatICj
import Derived.Test.YtifdgdgfmjfbdaaGreatICi
import Derived.Test.YtifdgdgfmjfbdaaGreatIBi
import Derived.Test.YtifdgdgfmjfbdaaGreatIBase
set_option linter.unusedVariables false
set_option linter.unusedSimpArgs false
namespace Go.Proofs.YtifdgdgfmjfbdaaGreat
open Go.RowKit
theorem ex_vl : Vl ((0 : Int), (0 : Int), (1 : Int)) := (vl_iff _).1 (by decide)
theorem ex_box : bxI ((0 : Int), (0 : Int), (1 : Int)) = (-5400000, 5400000, 0, 10800000) := by decide
theorem ex_fS : (fS [((0 : Int), (10800000 : Int))] 1).1 = (0, 10800000) := by decide
set_option maxHeartbeats 1000000 in
set_option maxRecDepth 100000 in
theorem Bounds_ex (A : Option Addr) (c : Nat) (w : World) (hr : Reads w w.heap.size 3 A 1 (cvs [((0 : Int), (0 : Int), (1 : Int))])) :
    Calls Tryz.prog 29 #[.slice A 1 c] w fun e w' => e = .returned (.tuple #[.agg #[.int .i64 (-5400000), .int .i64 5400000, .int .i64 0, .int .i64 10800000], .int .i64 0]) ∧ Below w.heap.size w w' := by
  have KB := Lib.hid (fun W (hW : Below w.heap.size w W) => boxes_any A 1 c [((0 : Int), (0 : Int), (1 : Int))] W ((hr.below hW).more hW.size) (by decide))
  rw [one_vr ex_vl] at KB
  simp only [if_true, List.map_cons, List.map_nil, ex_box] at KB
  have KF := Lib.hid (fun (W : World) (A : Option Addr) (c : Nat) (h : Reads W W.heap.size 4 A 1 (bv (-5400000, 5400000, 0, 10800000))) => fbounds_one A c (-5400000) 5400000 0 10800000 W h (by intro x hx; obtain rfl := List.mem_singleton.1 hx; decide))
  rw [ex_fS] at KF
  clear hr
  have B0 := Lib.hid (bl_alloc w (.cells #[.int .i64 0, .int .i64 0, .int .i64 0, .int .i64 0] 31))
  have Z0 := Lib.hid (K4.new w 0 0 0 0 31)
  go_enter Tryz.func29, Tryz.ntmps29
  go_wp2_with fail
  (with_reducible refine (KB.out _ B0.out).mono ?_)
  rintro e w1 ⟨v, rfl, hown, hb1⟩
  obtain ⟨A1, c1, rfl, ra, -, -⟩ := own_form hown
  have RA : Hid (Reads w1 w1.heap.size 4 A1 1 (bv (-5400000, 5400000, 0, 10800000))) := Lib.hid (by simpa [bvs, bv] using ra)
  have Z1 := Lib.hid (Z0.out.below hb1 Z0.out.lt)
  have B1 := Lib.hid (B0.out.trans (hb1.mono B0.out.size))
  clear hown hb1 ra Z0 B0 KB
  simp only [List.length_cons, List.length_nil]
  go_wp2_with fail
  (with_reducible refine (KF.out _ _ _ RA.out).mono ?_)
  rintro e w2 ⟨rfl, hb2⟩
  have B2 := Lib.hid (B1.out.trans (hb2.mono B1.out.size))
  obtain ⟨zt, z0, z1, z2, z3, zf0, zf1, zf2, zf3⟩ := Z1.out.below hb2 Z1.out.lt
  go_wp2
  refine bodyPost_ret (v := .tuple #[.agg #[.int .i64 (-5400000), .int .i64 5400000, .int .i64 0, .int .i64 10800000], .int .i64 0]) (by simp [results, Tryz.results29, go_sem, *]; done) rfl ⟨rfl, ?_⟩
  exact bl_put4 B2.out (Nat.le_refl _)
set_option maxHeartbeats 1000000 in
set_option maxRecDepth 100000 in
theorem Center_ex (A : Option Addr) (c : Nat) (w : World) (hr : Reads w w.heap.size 3 A 1 (cvs [((0 : Int), (0 : Int), (1 : Int))])) :
    Calls Tryz.prog 30 #[.slice A 1 c] w fun e w' => e = .returned (.tuple #[.agg #[.int .i64 0, .int .i64 5400000], .int .i64 0]) ∧ Below w.heap.size w w' := by
  have KB := Lib.hid (fun W (hW : Below w.heap.size w W) => Bounds_ex A c W ((hr.below hW).more hW.size))
  have ks := fun W => SignedA_any 5400000 W (by decide) (by decide)
  rw [show sgA 5400000 = 5400000 by decide] at ks
  have KS := Lib.hid ks
  clear ks
  clear hr
  have B0 := Lib.hid (bl_alloc w (.cells #[.int .i64 0, .int .i64 0] 24))
  have Z0 := Lib.hid (K2.new w 0 0 24)
  go_enter Tryz.func30, Tryz.ntmps30
  go_wp2_with fail
  (with_reducible refine (KB.out _ B0.out).mono ?_)
  rintro e w1 ⟨rfl, hb1⟩
  have Z1 := Lib.hid ((Z0.out.below hb1 Z0.out.lt).alloc (.cells #[.int .i64 (-5400000), .int .i64 5400000, .int .i64 0, .int .i64 10800000] 31))
  have hz1 := hb1.size
  have B1 := Lib.hid ((B0.out.trans (hb1.mono B0.out.size)).alloc (by have := B0.out.size; omega) (.cells #[.int .i64 (-5400000), .int .i64 5400000, .int .i64 0, .int .i64 10800000] 31))
  have P1 := Lib.hid (K4.new w1 (-5400000) 5400000 0 10800000 31)
  go_upto_region 4 with (fail)
  obtain ⟨W1, hW1⟩ : ∃ W1, w1.alloc (.cells #[.int .i64 (-5400000), .int .i64 5400000, .int .i64 0, .int .i64 10800000] 31) = W1 := ⟨_, rfl⟩
  rw [hW1] at Z1 B1 P1 ⊢
  have hlt0 : w.heap.size < w1.heap.size := by have := B0.out.size; have := Z0.out.lt; omega
  clear hW1 Z0 B0 KB hb1 hz1
  generalize w1.heap.size = ga at *
  have hn1 : ¬ w.heap.size = ga := by omega
  have hn2 : ¬ ga = w.heap.size := by omega
  obtain ⟨pt, p0, p1, p2, p3, -, -, -, -⟩ := P1.out
  have hw : IntKind.i64.wrap 10800000 = 10800000 := by decide
  have hw0 : IntKind.i64.wrap 0 = 0 := by decide
  go_region_held3 (fun w' => w'.cell? ⟨ga, 0, none⟩ = some (.int .i64 (-5400000)) ∧ w'.cell? ⟨ga, 1, none⟩ = some (.int .i64 5400000) ∧ w'.cell? ⟨ga, 2, none⟩ = some (.int .i64 0) ∧ w'.cell? ⟨ga, 3, none⟩ = some (.int .i64 10800000)) (simp [*]) (first
    | (go_at_call 69; (with_reducible refine (KS.out _).mono ?_); rintro e w9 ⟨rfl, hb9⟩; have P9 := P1.out.drew.below hb9 (by simpa using P1.out.lt); have Z9 := Z1.out.below ((bl_drew (Below.refl _ _)).trans hb9) (by simpa using Z1.out.lt); have B9 := Lib.hid (B1.out.trans (((bl_drew (Below.refl _ _)).trans hb9).mono (by simpa using B1.out.size))); obtain ⟨pt9, p09, p19, p29, p39, -, -, -, -⟩ := P9; obtain ⟨zt9, z09, z19, zf09, zf19⟩ := Z9; have e9 := fun (i : Nat) (u v : Value) => (World.cell?_setCell_other (w9.setCell ⟨w.heap.size, 0, none⟩ u) ⟨w.heap.size, 1, none⟩ ⟨ga, i, none⟩ v (fun e => hn1 (by injection e))).trans (World.cell?_setCell_other w9 ⟨w.heap.size, 0, none⟩ ⟨ga, i, none⟩ u (fun e => hn1 (by injection e))))
    | fail)
  go_wp2
  refine bodyPost_ret (v := .tuple #[.agg #[.int .i64 0, .int .i64 5400000], .int .i64 0]) (by simp [results, Tryz.results30, go_sem, *]; done) rfl ⟨rfl, ?_⟩
  exact (B9.out.setCell (by simp) _).setCell (by simp) _
theorem equalInPt (a b a' b' : Int) (w : World) : (Op.equalIn 10000 24 (.agg #[.int .i64 a, .int .i64 b]) (.agg #[.int .i64 a', .int .i64 b'])).run Tryz.prog w = .ok (aeq a b a' b') w := by
  have u3 := Tryz.underlying3
  have a3 := Tryz.isAgg3
  have z3 := Tryz.sizeOf3
  have hS : Tryz.prog.underlying 24 = some (.struct (Tryz.prog.fieldsOf 24)) := by kernel_rfl
  have hp : Tryz.prog.stoodInHeld 24 = false := by kernel_rfl
  rw [show (10000 : Nat) = 9999 + 1 from rfl, run_equalIn_agg w 9999 24 _ _ hS hp]
  simp only [Program.fieldsOf, Tryz.underlying24]
  go_simp
  by_cases h1 : a = a' <;> by_cases h2 : b = b' <;> simp [aeq, h1, h2]
theorem eqlPt (a b a' b' : Int) (w : World) : (binOp .eql 24 (.agg #[.int .i64 a, .int .i64 b]) (.agg #[.int .i64 a', .int .i64 b'])).run Tryz.prog w = .ok (.bool (aeq a b a' b')) w := by
  rw [run_eql_struct, equalInPt]; rfl
set_option maxHeartbeats 1000000 in
set_option maxRecDepth 100000 in
theorem awake40 (w : World) : Calls Tryz.prog 28 #[] w fun e w' => e = .returned (.bool true) ∧ Below w.heap.size w w' := by
  have hq := eqlPlace
  have hq2 := eqlPt
  have k1 : peq (-5400000) 5400000 0 10800000 (-5400000) 5400000 0 10800000 = true := by decide
  have k2 : aeq 0 5400000 0 5400000 = true := by decide
  have B0 := Lib.hid (bl_alloc w (.cells #[.int .i64 0, .int .i64 0, .int .i64 1] 102))
  have R0 := Lib.hid (reads_new3 w 0 0 1 102 (w.heap.size + 1) (by omega))
  have KB := Lib.hid (fun (W : World) (hW : Below (w.heap.size + 1) (w.alloc (.cells #[.int .i64 0, .int .i64 0, .int .i64 1] 102)) W) => Bounds_ex (some ⟨w.heap.size, 0, none⟩) 1 W ((R0.out.below hW).more (by have := hW.size; simpa using this)))
  have KC := Lib.hid (fun (W : World) (hW : Below (w.heap.size + 1) (w.alloc (.cells #[.int .i64 0, .int .i64 0, .int .i64 1] 102)) W) => Center_ex (some ⟨w.heap.size, 0, none⟩) 1 W ((R0.out.below hW).more (by have := hW.size; simpa using this)))
  have hs0 : (w.alloc (.cells #[.int .i64 0, .int .i64 0, .int .i64 1] 102)).heap.size = w.heap.size + 1 := by simp
  have HS0 := Lib.hid hs0
  clear hs0
  go_enter Tryz.func28, Tryz.ntmps28
  go_wp2_with fail
  (with_reducible refine (KB.out _ (Below.refl _ _)).mono ?_)
  rintro e w1 ⟨rfl, hb1⟩
  have P1 := Lib.hid (K4.new w1 (-5400000) 5400000 0 10800000 31)
  have hb1' := hb1.mono (show w.heap.size + 1 ≤ _ from Nat.le_of_eq HS0.out.symm)
  have hz1 := hb1'.size
  have C1 := Lib.hid (hb1'.alloc (by rw [HS0.out] at hz1; exact hz1) (.cells #[.int .i64 (-5400000), .int .i64 5400000, .int .i64 0, .int .i64 10800000] 31))
  clear hb1 hb1' hz1 KB
  go_wp2_with fail
  (with_reducible refine (KC.out _ C1.out).mono ?_)
  rintro e w2 ⟨rfl, hb2⟩
  have P2 := P1.out.below hb2 (by simp)
  have C2 := Lib.hid (B0.out.trans ((C1.out.trans (hb2.mono (by have := C1.out.size; rw [HS0.out] at this; exact this))).mono (Nat.le_succ _)))
  obtain ⟨pt, p0, p1, p2, p3, -, -, -, -⟩ := P2.alloc (.cells #[.int .i64 0, .int .i64 5400000] 24)
  clear KC hb2 P1 C1 R0 P2
  go_wp2
  go_ret
  exact ⟨ret_bool (by simp), C2.out.alloc C2.out.size _⟩
end Go.Proofs.YtifdgdgfmjfbdaaGreat
namespace Go.Proofs.YtifdgdgfmjfbdaaGreat
open Go.RowKit
set_option maxHeartbeats 400000 in
theorem cellsCon_no (A : Option Addr) (n c : Nat) (L : List Cl) (a b : Int) (w : World) (hr : Reads w w.heap.size 3 A n (cvs L)) (hn : n ≤ maxLen) (h : vrB L = false ∨ vptB a b = false) :
    Calls Tryz.prog 18 #[.slice A n c, .agg #[.int .i64 a, .int .i64 b]] w fun e w' => e = .returned (.tuple #[.bool false, .int .i64 1]) ∧ Below w.heap.size w w' := by
  have RD : Hid (∀ W, Below w.heap.size w W → Reads W W.heap.size 3 A n (cvs L)) := Lib.hid (fun W hW => (hr.below hW).more hW.size)
  have K1 := Lib.hid (fun W hW => vr_yes A n c L (vrB L) rfl W (RD.out W hW) hn)
  have K2 := Lib.hid (fun W => vpt_any a b W)
  have b0 := bl_alloc w (.cells #[.int .i64 a, .int .i64 b] 24)
  clear hr hn RD
  cases hv : vrB L with
  | false =>
    rw [hv] at K1
    clear h hv
    go_enter Tryz.func18, Tryz.ntmps18
    go_wp2_with fail
    (with_reducible refine (K1.out _ b0).mono ?_)
    rintro e w1 ⟨rfl, hb1⟩
    go_wp2
    go_ret2
    exact ⟨rfl, b0.trans (hb1.mono (by simp))⟩
  | true =>
    rw [hv] at K1
    have hp : vptB a b = false := by
      rcases h with h | h
      · rw [hv] at h; simp at h
      · exact h
    rw [hp] at K2
    clear h hv hp
    go_enter Tryz.func18, Tryz.ntmps18
    go_wp2_with fail
    (with_reducible refine (K1.out _ b0).mono ?_)
    rintro e w1 ⟨rfl, hb1⟩
    have hb1' := b0.trans (hb1.mono (by simp))
    have y0 := (hb1.cell (p := ⟨w.heap.size, 0, none⟩) (by simp)).trans (show _ = some (.int .i64 a) by simp)
    have y1 := (hb1.cell (p := ⟨w.heap.size, 1, none⟩) (by simp)).trans (show _ = some (.int .i64 b) by simp)
    clear hb1 b0
    go_wp2_with fail
    (with_reducible refine (K2.out _).mono ?_)
    rintro e w2 ⟨rfl, hb2⟩
    go_wp2
    go_ret2
    exact ⟨rfl, hb1'.trans (hb2.mono hb1'.size)⟩
theorem okP_of {p0 p1 : Int} (h : vptB p0 p1 = true) : okP (p0, p1) = true := by
  have := vptB_true.1 h
  exact okP_iff.2 (by simp only []; omega)
set_option maxHeartbeats 16000000 in
set_option maxRecDepth 100000 in
theorem fixReaches_any (A : Option Addr) (n c : Nat) (L : List Cl) (q0 q1 p0 p1 : Int) (w : World) (hr : Reads w w.heap.size 3 A n (cvs L)) (hnm : n ≤ maxLen) :
    Calls Tryz.prog 6 #[.slice A n c, .agg #[.int .i64 q0, .int .i64 q1], .agg #[.int .i64 p0, .int .i64 p1]] w fun e w' => e = .returned (.bool true) ∧ Below w.heap.size w w' := by
  have hln := hr.len
  have KA := Lib.hid awake40
  have qq := (Blk.new w 24 #[.int .i64 q0, .int .i64 q1]).alloc (.cells #[.int .i64 p0, .int .i64 p1] 24)
  have pp := Blk.new (w.alloc (.cells #[.int .i64 q0, .int .i64 q1] 24)) 24 #[.int .i64 p0, .int .i64 p1]
  rw [World.size_alloc] at pp
  have Q0 := Lib.hid qq
  have P0 := Lib.hid pp
  have B0 := Lib.hid ((bl_alloc w (.cells #[.int .i64 q0, .int .i64 q1] 24)).alloc (by simp) (.cells #[.int .i64 p0, .int .i64 p1] 24))
  clear qq pp
  have RD : Hid (∀ W, Below w.heap.size w W → Reads W W.heap.size 3 A n (cvs L)) := Lib.hid fun W h => (hr.below h).more h.size
  clear hr
  by_cases c1 : 40 < n
  · have dc1 : decide ((40 : Int) < (n : Int)) = true := decide_eq_true (by omega)
    go_enter Tryz.func6, Tryz.ntmps6
    go_upto_region 1 with (fail)
    generalize (w.alloc (.cells #[.int .i64 q0, .int .i64 q1] 24)).alloc (.cells #[.int .i64 p0, .int .i64 p1] 24) = w0 at Q0 P0 B0 ⊢
    go_wp2_with fail
    (with_reducible refine (KA.out _).mono ?_)
    rintro e w1 ⟨rfl, hb1⟩
    have Q1 := Lib.hid (Q0.out.below hb1 Q0.out.lt)
    have P1 := Lib.hid (P0.out.below hb1 P0.out.lt)
    have B1 := Lib.hid (B0.out.trans (hb1.mono B0.out.size))
    clear hb1 KA Q0 P0 B0
    go_wp2
    go_ret
    exact ⟨rfl, B1.out⟩
  have dc1 : decide ((40 : Int) < (n : Int)) = false := decide_eq_false (by omega)
  by_cases hbad : vrB L = false ∨ n = 0
  · obtain ⟨E, hE0, hE⟩ : ∃ E : Int, (E != 0) = true ∧ ((vrB L = false ∧ E = 1) ∨ (vrB L = true ∧ n = 0 ∧ E = 14)) := by
      cases hv : vrB L with
      | false => exact ⟨1, by decide, .inl ⟨rfl, rfl⟩⟩
      | true =>
        rcases hbad with h | h
        · rw [hv] at h; cases h
        · exact ⟨14, by decide, .inr ⟨rfl, h, rfl⟩⟩
    have KB := Lib.hid (fun (W : World) (h : Below w.heap.size w W) => fBounds_no A n c L E W (RD.out W h) hnm hE)
    have hq := eqlPlace 0 0 0 0 0 0 0 0
    have hpq : peq 0 0 0 0 0 0 0 0 = true := by decide
    clear hbad hE
    go_enter Tryz.func6, Tryz.ntmps6
    go_upto_region 1 with (fail)
    generalize (w.alloc (.cells #[.int .i64 q0, .int .i64 q1] 24)).alloc (.cells #[.int .i64 p0, .int .i64 p1] 24) = w0 at Q0 P0 B0 ⊢
    go_wp2_with fail
    (with_reducible refine (KA.out _).mono ?_)
    rintro e w1 ⟨rfl, hb1⟩
    have Q1 := Lib.hid (Q0.out.below hb1 Q0.out.lt)
    have P1 := Lib.hid (P0.out.below hb1 P0.out.lt)
    have B1 := Lib.hid (B0.out.trans (hb1.mono B0.out.size))
    clear hb1 KA Q0 P0 B0
    have KB2 := Lib.hid (KB.out w1 B1.out)
    go_wp2_with fail
    (with_reducible refine (KB2.out).mono ?_)
    rintro e w2 ⟨rfl, hb2⟩
    have hb2a := hb2.alloc hb2.size (.cells #[.int .i64 0, .int .i64 0, .int .i64 0, .int .i64 0] 31)
    have B2 := Lib.hid (B1.out.trans (hb2a.mono B1.out.size))
    clear hb2 hb2a KB KB2 Q1 P1 B1
    go_wp2
    go_ret
    exact ⟨ret_bool (by simp [hpq]), B2.out⟩
  have hv : vrB L = true := by cases h : vrB L with
    | true => rfl
    | false => exact absurd (.inl h) hbad
  have h0 : 0 < n := by omega
  have hv2 := ((vrB_iff L).1 hv).2.1
  have hll : 0 < L.length := by omega
  have hbv := bnd_vp hv2 hll
  have hcv := cen_in hv2 hll
  have KBn := fun (W : World) (h : Below w.heap.size w W) => fBounds_yes A n c L W (RD.out W h) hnm hv h0
  have KCn := fun (W : World) (h : Below w.heap.size w W) => fCenter_yes A n c L W (RD.out W h) hnm hv h0
  have KP1 := fun W => placeContains_vp (bndV L).1 (bndV L).2.1 (bndV L).2.2.1 (bndV L).2.2.2 (cenV L).1 (cenV L).2 W hbv hcv.1
  rw [hcv.2] at KP1
  have KP2 := fun (hq : vptB q0 q1 = true) W => placeContains_vp (bndV L).1 (bndV L).2.1 (bndV L).2.2.1 (bndV L).2.2.2 q0 q1 W hbv hq
  have hbi : conB L q0 q1 = true → inBox (bndV L).1 (bndV L).2.1 (bndV L).2.2.1 (bndV L).2.2.2 q0 q1 = true := fun h => bnd_in hv2 h
  obtain ⟨⟨b0, b1, b2, b3⟩, hbe⟩ : ∃ x, bndV L = x := ⟨_, rfl⟩
  obtain ⟨⟨c0, c1'⟩, hce⟩ : ∃ x, cenV L = x := ⟨_, rfl⟩
  rw [hbe] at KBn KP1 KP2 hbi
  rw [hce] at KCn KP1
  simp only [] at KBn KP1 KP2 KCn hbi
  have KBn := Lib.hid KBn
  have KCn := Lib.hid KCn
  have KP1 := Lib.hid KP1
  have KP2 := Lib.hid KP2
  have HBI := Lib.hid hbi
  have HV := Lib.hid hv
  have HV2 := Lib.hid hv2
  have HLN := Lib.hid hln
  clear hbe hce hbi hbv hcv hbad hv hv2 hll hln
  go_enter Tryz.func6, Tryz.ntmps6
  go_upto_region 1 with (fail)
  generalize (w.alloc (.cells #[.int .i64 q0, .int .i64 q1] 24)).alloc (.cells #[.int .i64 p0, .int .i64 p1] 24) = w0 at Q0 P0 B0 ⊢
  go_wp2_with fail
  (with_reducible refine (KA.out _).mono ?_)
  rintro e w1 ⟨rfl, hb1⟩
  have Q1 := Lib.hid (Q0.out.below hb1 Q0.out.lt)
  have P1 := Lib.hid (P0.out.below hb1 P0.out.lt)
  have B1 := Lib.hid (B0.out.trans (hb1.mono B0.out.size))
  clear hb1 KA Q0 P0 B0
  have KB2 := Lib.hid (KBn.out w1 B1.out)
  go_wp2_with fail
  (with_reducible refine (KB2.out).mono ?_)
  rintro e w2 ⟨rfl, hb2⟩
  have hb2a := hb2.alloc hb2.size (.cells #[.int .i64 b0, .int .i64 b1, .int .i64 b2, .int .i64 b3] 31)
  have Q2 := Lib.hid (Q1.out.below hb2a Q1.out.lt)
  have P2 := Lib.hid (P1.out.below hb2a P1.out.lt)
  have B2 := Lib.hid (B1.out.trans (hb2a.mono B1.out.size))
  have G2 := Lib.hid (Blk.new w2 31 #[.int .i64 b0, .int .i64 b1, .int .i64 b2, .int .i64 b3])
  clear hb2 hb2a KBn KB2 Q1 P1 B1
  go_upto_region 8 with (fail)
  generalize w2.alloc (.cells #[.int .i64 b0, .int .i64 b1, .int .i64 b2, .int .i64 b3] 31) = w2' at Q2 P2 B2 G2 ⊢
  generalize w2.heap.size = gb9 at G2 ⊢
  have KC2 := Lib.hid (KCn.out w2' B2.out)
  go_wp2_with fail
  (with_reducible refine (KC2.out).mono ?_)
  rintro e w3 ⟨rfl, hb3⟩
  have hb3a := hb3.alloc hb3.size (.cells #[.int .i64 c0, .int .i64 c1'] 24)
  have Q3 := Lib.hid (Q2.out.below hb3a Q2.out.lt)
  have P3 := Lib.hid (P2.out.below hb3a P2.out.lt)
  have G3 := Lib.hid (G2.out.below hb3a G2.out.lt)
  have B3 := Lib.hid (B2.out.trans (hb3a.mono B2.out.size))
  have C3 := Lib.hid (Blk.new w3 24 #[.int .i64 c0, .int .i64 c1'])
  clear hb3 hb3a KCn KC2 Q2 P2 G2 B2
  go_upto_region 9 with (fail)
  generalize w3.alloc (.cells #[.int .i64 c0, .int .i64 c1'] 24) = w3' at Q3 P3 G3 B3 C3 ⊢
  generalize w3.heap.size = gc9 at C3 ⊢
  have g0 : w3'.cell? ⟨gb9, 0, none⟩ = some (.int .i64 b0) := G3.out.cell 0
  have g1 : w3'.cell? ⟨gb9, 1, none⟩ = some (.int .i64 b1) := G3.out.cell 1
  have g2 : w3'.cell? ⟨gb9, 2, none⟩ = some (.int .i64 b2) := G3.out.cell 2
  have g3 : w3'.cell? ⟨gb9, 3, none⟩ = some (.int .i64 b3) := G3.out.cell 3
  have d0 : w3'.cell? ⟨gc9, 0, none⟩ = some (.int .i64 c0) := C3.out.cell 0
  have d1 : w3'.cell? ⟨gc9, 1, none⟩ = some (.int .i64 c1') := C3.out.cell 1
  go_wp2_with fail
  (with_reducible refine (KP1.out _).mono ?_)
  rintro e w4 ⟨rfl, hb4⟩
  have Q4 := Lib.hid (Q3.out.below hb4 Q3.out.lt)
  have P4 := Lib.hid (P3.out.below hb4 P3.out.lt)
  have G4 := Lib.hid (G3.out.below hb4 G3.out.lt)
  have B4 := Lib.hid (B3.out.trans (hb4.mono B3.out.size))
  clear hb4 KP1 g0 g1 g2 g3 d0 d1 Q3 P3 G3 B3 C3
  have x0 : w4.cell? ⟨w.heap.size, 0, none⟩ = some (.int .i64 q0) := Q4.out.cell 0
  have x1 : w4.cell? ⟨w.heap.size, 1, none⟩ = some (.int .i64 q1) := Q4.out.cell 1
  cases hvq : vptB q0 q1 with
  | false =>
    have KC := cellsCon_no A n c L q0 q1 w4 (RD.out w4 B4.out) hnm (.inr hvq)
    have KC := Lib.hid KC
    have KV := fun W => vpt_any q0 q1 W
    rw [hvq] at KV
    have KV := Lib.hid KV
    go_wp2_with fail
    (with_reducible refine (KC.out).mono ?_)
    rintro e w5 ⟨rfl, hb5⟩
    have Q5 := Lib.hid (Q4.out.below hb5 Q4.out.lt)
    have B5 := Lib.hid (B4.out.trans (hb5.mono B4.out.size))
    clear hb5 KC x0 x1 Q4 P4 G4 B4
    have x0 : w5.cell? ⟨w.heap.size, 0, none⟩ = some (.int .i64 q0) := Q5.out.cell 0
    have x1 : w5.cell? ⟨w.heap.size, 1, none⟩ = some (.int .i64 q1) := Q5.out.cell 1
    go_wp2_with fail
    (with_reducible refine (KV.out _).mono ?_)
    rintro e w6 ⟨rfl, hb6⟩
    have B6 := Lib.hid (B5.out.trans (hb6.mono B5.out.size))
    clear hb6
    go_wp2
    go_ret
    exact ⟨rfl, B6.out⟩
  | true =>
  have KC := Contains_any A n c L q0 q1 w4 (RD.out w4 B4.out) hnm HV.out hvq
  obtain ⟨bi, hbi⟩ : ∃ bi, conB L q0 q1 = bi := ⟨_, rfl⟩
  rw [hbi] at KC
  have KC := Lib.hid KC
  have HBC := Lib.hid hbi
  have HVQ := Lib.hid hvq
  have KV := fun W => vpt_any p0 p1 W
  clear hbi hvq
  go_wp2_with fail
  (with_reducible refine (KC.out).mono ?_)
  rintro e w5 ⟨rfl, hb5⟩
  have Q5 := Lib.hid (Q4.out.below hb5 Q4.out.lt)
  have P5 := Lib.hid (P4.out.below hb5 P4.out.lt)
  have G5 := Lib.hid (G4.out.below hb5 G4.out.lt)
  have B5 := Lib.hid (B4.out.trans (hb5.mono B4.out.size))
  clear hb5 KC x0 x1 Q4 P4 G4 B4
  have x0 : w5.cell? ⟨w.heap.size + 1, 0, none⟩ = some (.int .i64 p0) := P5.out.cell 0
  have x1 : w5.cell? ⟨w.heap.size + 1, 1, none⟩ = some (.int .i64 p1) := P5.out.cell 1
  cases hvp : vptB p0 p1 with
  | false =>
    rw [hvp] at KV
    have KV := Lib.hid KV
    go_wp2_with fail
    (with_reducible refine (KV.out _).mono ?_)
    rintro e w6 ⟨rfl, hb6⟩
    have B6 := Lib.hid (B5.out.trans (hb6.mono B5.out.size))
    clear hb6
    go_wp2
    go_ret
    exact ⟨rfl, B6.out⟩
  | true =>
  rw [hvp] at KV
  have KV := Lib.hid KV
  have HVP := Lib.hid hvp
  clear hvp
  go_wp2_with fail
  (with_reducible refine (KV.out _).mono ?_)
  rintro e w6 ⟨rfl, hb6⟩
  have Q6 := Lib.hid (Q5.out.below hb6 Q5.out.lt)
  have P6 := Lib.hid (P5.out.below hb6 P5.out.lt)
  have G6 := Lib.hid (G5.out.below hb6 G5.out.lt)
  have B6 := Lib.hid (B5.out.trans (hb6.mono B5.out.size))
  clear hb6 KV x0 x1 Q5 P5 G5 B5
  cases bi with
  | false =>
    go_wp2
    go_ret
    exact ⟨rfl, B6.out⟩
  | true =>
  have KQ := fun W => KP2.out HVQ.out W
  rw [HBI.out HBC.out] at KQ
  have KQ := Lib.hid KQ
  have hrl := (rad_le (L.map bxI) (p0, p1) L.length (by simp)).1
  have htr := tan_rad HV2.out HVP.out HBC.out
  have KRd := fun (W : World) (h : Below w.heap.size w W) => Radius_yes A n c L p0 p1 W (RD.out W h) hnm HV.out (okP_of HVP.out) h0
  have KT := fun W => Tangent_yes p0 p0 p1 p1 0 0 q0 q1 W ⟨vp_pt2 HVP.out, by omega, by omega, by omega⟩ HVQ.out
  rw [HLN.out] at hrl htr
  obtain ⟨i0, hi0⟩ : ∃ x, 5400000 + Trig.asnV (-(min (Trig.sinT (q0, q0) (p0, p0) (q1 - p1, q1 - p1)).2 1073741824)) - 0 = x := ⟨_, rfl⟩
  obtain ⟨i1, hi1⟩ : ∃ x, 5400000 - Trig.asnV (max (Trig.sinT (q0, q0) (p0, p0) (q1 - p1, q1 - p1)).1 (-1073741824)) - 0 = x := ⟨_, rfl⟩
  rw [hi0] at htr KT
  rw [hi1] at KT
  obtain ⟨⟨r0, r1⟩, hre⟩ : ∃ x, radF (L.map bxI) (p0, p1) n = x := ⟨_, rfl⟩
  rw [hre] at hrl htr KRd
  simp only [] at hrl htr KRd
  have dr1 : decide (r0 ≤ r1) = true := decide_eq_true hrl
  have dr2 : decide (i0 ≤ r1) = true := decide_eq_true htr
  have KRd := Lib.hid KRd
  have KT := Lib.hid KT
  clear hi0 hi1 hre hrl htr HVP HVQ HBC HBI KP2 HV HV2 HLN
  have x0 : w6.cell? ⟨w.heap.size, 0, none⟩ = some (.int .i64 q0) := Q6.out.cell 0
  have x1 : w6.cell? ⟨w.heap.size, 1, none⟩ = some (.int .i64 q1) := Q6.out.cell 1
  have g0 : w6.cell? ⟨gb9, 0, none⟩ = some (.int .i64 b0) := G6.out.cell 0
  have g1 : w6.cell? ⟨gb9, 1, none⟩ = some (.int .i64 b1) := G6.out.cell 1
  have g2 : w6.cell? ⟨gb9, 2, none⟩ = some (.int .i64 b2) := G6.out.cell 2
  have g3 : w6.cell? ⟨gb9, 3, none⟩ = some (.int .i64 b3) := G6.out.cell 3
  go_wp2_with fail
  (with_reducible refine (KQ.out _).mono ?_)
  rintro e w7 ⟨rfl, hb7⟩
  have Q7 := Lib.hid (Q6.out.below hb7 Q6.out.lt)
  have P7 := Lib.hid (P6.out.below hb7 P6.out.lt)
  have B7 := Lib.hid (B6.out.trans (hb7.mono B6.out.size))
  clear hb7 KQ x0 x1 g0 g1 g2 g3 Q6 P6 G6 B6
  have x0 : w7.cell? ⟨w.heap.size + 1, 0, none⟩ = some (.int .i64 p0) := P7.out.cell 0
  have x1 : w7.cell? ⟨w.heap.size + 1, 1, none⟩ = some (.int .i64 p1) := P7.out.cell 1
  have KR2 := Lib.hid (KRd.out w7 B7.out)
  go_wp2_with fail
  (with_reducible refine (KR2.out).mono ?_)
  rintro e w8 ⟨rfl, hb8⟩
  have hb8a := hb8.alloc hb8.size (.cells #[.int .i64 r0, .int .i64 r1] 29)
  have hb8b := hb8a.alloc hb8a.size (.cells #[.int .i64 p0, .int .i64 p0, .int .i64 p1, .int .i64 p1, .int .i64 0, .int .i64 0] 39)
  have p8 := P7.out.below hb8a P7.out.lt
  have Q8 := Lib.hid (Q7.out.below hb8b Q7.out.lt)
  have B8 := Lib.hid (B7.out.trans (hb8b.mono B7.out.size))
  have R8 := Lib.hid ((Blk.new w8 29 #[.int .i64 r0, .int .i64 r1]).alloc (.cells #[.int .i64 p0, .int .i64 p0, .int .i64 p1, .int .i64 p1, .int .i64 0, .int .i64 0] 39))
  have c8 := Blk.new (w8.alloc (.cells #[.int .i64 r0, .int .i64 r1] 29)) 39 #[.int .i64 p0, .int .i64 p0, .int .i64 p1, .int .i64 p1, .int .i64 0, .int .i64 0]
  rw [World.size_alloc] at c8
  have C8 := Lib.hid c8
  have P8 := Lib.hid p8
  clear c8 p8 hb8 hb8a hb8b KRd KR2 x0 x1 Q7 B7 P7
  go_upto_region 17 with (fail)
  have x0 : (w8.alloc (.cells #[.int .i64 r0, .int .i64 r1] 29)).cell? ⟨w.heap.size + 1, 0, none⟩ = some (.int .i64 p0) := P8.out.cell 0
  have x1 : (w8.alloc (.cells #[.int .i64 r0, .int .i64 r1] 29)).cell? ⟨w.heap.size + 1, 1, none⟩ = some (.int .i64 p1) := P8.out.cell 1
  go_upto_region 18 with (fail)
  clear x0 x1 P8
  generalize (w8.alloc (.cells #[.int .i64 r0, .int .i64 r1] 29)).alloc (.cells #[.int .i64 p0, .int .i64 p0, .int .i64 p1, .int .i64 p1, .int .i64 0, .int .i64 0] 39) = w9 at Q8 B8 R8 C8 ⊢
  generalize w8.heap.size = gr at R8 C8 ⊢
  have x0 : w9.cell? ⟨w.heap.size, 0, none⟩ = some (.int .i64 q0) := Q8.out.cell 0
  have x1 : w9.cell? ⟨w.heap.size, 1, none⟩ = some (.int .i64 q1) := Q8.out.cell 1
  have k0 : w9.cell? ⟨gr + 1, 0, none⟩ = some (.int .i64 p0) := C8.out.cell 0
  have k1 : w9.cell? ⟨gr + 1, 1, none⟩ = some (.int .i64 p0) := C8.out.cell 1
  have k2 : w9.cell? ⟨gr + 1, 2, none⟩ = some (.int .i64 p1) := C8.out.cell 2
  have k3 : w9.cell? ⟨gr + 1, 3, none⟩ = some (.int .i64 p1) := C8.out.cell 3
  have k4 : w9.cell? ⟨gr + 1, 4, none⟩ = some (.int .i64 0) := C8.out.cell 4
  have k5 : w9.cell? ⟨gr + 1, 5, none⟩ = some (.int .i64 0) := C8.out.cell 5
  go_wp2_with fail
  (with_reducible refine (KT.out _).mono ?_)
  rintro e wa ⟨⟨z0, z1, rfl⟩, hba⟩
  have hbaa := hba.alloc hba.size (.cells #[.int .i64 q0, .int .i64 q1, .int .i64 z0, .int .i64 z1, .int .i64 i0, .int .i64 i1] 73)
  have BA := Lib.hid (B8.out.trans (hbaa.mono B8.out.size))
  have RA := Lib.hid (R8.out.below hbaa R8.out.lt)
  have LA := Lib.hid (Blk.new wa 73 #[.int .i64 q0, .int .i64 q1, .int .i64 z0, .int .i64 z1, .int .i64 i0, .int .i64 i1])
  clear hba hbaa KT x0 x1 k0 k1 k2 k3 k4 k5 Q8 B8 R8 C8
  go_upto_region 19 with (fail)
  generalize wa.alloc (.cells #[.int .i64 q0, .int .i64 q1, .int .i64 z0, .int .i64 z1, .int .i64 i0, .int .i64 i1] 73) = wb at BA RA LA ⊢
  generalize wa.heap.size = gl at LA ⊢
  have y0 : wb.cell? ⟨gr, 0, none⟩ = some (.int .i64 r0) := RA.out.cell 0
  have y1 : wb.cell? ⟨gr, 1, none⟩ = some (.int .i64 r1) := RA.out.cell 1
  have l4 : wb.cell? ⟨gl, 4, none⟩ = some (.int .i64 i0) := LA.out.cell 4
  go_wp2
  go_ret
  exact ⟨rfl, BA.out⟩
end Go.Proofs.YtifdgdgfmjfbdaaGreat
namespace Go.Proofs.YtifdgdgfmjfbdaaGreat
open Go.ChangeShapes Go.WideShapes Go.ChangeAt Go.RowKit
theorem Tryz.own : ownKnob Tryz.prog.godebug = none := by kernel_rfl
section
variable {H : Type} {enc : TypeId × Value → H} {P : Program}
theorem post_of_below {f : Func} {s : ChangeSpec} {apart fresh handsOn again : Bool} {W W' : World} {args : Array Value} {v : Value} {ds gs : List (DataW H)} {before pa pv : List MemPlace}
    (hW : DataW.Whole enc P f.params.toList s.vars apart W args.toList ds gs before)
    (hres : ∀ (b : Nat) (sp : Nat → Bool) (hd : Bool), DataW.TrodAll enc P W' b sp hd f.resultTypes.toList (v.resultList f.resultTypes.size) (s.fn H (ds ++ gs)).results [])
    (hargs : ∀ sp : Nat → Bool, (∀ p ∈ before, sp p.block = true) → DataW.TrodAll enc P W' 0 sp true f.params.toList args.toList (s.fn H (ds ++ gs)).args pa)
    (hvars : ∀ sp : Nat → Bool, (∀ p ∈ before, sp p.block = true) → DataW.TrodVars enc P W' sp s.vars (s.fn H (ds ++ gs)).vars pv)
    (hps : before = pa ++ pv) (hb : Below W.heap.size W W')
    (hok : ∀ (j : Nat) (t : TypeId) (r : Value), f.resultTypes[j]? = some t → (v.resultList f.resultTypes.size)[j]? = some r → Value.okWide P W' .any 0 t r) :
    s.post enc P f apart fresh handsOn again W args v W' := by
  have hlt : ∀ p ∈ before, p.block < W.heap.size := fun p hp => hW.lt p hp
  have hold : ∀ p ∈ before, (fun b => decide (b < W.heap.size)) p.block = true := fun p hp => by simpa using hlt p hp
  refine ⟨ds, gs, before, [], pa, pv, hW, hres _ _ _, hargs _ hold, hvars _ hold, World.keptBut_mono (fun p hp => ⟨hp, ?_⟩) (hb.frame (· ∈ before)), fun _ => ?_⟩
  · rw [hps, List.mem_append] at hp
    exact Or.inr hp
  · obtain ⟨_, _, _, _, _, hz, hn⟩ := hW
    refine ⟨hok, _, _, ([] ++ pa) ++ pv, ⟨[] ++ pa, pv, trodAll_append (hargs _ (fun _ _ => rfl)) (hres _ _ _), hvars _ (fun _ _ => rfl), rfl, ?_, ?_⟩, ?_⟩
    · intro b off hp
      have hin : MemPlace.cell b off ∈ before := by rw [hps]; simpa using hp
      rw [hb.frozen (hlt _ hin)]
      exact hz b off hin
    · intro ha
      have := hn ha
      rw [hps] at this
      simpa using this
    · intro p hp _
      rw [hps]
      simpa using hp
end
end Go.Proofs.YtifdgdgfmjfbdaaGreat
namespace Go.Proofs.YtifdgdgfmjfbdaaGreat
open Go.ChangeShapes Go.WideShapes Go.ChangeAt Go.RowKit Go.Deep
section
variable {H : Type} {enc : TypeId × Value → H} {P : Program} {w : World} {base : Nat} {spare : Nat → Bool} {held : Bool}
theorem open_three {t : TypeId} {f0 f1 f2 : Field} {cs : List Value} {x : DataW H × List MemPlace} {fuel : Nat} (hs : P.underlying t = some (.struct #[f0, f1, f2])) (hone : oneCellFields P #[f0, f1, f2] = true)
    (h : DataW.trod enc P w base spare held fuel t cs = some x) (hl : cs.length = 3) :
    ∃ c0 c1 c2 y0 y1 y2 n, cs = [c0, c1, c2] ∧ DataW.trod enc P w base spare held n f0.type [c0] = some y0 ∧ DataW.trod enc P w base spare held n f1.type [c1] = some y1 ∧ DataW.trod enc P w base spare held n f2.type [c2] = some y2 := by
  obtain ⟨y0, y1, y2, n, _, _, h0, h1, h2⟩ := trod_struct3 hs h
  obtain ⟨o0, k0⟩ := hone_of hone 0 f0 rfl
  obtain ⟨o1, k1⟩ := hone_of hone 1 f1 rfl
  obtain ⟨o2, k2⟩ := hone_of hone 2 f2 rfl
  match cs, hl with
  | [c0, c1, c2], _ => exact ⟨c0, c1, c2, y0, y1, y2, n, rfl, by simpa [o0, k0] using h0, by simpa [o1, k1] using h1, by simpa [o2, k2] using h2⟩
end
theorem Tryz.cells3 : Tryz.prog.cellsOf 102 = 3 := by kernel_rfl
theorem cvs_map (f : Nat → Cl) : ∀ (n j : Nat), (cvs ((List.range n).map f))[j]? = if j < n * 3 then (cv (f (j / 3)))[j % 3]? else none := by
  intro n
  induction n with
  | zero => intro j; simp [cvs]
  | succ n ih =>
    intro j
    rw [List.range_succ, List.map_append, cvs_append, List.getElem?_append, cvs_length, List.length_map, List.length_range]
    by_cases h : j < n * 3
    · rw [if_pos h, ih, if_pos h, if_pos (by omega)]
    · rw [if_neg h]
      by_cases h2 : j < (n + 1) * 3
      · rw [if_pos h2]
        have e1 : j / 3 = n := by omega
        have e2 : j - n * 3 = j % 3 := by omega
        rw [e1, e2]
        simp [cvs]
      · rw [if_neg h2]
        simp [cvs, cv]
        omega
set_option maxRecDepth 100000 in
theorem open_cells {H : Type} {enc : TypeId × Value → H} {W : World} {v : Value} {d : DataW H} {ps : List MemPlace} {r : Reach} {b0 : Nat} (hv : Value.okWide Tryz.prog W r b0 48 v)
    (h : DataW.Trod enc Tryz.prog W 0 (fun _ => true) true 48 v d ps) :
    ∃ A n ca L, v = .slice A n ca ∧ Reads W W.heap.size 3 A n (cvs L) ∧ n ≤ ca ∧ ca ≤ maxLen := by
  obtain ⟨a, len, cap, rfl⟩ := okWide_slice Tryz.underlying48 hv
  obtain ⟨fu, hf⟩ := h
  have hf' : DataW.trod enc Tryz.prog W 0 (fun _ => true) true fu 48 [.slice a len cap] = some (d, ps) := by simpa [Value.cells] using hf
  rcases open_slice Tryz.underlying48 hf' with ⟨h0, -⟩ | ⟨a', len', cap', m, n, D, Pl, hcs, hb, hl, hm, hmm, hx, hi⟩
  · cases h0
    exact ⟨none, 0, 0, [], rfl, Reads.none_, Nat.le_refl _, by simp [maxLen]⟩
  · cases hcs
    simp only [if_true] at hmm
    subst hmm
    have one : ∀ i, i < len → ∃ x : Cl, ∀ j, j < 3 → W.cell? (a'.add (i * 3 + j)) = (cv x)[j]? := by
      intro i hil
      obtain ⟨cs, hc, ht⟩ := hi i (by omega)
      rw [Tryz.cells3] at hc
      obtain ⟨_, hcl, hat⟩ := World.cells?_some hc
      obtain ⟨c0, c1, c2, y0, y1, y2, n', rfl, h0, h1, h2⟩ := open_three Tryz.underlying102 (by kernel_rfl) ht hcl
      obtain ⟨l, e0, -, -⟩ := DataW.trod_int Tryz.underlying3 h0
      obtain ⟨r, e1, -, -⟩ := DataW.trod_int Tryz.underlying3 h1
      obtain ⟨c, e2, -, -⟩ := DataW.trod_int Tryz.underlying3 h2
      cases e0
      cases e1
      cases e2
      refine ⟨(l, r, c), fun j hj => ?_⟩
      rw [← Go.Deep.add_add, hat j hj]
      rfl
    obtain ⟨f, hf2⟩ := choose_lt one
    refine ⟨some a', len, _, (List.range len).map f, rfl, ⟨by simp [cvs_length], fun h0 => ⟨a', rfl, ?_, ?_⟩⟩, hl, hm⟩
    · have h1 := hf2 0 h0 0 (by omega)
      have h2 := World.block_lt_of_cell? W _ h1
      exact h2
    · intro j u hu
      rw [cvs_map] at hu
      by_cases hj : j < len * 3
      · rw [if_pos hj] at hu
        have h1 := hf2 (j / 3) (by omega) (j % 3) (Nat.mod_lt _ (by omega))
        rw [show j / 3 * 3 + j % 3 = j by omega] at h1
        rw [h1, hu]
      · rw [if_neg hj] at hu
        cases hu
theorem Tryz.laidOutB : laidOutB Tryz.prog = true := by kernel_rfl
theorem Tryz.readCells : Tryz.prog.readableRec 48 = true := by kernel_rfl
theorem Tryz.rowCells : 48 < Tryz.prog.types.size := of_decide_eq_true (by kernel_rfl)
theorem cells_stay {H : Type} {enc : TypeId × Value → H} {W W' : World} {sp : Nat → Bool} {v : Value} {d : DataW H} {ps : List MemPlace} (h : DataW.Trod enc Tryz.prog W 0 (fun _ => true) true 48 v d ps)
    (hb : Below W.heap.size W W') (hlt : ∀ x ∈ ps, x.block < W.heap.size) (hsp : ∀ p ∈ ps, sp p.block = true) : DataW.Trod enc Tryz.prog W' 0 sp true 48 v d ps :=
  WideElems.Trod_stays Tryz.laidOutB Tryz.readCells Tryz.rowCells h (fun x hx => hb.same (hlt x hx)) hsp
end Go.Proofs.YtifdgdgfmjfbdaaGreat
namespace Go.Proofs.YtifdgdgfmjfbdaaGreat
open Go.ChangeShapes Go.WideShapes Go.ChangeAt Go.RowKit Go.Joins Go.Deep
section
variable {H : Type} {enc : TypeId × Value → H} {P : Program} {w : World} {base : Nat} {spare : Nat → Bool} {held : Bool}
end
section
variable {H : Type} {enc : TypeId × Value → H} {w : World} {base : Nat} {spare : Nat → Bool} {held : Bool}
end
theorem Tryz.readPoint : Tryz.prog.readableRec 24 = true := by kernel_rfl
theorem Tryz.rowPoint : 24 < Tryz.prog.types.size := of_decide_eq_true (by kernel_rfl)
section
variable {H : Type} {enc : TypeId × Value → H} {W W' : World} {sp : Nat → Bool} {v : Value} {d : DataW H} {ps : List MemPlace}
theorem point_stay (h : DataW.Trod enc Tryz.prog W 0 (fun _ => true) true 24 v d ps) (hb : Below W.heap.size W W') (hlt : ∀ x ∈ ps, x.block < W.heap.size) (hsp : ∀ p ∈ ps, sp p.block = true) : DataW.Trod enc Tryz.prog W' 0 sp true 24 v d ps :=
  WideElems.Trod_stays Tryz.laidOutB Tryz.readPoint Tryz.rowPoint h (fun x hx => hb.same (hlt x hx)) hsp
end
end Go.Proofs.YtifdgdgfmjfbdaaGreat
