/- Lists of boxes; the walk of fix.boxes. -/
import Derived.Test.YtifdgdgfmjfbdaaGreatHJc
import Derived.Test.YtifdgdgfmjfbdaaGreatHAg
import Derived.Test.YtifdgdgfmjfbdaaGreatHUk
import Derived.Test.YtifdgdgfmjfbdaaGreatHVj
import Derived.Test.YtifdgdgfmjfbdaaGreatHUo
import Derived.Test.YtifdgdgfmjfbdaaGreatHAi
import Derived.Test.YtifdgdgfmjfbdaaGreatHTf
import Derived.Test.YtifdgdgfmjfbdaaGreatHJb
import Derived.Test.YtifdgdgfmjfbdaaGreatHWb
set_option linter.unusedVariables false
set_option linter.unusedSimpArgs false
namespace Go.Proofs.YtifdgdgfmjfbdaaGreat
open Go.RowKit
def aeq (a b a' b' : Int) : Bool := decide (a = a' ∧ b = b')
theorem equalInArc (a b a' b' : Int) (w : World) : (Op.equalIn 10000 29 (.agg #[.int .i64 a, .int .i64 b]) (.agg #[.int .i64 a', .int .i64 b'])).run Tryz.prog w = .ok (aeq a b a' b') w := by
  have u3 := Tryz.underlying3
  have a3 := Tryz.isAgg3
  have z3 := Tryz.sizeOf3
  have hS : Tryz.prog.underlying 29 = some (.struct (Tryz.prog.fieldsOf 29)) := by kernel_rfl
  have hp : Tryz.prog.stoodInHeld 29 = false := by kernel_rfl
  rw [show (10000 : Nat) = 9999 + 1 from rfl, run_equalIn_agg w 9999 29 _ _ hS hp]
  simp only [Program.fieldsOf, Tryz.underlying29]
  go_simp
  by_cases h1 : a = a' <;> by_cases h2 : b = b' <;> simp [aeq, h1, h2]
theorem eqlArc (a b a' b' : Int) (w : World) : (binOp .eql 29 (.agg #[.int .i64 a, .int .i64 b]) (.agg #[.int .i64 a', .int .i64 b'])).run Tryz.prog w = .ok (.bool (aeq a b a' b')) w := by
  rw [run_eql_struct, equalInArc]; rfl
theorem tmod_cases (n : Int) : (0 ≤ n ∧ n.tmod 21600000 = n % 21600000) ∨ (n < 0 ∧ n.tmod 21600000 = -((-n) % 21600000)) := by
  by_cases h : 0 ≤ n
  · exact .inl ⟨h, Int.tmod_eq_emod_of_nonneg h⟩
  · refine .inr ⟨by omega, ?_⟩
    have h1 : (-n).tmod 21600000 = (-n) % 21600000 := Int.tmod_eq_emod_of_nonneg (by omega)
    rw [Int.neg_tmod] at h1
    omega
theorem tmod_pos {n : Int} (h : 0 ≤ n.tmod 21600000) : n.tmod 21600000 = n % 21600000 := by
  rcases tmod_cases n with ⟨h1, h2⟩ | ⟨h1, h2⟩ <;> omega
theorem tmod_neg {n : Int} (h : n.tmod 21600000 < 0) : n.tmod 21600000 + 21600000 = n % 21600000 := by
  rcases tmod_cases n with ⟨h1, h2⟩ | ⟨h1, h2⟩ <;> omega
theorem everywhere_any (w : World) : Calls Tryz.prog 198 #[] w fun e w' => e = .returned (.agg #[.int .i64 (-10800000), .int .i64 10800000]) ∧ Below w.heap.size w w' := by
  go_enter Tryz.func198, Tryz.ntmps198
  go_wp2
  refine bodyPost_ret (v := .agg #[.int .i64 (-10800000), .int .i64 10800000]) (by simp [results, Tryz.results198, go_sem]) rfl ⟨rfl, ?_⟩
  repeat (first | exact Below.refl _ _ | assumption | refine bl_drew ?_ | refine bl_drewN ?_ _ | refine Below.setCell ?_ (by first | assumption | omega | (simp; done) | (simp; omega)) _ | refine Below.alloc ?_ (by first | assumption | omega | (simp; done) | (simp; omega)) _)
/-- a world that left what was there alone -/
structure BV (w0 : World) where
  w : World
  hb : Below w0.heap.size w0 w
instance bvSome (w0 : World) : Nonempty (BV w0) := ⟨⟨w0, Below.refl _ _⟩⟩
theorem wp_region_bv {P : Program} {id : Nat} {Q : Exit → Act → World → Prop} {a : Act} {w : World} {l : List Oper} (w0 : World) (hm : P.follows .mixedOrders = true) (hB : Region.lexB .any l.toArray = true) (h0 : Below w0.heap.size w0 w)
    (h : wpQuiet P l.toArray (fun w' => ∃ s : BV w0, w' = s.w) (fun a' => ∀ w9, Below w0.heap.size w0 w9 → Q .normal a' w9) l a) : (Code.region id l.toArray true).wp P Q a w := by
  have e : (fun a' => ∀ w9, Below w0.heap.size w0 w9 → Q .normal a' w9) = (fun a' : Act => ∀ w', (∃ s : BV w0, w' = s.w) → Q .normal a' w') :=
    funext fun a' => propext ⟨fun h w' ⟨s, hs⟩ => hs ▸ h s.w s.hb, fun h w9 hb => h w9 ⟨⟨w9, hb⟩, rfl⟩⟩
  rw [e] at h
  exact wp_region_quiet (C := fun w' => ∃ s : BV w0, w' = s.w) hm hB ⟨⟨_, bl_drew h0⟩, rfl⟩ (by simpa using h)
theorem quiet_bv {P : Program} {f : FuncId} {args : Array Value} {w0 : World} {s : BV w0} {v : Value} (h : Calls P f args s.w fun e w' => e = .returned v ∧ Below s.w.heap.size s.w w') :
    Calls P f args s.w fun e w'' => e = .returned v ∧ ∃ s' : BV w0, w'' = s'.w :=
  h.mono fun _ w' ⟨he, hb⟩ => ⟨he, ⟨w', s.hb.trans (hb.mono s.hb.size)⟩, rfl⟩
set_option maxHeartbeats 400000 in
theorem all_any (x y : Int) (w : World) : Calls Tryz.prog 134 #[.agg #[.int .i64 x, .int .i64 y]] w fun e w' => e = .returned (.bool (aeq x y (-10800000) 10800000)) ∧ Below w.heap.size w w' := by
  have K := Lib.hid everywhere_any
  have hq := eqlArc
  go_enter Tryz.func134, Tryz.ntmps134
  go_upto_region 1 with fail
  have b0 := bl_alloc w (.cells #[.int .i64 x, .int .i64 y] 29)
  have x1 : ∀ s : BV (w.alloc (.cells #[.int .i64 x, .int .i64 y] 29)), s.w.cell? ⟨w.heap.size, 0, none⟩ = some (.int .i64 x) := fun s => (s.hb.cell (p := ⟨w.heap.size, 0, none⟩) (by simp)).trans (by simp)
  have x2 : ∀ s : BV (w.alloc (.cells #[.int .i64 x, .int .i64 y] 29)), s.w.cell? ⟨w.heap.size, 1, none⟩ = some (.int .i64 y) := fun s => (s.hb.cell (p := ⟨w.heap.size, 1, none⟩) (by simp)).trans (by simp)
  refine wp_region_bv (w.alloc (.cells #[.int .i64 x, .int .i64 y] 29)) (by kernel_rfl) (by kernel_rfl) (Below.refl _ _) ?_
  (repeat (go_big_quiet_step (first | (go_at_call 198; with_reducible exact quiet_bv (K.out _)) | fail)))
  refine wpQuiet_nil ?_
  intro w9 hb9
  clear x1 x2
  go_wp2
  go_ret
  exact ⟨rfl, b0.trans (hb9.mono (by simp))⟩
set_option maxHeartbeats 400000 in
theorem Wrap_any (n : Int) (w : World) (h0 : -1000000000000 ≤ n) (h1 : n ≤ 1000000000000) : Calls Tryz.prog 58 #[.int .i64 n] w fun e w' => e = .returned (.int .i64 (n % 21600000)) ∧ Below w.heap.size w w' := by
  go_enter Tryz.func58, Tryz.ntmps58
  go_wp2
  all_goals
    go_ret
    refine ⟨ret_int ?_, ?_⟩
    · first | (exact tmod_pos (by assumption)) | (rw [IntWalk.wrap64_in _ (by have := tmod_neg (n := n) (by assumption); omega)]; exact tmod_neg (by assumption))
    · repeat (first | exact Below.refl _ _ | assumption | refine bl_drew ?_ | refine bl_drewN ?_ _ | refine Below.setCell ?_ (by first | assumption | omega | (simp; done) | (simp; omega)) _ | refine Below.alloc ?_ (by first | assumption | omega | (simp; done) | (simp; omega)) _)
set_option maxHeartbeats 400000 in
theorem beyond_any (x y n : Int) (w : World) (h0 : -100000000 ≤ n) (h1 : n ≤ 100000000) (h2 : -100000000 ≤ x) (h3 : x ≤ 100000000) : Calls Tryz.prog 135 #[.agg #[.int .i64 x, .int .i64 y], .int .i64 n] w fun e w' => e = .returned (.int .i64 ((n - x) % 21600000)) ∧ Below w.heap.size w w' := by
  have K := Lib.hid (fun W => Wrap_any (n - x) W (by omega) (by omega))
  go_enter Tryz.func135, Tryz.ntmps135
  go_wp2_with (go_at_call 58; (with_reducible refine (K.out _).mono ?_); rintro e w1 ⟨rfl, hb1⟩)
  go_ret
  exact ⟨rfl, one_bl hb1⟩
set_option maxHeartbeats 1000000 in
theorem has_place (x y n : Int) (w : World) (h0 : -100000000 ≤ n) (h1 : n ≤ 100000000) (h2 : -100000000 ≤ x) (hx : x ≤ 100000000) (h3 : x ≤ y) (h4 : y - x < 21600000) : Calls Tryz.prog 70 #[.agg #[.int .i64 x, .int .i64 y], .int .i64 n] w fun e w' => e = .returned (.bool (lonIn x y n)) ∧ Below w.heap.size w w' := by
  · have ha : aeq x y (-10800000) 10800000 = false := by simp [aeq]; omega
    have K := Lib.hid (fun W => all_any x y W)
    rw [ha] at K
    have K2 := Lib.hid (fun W => beyond_any x y n W h0 h1 h2 hx)
    have sy : IntKind.i64.wrap (y - x) = y - x := IntWalk.i64_in _ (by omega)
    unfold lonIn
    clear ha
    go_enter Tryz.func70, Tryz.ntmps70
    go_upto_region 1 with fail
    have b0 := bl_alloc w (.cells #[.int .i64 x, .int .i64 y] 29)
    have x1 : ∀ s : BV (w.alloc (.cells #[.int .i64 x, .int .i64 y] 29)), s.w.cell? ⟨w.heap.size, 0, none⟩ = some (.int .i64 x) := fun s => (s.hb.cell (p := ⟨w.heap.size, 0, none⟩) (by simp)).trans (by simp)
    have x2 : ∀ s : BV (w.alloc (.cells #[.int .i64 x, .int .i64 y] 29)), s.w.cell? ⟨w.heap.size, 1, none⟩ = some (.int .i64 y) := fun s => (s.hb.cell (p := ⟨w.heap.size, 1, none⟩) (by simp)).trans (by simp)
    refine wp_region_bv (w.alloc (.cells #[.int .i64 x, .int .i64 y] 29)) (by kernel_rfl) (by kernel_rfl) (Below.refl _ _) ?_
    (repeat (go_big_quiet_step (first | (go_at_call 134; with_reducible exact quiet_bv (K.out _)) | (go_at_call 135; with_reducible exact quiet_bv (K2.out _)) | fail)))
    refine wpQuiet_nil ?_
    intro w9 hb9
    clear x1 x2 sy
    go_wp2
    go_ret
    exact ⟨rfl, b0.trans (hb9.mono (by simp))⟩
end Go.Proofs.YtifdgdgfmjfbdaaGreat
namespace Go.Proofs.YtifdgdgfmjfbdaaGreat
open Go.RowKit
theorem fits_any (n : Int) (w : World) : Calls Tryz.prog 102 #[.int .i64 n] w fun e w' => e = .returned (.bool (rchB n)) ∧ w' = w := by
  unfold rchB
  go_enter Tryz.func102, Tryz.ntmps102
  go_wp2
  all_goals
    go_ret
    exact ⟨ret_bool (by first | rfl | (simp_all; done) | (simp_all; omega)), rfl⟩
theorem av_parts (lo hi : Int) : avB lo hi = (decide (lo ≤ hi) && rchB lo && rchB hi) := by
  unfold avB rchB
  rw [Bool.eq_iff_iff]
  simp only [Bool.and_eq_true, decide_eq_true_eq]
  omega
set_option maxHeartbeats 400000 in
theorem aValid_any (lo hi : Int) (w : World) : Calls Tryz.prog 49 #[.agg #[.int .i64 lo, .int .i64 hi]] w fun e w' => e = .returned (.bool (avB lo hi)) ∧ Below w.heap.size w w' := by
  have KL := Lib.hid (fun W => fits_any lo W)
  have KH := Lib.hid (fun W => fits_any hi W)
  rw [av_parts]
  generalize rchB lo = s at *
  generalize rchB hi = t at *
  by_cases h : lo ≤ hi
  · have d : decide (lo ≤ hi) = true := decide_eq_true h
    rw [d]
    cases s
    · go_enter Tryz.func49, Tryz.ntmps49
      go_wp2_with (go_at_call 102; (with_reducible refine (KL.out _).mono ?_); rintro e w9 ⟨rfl, rfl⟩)
      go_ret
      refine ⟨rfl, ?_⟩
      repeat (first | exact Below.refl _ _ | assumption | refine bl_drew ?_ | refine bl_drewN ?_ _ | refine Below.setCell ?_ (by first | assumption | omega | (simp; done) | (simp; omega)) _ | refine Below.alloc ?_ (by first | assumption | omega | (simp; done) | (simp; omega)) _)
    · cases t
      all_goals
        go_enter Tryz.func49, Tryz.ntmps49
        go_wp2_with (go_at_call 102; (first | (with_reducible refine (KL.out _).mono ?_) | (with_reducible refine (KH.out _).mono ?_)); rintro e w9 ⟨rfl, rfl⟩)
        go_ret
        refine ⟨rfl, ?_⟩
        repeat (first | exact Below.refl _ _ | assumption | refine bl_drew ?_ | refine bl_drewN ?_ _ | refine Below.setCell ?_ (by first | assumption | omega | (simp; done) | (simp; omega)) _ | refine Below.alloc ?_ (by first | assumption | omega | (simp; done) | (simp; omega)) _)
  · have d : decide (lo ≤ hi) = false := decide_eq_false h
    rw [d]
    go_enter Tryz.func49, Tryz.ntmps49
    go_wp2
    go_ret
    refine ⟨rfl, ?_⟩
    repeat (first | exact Below.refl _ _ | assumption | refine bl_drew ?_ | refine bl_drewN ?_ _ | refine Below.setCell ?_ (by first | assumption | omega | (simp; done) | (simp; omega)) _ | refine Below.alloc ?_ (by first | assumption | omega | (simp; done) | (simp; omega)) _)
/-- a number as a longitude -/
def sgT (n : Int) : Int := if 10800000 ≤ n % 21600000 then n % 21600000 - 21600000 else n % 21600000
set_option maxHeartbeats 400000 in
theorem Wrap_far (n : Int) (w : World) : Calls Tryz.prog 58 #[.int .i64 n] w fun e w' => e = .returned (.int .i64 (n % 21600000)) ∧ Below w.heap.size w w' := by
  go_enter Tryz.func58, Tryz.ntmps58
  go_wp2
  all_goals
    go_ret
    refine ⟨ret_int ?_, ?_⟩
    · first | (exact tmod_pos (by assumption)) | (rw [IntWalk.wrap64_in _ (by have := tmod_neg (n := n) (by assumption); omega)]; exact tmod_neg (by assumption))
    · repeat (first | exact Below.refl _ _ | assumption | refine bl_drew ?_ | refine bl_drewN ?_ _ | refine Below.setCell ?_ (by first | assumption | omega | (simp; done) | (simp; omega)) _ | refine Below.alloc ?_ (by first | assumption | omega | (simp; done) | (simp; omega)) _)
set_option maxHeartbeats 400000 in
theorem Signed_any (n : Int) (w : World) : Calls Tryz.prog 69 #[.int .i64 n] w fun e w' => e = .returned (.int .i64 (sgT n)) ∧ Below w.heap.size w w' := by
  have K := Lib.hid (fun W => Wrap_far n W)
  have hm : 0 ≤ n % 21600000 ∧ n % 21600000 < 21600000 := by omega
  unfold sgT
  generalize n % 21600000 = m at *
  by_cases h : 10800000 ≤ m
  all_goals
    first | rw [if_pos h] | rw [if_neg h]
    go_enter Tryz.func69, Tryz.ntmps69
    go_wp2_with fail
    (with_reducible refine (K.out _).mono ?_)
    rintro e w1 ⟨rfl, hb1⟩
    go_wp2
    go_ret
    exact ⟨rfl, hb1⟩
end Go.Proofs.YtifdgdgfmjfbdaaGreat
namespace Go.Proofs.YtifdgdgfmjfbdaaGreat
open Go.RowKit
theorem clat_yes (lo hi : Int) (w : World) (h0 : -5400000 ≤ lo) (h1 : lo ≤ hi) (h2 : hi ≤ 5400000) : Calls Tryz.prog 199 #[.agg #[.int .i64 lo, .int .i64 hi]] w fun e w' => e = .returned (.bool true) ∧ Below w.heap.size w w' := by
  have KV := Lib.hid (fun W => aValid_any lo hi W)
  rw [avB_true.2 (by omega : -1099511627776 ≤ lo ∧ lo ≤ hi ∧ hi ≤ 1099511627776)] at KV
  have T1 := Lib.hid (D2.new w lo hi 29)
  have B0 := Lib.hid (bl_alloc w (.cells #[.int .i64 lo, .int .i64 hi] 29))
  have d1 : -5400000 ≤ lo := h0
  have d2 : hi ≤ 5400000 := h2
  go_enter Tryz.func199, Tryz.ntmps199
  go_wp2_with fail
  (with_reducible refine (KV.out _).mono ?_)
  rintro e w1 ⟨rfl, hb1⟩
  have B1 := Lib.hid (B0.out.trans (hb1.mono B0.out.size))
  obtain ⟨at1, a0, a1, af0, af1⟩ := T1.out.below hb1 T1.out.lt
  clear hb1
  go_wp2
  go_ret
  exact ⟨ret_bool (by simp), B1.out⟩
set_option maxHeartbeats 1000000 in
theorem cValid_yes (a b c : Int × Int) (w : World) (ha : -5400000 ≤ a.1 ∧ a.1 ≤ a.2 ∧ a.2 ≤ 5400000) (hb : -5400000 ≤ b.1 ∧ b.1 ≤ b.2 ∧ b.2 ≤ 5400000) (hc : avB c.1 c.2 = true) :
    Calls Tryz.prog 136 #[.agg #[.int .i64 a.1, .int .i64 a.2, .int .i64 b.1, .int .i64 b.2, .int .i64 c.1, .int .i64 c.2]] w fun e w' => e = .returned (.bool true) ∧ Below w.heap.size w w' := by
  have K1 := Lib.hid (fun W => clat_yes a.1 a.2 W ha.1 ha.2.1 ha.2.2)
  have K2 := Lib.hid (fun W => clat_yes b.1 b.2 W hb.1 hb.2.1 hb.2.2)
  have K3 := Lib.hid (fun W => aValid_any c.1 c.2 W)
  rw [hc] at K3
  obtain ⟨a0, a1⟩ := a
  obtain ⟨b0, b1⟩ := b
  obtain ⟨c0, c1⟩ := c
  simp only [] at K1 K2 K3 ⊢
  clear ha hb hc
  have T1 := Lib.hid (C6.new w a0 a1 b0 b1 c0 c1 92)
  have B0 := Lib.hid (bl_alloc w (.cells #[.int .i64 a0, .int .i64 a1, .int .i64 b0, .int .i64 b1, .int .i64 c0, .int .i64 c1] 92))
  go_enter Tryz.func136, Tryz.ntmps136
  go_wp2_with fail
  (with_reducible refine (K1.out _).mono ?_)
  rintro e w1 ⟨rfl, hb1⟩
  have B1 := Lib.hid (B0.out.trans (hb1.mono B0.out.size))
  have T2 := Lib.hid (T1.out.below hb1 T1.out.lt)
  clear hb1 T1 B0
  obtain ⟨tl, x0, x1, x2, x3, x4, x5⟩ := T2.out
  go_wp2_with fail
  (with_reducible refine (K2.out _).mono ?_)
  rintro e w2 ⟨rfl, hb2⟩
  have B2 := Lib.hid (B1.out.trans (hb2.mono B1.out.size))
  clear tl x0 x1 x2 x3 x4 x5
  obtain ⟨tl, x0, x1, x2, x3, x4, x5⟩ := T2.out.below hb2 T2.out.lt
  clear hb2
  go_wp2_with fail
  (with_reducible refine (K3.out _).mono ?_)
  rintro e w3 ⟨rfl, hb3⟩
  have B3 := Lib.hid (B2.out.trans (hb3.mono B2.out.size))
  clear hb3
  go_wp2
  go_ret
  exact ⟨rfl, B3.out⟩
set_option maxHeartbeats 1000000 in
set_option maxRecDepth 100000 in
theorem Altitude_yes (a b c : Int × Int) (w : World) (ha : -5400000 ≤ a.1 ∧ a.1 ≤ a.2 ∧ a.2 ≤ 5400000) (hb : -5400000 ≤ b.1 ∧ b.1 ≤ b.2 ∧ b.2 ≤ 5400000) (hc : avB c.1 c.2 = true) (h3 : (Trig.sinT a b c).1 ≤ 1073741824) (h4 : -1073741824 ≤ (Trig.sinT a b c).2) :
    Calls Tryz.prog 71 #[.agg #[.int .i64 a.1, .int .i64 a.2, .int .i64 b.1, .int .i64 b.2, .int .i64 c.1, .int .i64 c.2]] w fun e w' => e = .returned (.tuple #[.agg #[.int .i64 (Trig.asnV (max (Trig.sinT a b c).1 (-1073741824))), .int .i64 (-Trig.asnV (-(min (Trig.sinT a b c).2 1073741824)))], .int .i64 0]) ∧ Below w.heap.size w w' := by
  have KV := Lib.hid (fun W => cValid_yes a b c W ha hb hc)
  have KA := Lib.hid (fun W => altitude_yes a b c W (avB_true.2 (by omega)) (avB_true.2 (by omega)) hc h3 h4)
  generalize Trig.asnV (max (Trig.sinT a b c).1 (-1073741824)) = r0 at *
  generalize -Trig.asnV (-(min (Trig.sinT a b c).2 1073741824)) = r1 at *
  obtain ⟨a0, a1⟩ := a
  obtain ⟨b0, b1⟩ := b
  obtain ⟨c0, c1⟩ := c
  simp only [] at KV KA ⊢
  clear ha hb hc h3 h4
  have T1 := Lib.hid ((C6.new w a0 a1 b0 b1 c0 c1 92).below (bl_alloc _ (.cells #[.int .i64 0, .int .i64 0] 29)) (by simp))
  have TR : Hid (D2 ((w.alloc (.cells #[.int .i64 a0, .int .i64 a1, .int .i64 b0, .int .i64 b1, .int .i64 c0, .int .i64 c1] 92)).alloc (.cells #[.int .i64 0, .int .i64 0] 29)) (w.heap.size + 1) 0 0) := Lib.hid (by
    have := D2.new (w.alloc (.cells #[.int .i64 a0, .int .i64 a1, .int .i64 b0, .int .i64 b1, .int .i64 c0, .int .i64 c1] 92)) 0 0 29
    rwa [World.size_alloc] at this)
  have B0 := Lib.hid ((bl_alloc w (.cells #[.int .i64 a0, .int .i64 a1, .int .i64 b0, .int .i64 b1, .int .i64 c0, .int .i64 c1] 92)).alloc (by simp) (.cells #[.int .i64 0, .int .i64 0] 29))
  go_enter Tryz.func71, Tryz.ntmps71
  go_wp2_with fail
  (with_reducible refine (KV.out _).mono ?_)
  rintro e w1 ⟨rfl, hb1⟩
  have B1 := Lib.hid (B0.out.trans (hb1.mono B0.out.size))
  have T2 := Lib.hid (T1.out.below hb1 T1.out.lt)
  have R2 := Lib.hid (TR.out.below hb1 TR.out.lt)
  clear hb1 T1 B0 TR
  obtain ⟨tl, x0, x1, x2, x3, x4, x5⟩ := T2.out
  go_wp2_with fail
  (with_reducible refine (KA.out _).mono ?_)
  rintro e w2 ⟨rfl, hb2⟩
  have B2 := Lib.hid (B1.out.trans (hb2.mono B1.out.size))
  clear tl x0 x1 x2 x3 x4 x5
  obtain ⟨rt, ra, rb, rf0, rf1⟩ := R2.out.below hb2 R2.out.lt
  clear hb2
  go_wp2
  refine bodyPost_ret (v := .tuple #[.agg #[.int .i64 r0, .int .i64 r1], .int .i64 0]) (by simp [results, Tryz.results71, go_sem, *]; done) rfl ⟨rfl, ?_⟩
  exact (B2.out.setCell (by simp only []; omega) _).setCell (by simp only []; omega) _
end Go.Proofs.YtifdgdgfmjfbdaaGreat
namespace Go.Proofs.YtifdgdgfmjfbdaaGreat.Trig
theorem sin01 {x : Rat} (h : 0 ≤ x) (h1 : x ≤ 1) : 0 ≤ sinP x ∧ sinP x ≤ 1 := by
  rw [sin_alt]
  obtain ⟨a, b⟩ := alt_bd h h1 35 1
  exact ⟨a, Rat.le_trans b (mo_le1 h h1 1)⟩
theorem cos01 {x : Rat} (h : 0 ≤ x) (h1 : x ≤ 1) : 0 ≤ cosP x ∧ cosP x ≤ 1 := by
  rw [cos_alt]
  obtain ⟨a, b⟩ := alt_bd h h1 35 0
  exact ⟨a, Rat.le_trans b (mo_le1 h h1 0)⟩
theorem sq_near1 {v a E : Rat} (hv : 0 ≤ v ∧ v ≤ 1) (hE : 0 ≤ E) (hn : v - a ≤ E) : v * v ≤ a * a + 2 * E := by
  have h1 : 0 ≤ (1 - v) * E := Rat.mul_nonneg (by grind) hE
  have h2 : 0 ≤ v * (E - (v - a)) := Rat.mul_nonneg hv.1 (by grind)
  have h3 : 0 ≤ (v - a) * (v - a) := by
    by_cases h : 0 ≤ v - a
    · exact Rat.mul_nonneg h h
    · have := Rat.mul_nonneg (a := a - v) (b := a - v) (by grind) (by grind)
      grind
  grind
theorem pyth_step {x h : Rat} (hx : 0 ≤ x) (hh : 0 ≤ h) (h1 : x + h ≤ 1) (hs : h ≤ 1 / 10000) :
    sinP (x + h) * sinP (x + h) + cosP (x + h) * cosP (x + h) ≤ sinP x * sinP x + cosP x * cosP x + 1 / 1000000000000000 := by
  have e1 := (sin_shift hx hh h1 hs).1
  have e2 := (cos_shift hx hh h1 hs).1
  have s1 := sin01 (x := x + h) (by grind) h1
  have c1 := cos01 (x := x + h) (by grind) h1
  have q0 : 0 ≤ h * h := Rat.mul_nonneg hh hh
  have q1 : h * h ≤ 1 / 100000000 := by
    have := Rat.mul_nonneg hh (show 0 ≤ 1 / 10000 - h by grind)
    grind
  have r0 : 0 ≤ h * h * (h * h) := Rat.mul_nonneg q0 q0
  have r1 : h * h * (h * h) ≤ 1 / 10000000000000000 := by
    have := Rat.mul_nonneg q0 (show 0 ≤ 1 / 100000000 - h * h by grind)
    grind
  have t0 : 0 ≤ h * h * (h * h) * (1 / 12 - h * h / 36) := Rat.mul_nonneg r0 (by grind)
  have f1 := sq_near1 s1 (E := h * h * h * h * (3 / 5) + 1 / 2 ^ 65 / 2) (by grind) e1
  have f2 := sq_near1 c1 (E := h * h * h * h * (3 / 5) + 1 / 2 ^ 65 / 2) (by grind) e2
  have ev : 0 ≤ sinP x * sinP x + cosP x * cosP x := by
    have s2 := sin01 hx (by grind)
    have c2 := cos01 hx (by grind)
    have := Rat.mul_nonneg s2.1 s2.1
    have := Rat.mul_nonneg c2.1 c2.1
    grind
  have g0 := Rat.mul_nonneg ev t0
  generalize sinP (x + h) = s' at *
  generalize cosP (x + h) = c' at *
  generalize sinP x = s at *
  generalize cosP x = c at *
  have id1 : (s + h * c - h * h / 2 * s - h * h * h / 6 * c) * (s + h * c - h * h / 2 * s - h * h * h / 6 * c) + (c - h * s - h * h / 2 * c + h * h * h / 6 * s) * (c - h * s - h * h / 2 * c + h * h * h / 6 * s) = (s * s + c * c) - (s * s + c * c) * (h * h * (h * h) * (1 / 12 - h * h / 36)) := by grind
  have id2 : h * h * h * h = h * h * (h * h) := by grind
  rw [id2] at f1 f2
  have k65 : (1 : Rat) / 2 ^ 65 / 2 ≤ 1 / 36893488147419103232 := by decide +kernel
  grind
theorem pyth_le : ∀ (n : Nat) (x : Rat), 0 ≤ x → x * 10000 ≤ (n : Rat) → x ≤ 1 → sinP x * sinP x + cosP x * cosP x ≤ 1 + (n : Rat) * (1 / 1000000000000000)
  | 0, x, h0, h1, _ => by
    have : x = 0 := by
      have h1' : x * 10000 ≤ 0 := by simpa using h1
      grind
    subst this
    decide +kernel
  | n + 1, x, h0, h1, h2 => by
    have h1' : x * 10000 ≤ (n : Rat) + 1 := by simpa using h1
    have hc : ((n + 1 : Nat) : Rat) = (n : Rat) + 1 := by simp
    rw [hc]
    have hn := c0 n
    by_cases hx : 1 / 10000 ≤ x
    · have ih := pyth_le n (x - 1 / 10000) (by grind) (by grind) (by grind)
      have := pyth_step (x := x - 1 / 10000) (h := 1 / 10000) (by grind) (by decide +kernel) (by grind) (by grind)
      rw [show x - 1 / 10000 + 1 / 10000 = x by grind] at this
      grind
    · have := pyth_step (x := 0) (h := x) (by grind) h0 (by grind) (by grind)
      rw [show 0 + x = x by grind] at this
      have z : sinP 0 * sinP 0 + cosP 0 * cosP 0 ≤ 1 := by decide +kernel
      grind
theorem sq_le2 {A s : Rat} (h0 : 0 ≤ A) (h : A * 4294967296 ≤ s * 4611686018427387904 + 75) (hs : 0 ≤ s ∧ s ≤ 1) : A * A ≤ s * s * 1152921504606846976 + 75 := by
  have h1 : 0 ≤ A * (s * 1073741824 + 75 / 4294967296 - A) := Rat.mul_nonneg h0 (by grind)
  have h2 : 0 ≤ (s * 1073741824 + 75 / 4294967296) * (s * 1073741824 + 75 / 4294967296 - A) := Rat.mul_nonneg (by grind) (by grind)
  grind
theorem quick_pyth {r : Nat} (h : r ≤ 2700000) : (quickN r false / 4294967296) * (quickN r false / 4294967296) + (quickN r true / 4294967296) * (quickN r true / 4294967296) ≤ 1152921505680588799 := by
  obtain ⟨x0, x1⟩ := ang_bd h
  have hs := (quick_sin h).1
  have hc := (quick_cos h).1
  have hv := pyth_le 8000 ((r : Rat) * th) x0 (by grind) (by grind)
  have s1 := sin01 x0 (by grind)
  have c1 := cos01 x0 (by grind)
  generalize sinP ((r : Rat) * th) = s at *
  generalize cosP ((r : Rat) * th) = c at *
  have ds := Nat.div_mul_le_self (quickN r false) 4294967296
  have dc := Nat.div_mul_le_self (quickN r true) 4294967296
  generalize quickN r false = a at *
  generalize quickN r true = b at *
  generalize a / 4294967296 = A at *
  generalize b / 4294967296 = B at *
  have ds' : (A : Rat) * 4294967296 ≤ (a : Rat) := by exact_mod_cast ds
  have dc' : (B : Rat) * 4294967296 ≤ (b : Rat) := by exact_mod_cast dc
  have hY : (Y : Rat) = 4611686018427387904 := by decide +kernel
  rw [hY] at hs hc
  have kA : (A : Rat) * 4294967296 ≤ s * 4611686018427387904 + 75 := by grind
  have kB : (B : Rat) * 4294967296 ≤ c * 4611686018427387904 + 75 := by grind
  have sqA := sq_le2 (c0 A) kA s1
  have sqB := sq_le2 (c0 B) kB c1
  have hv' : s * s + c * c ≤ 1 + 1 / 100000000000 := by
    have : ((8000 : Nat) : Rat) * (1 / 1000000000000000) ≤ 1 / 100000000000 := by decide +kernel
    grind
  have fin : (A : Rat) * (A : Rat) + (B : Rat) * (B : Rat) ≤ 1152921505680588799 := by grind
  exact_mod_cast fin
theorem sF_half {q : Int} (h0 : 0 ≤ q) (h1 : q ≤ 2700000) : sF q * sF q + sF (5400000 - q) * sF (5400000 - q) ≤ 1152921505680588799 := by
  by_cases e0 : q = 0
  · subst e0; decide +kernel
  by_cases e1 : q = 1800000
  · subst e1; decide +kernel
  by_cases e2 : q = 2700000
  · subst e2; decide +kernel
  have hq := quick_pyth (r := q.toNat) (by omega)
  have f1 : sF q = ((quickN q.toNat false / 4294967296 : Nat) : Int) := by
    unfold sF
    rw [if_neg e0, if_neg e1, if_neg (by omega), if_pos (by omega)]
  have f2 : sF (5400000 - q) = ((quickN q.toNat true / 4294967296 : Nat) : Int) := by
    unfold sF
    rw [if_neg (by omega), if_neg (by omega), if_neg (by omega), if_neg (by omega), show 5400000 - (5400000 - q) = q by omega]
  rw [f1, f2]
  clear f1 f2
  generalize quickN q.toNat false / 4294967296 = A at *
  generalize quickN q.toNat true / 4294967296 = B at *
  have e1 : ((A * A + B * B : Nat) : Int) ≤ ((1152921505680588799 : Nat) : Int) := Int.ofNat_le.2 hq
  rw [Int.natCast_add, Int.natCast_mul, Int.natCast_mul] at e1
  omega
theorem sF_pyth {q : Int} (h0 : 0 ≤ q) (h1 : q ≤ 5400000) : sF q * sF q + sF (5400000 - q) * sF (5400000 - q) ≤ 1152921505680588799 := by
  by_cases h : q ≤ 2700000
  · exact sF_half h0 h
  · have := sF_half (q := 5400000 - q) (by omega) (by omega)
    rw [show 5400000 - (5400000 - q) = q by omega] at this
    omega
/-- One times the sine, rounded towards zero -/
def tz (n : Int) : Int := if sth n = true then - sF (qrt n) else sF (qrt n)
theorem up_ge (q : Int) : sF q ≤ upF q := by unfold upF; split <;> omega
theorem tz_bd (n : Int) : loB n ≤ tz n ∧ tz n ≤ hiB n := by
  have := up_ge (qrt n)
  unfold loB hiB tz
  split <;> omega
theorem tz_pyth (n : Int) : tz n * tz n + tz (n + 5400000) * tz (n + 5400000) ≤ 1152921505680588799 := by
  have hb := qrt_bd n
  have e : qrt (n + 5400000) = 5400000 - qrt n := by unfold qrt; omega
  have := sF_pyth hb.1 hb.2
  have a1 : tz n * tz n = sF (qrt n) * sF (qrt n) := by unfold tz; split <;> grind
  have a2 : tz (n + 5400000) * tz (n + 5400000) = sF (5400000 - qrt n) * sF (5400000 - qrt n) := by unfold tz; rw [e]; split <;> grind
  omega
theorem en_tz (lo hi : Int) : enLo lo hi ≤ tz lo ∧ tz lo ≤ enHi lo hi := by
  have h1 := tz_bd lo
  have h2 := hi_le lo
  unfold enLo enHi
  generalize metB lo hi 16200000 = s at *
  generalize metB lo hi 5400000 = t at *
  generalize loB lo = p at *
  generalize hiB lo = q at *
  generalize tz lo = z at *
  cases s <;> cases t <;> simp only [Bool.false_eq_true, if_false, if_true] <;> omega
theorem lin1 {x1 x2 u : Int} (h1 : x1 ≤ u) (h2 : u ≤ x2) (v : Int) : min (x1 * v) (x2 * v) ≤ u * v ∧ u * v ≤ max (x1 * v) (x2 * v) := by
  rcases Int.le_total 0 v with g | g
  · have := Int.mul_le_mul_of_nonneg_right h1 g
    have := Int.mul_le_mul_of_nonneg_right h2 g
    omega
  · have := Int.mul_le_mul_of_nonpos_right h1 g
    have := Int.mul_le_mul_of_nonpos_right h2 g
    omega
theorem lin2 {y1 y2 v : Int} (h1 : y1 ≤ v) (h2 : v ≤ y2) (u : Int) : min (u * y1) (u * y2) ≤ u * v ∧ u * v ≤ max (u * y1) (u * y2) := by
  have := lin1 h1 h2 u
  rw [Int.mul_comm u y1, Int.mul_comm u y2, Int.mul_comm u v]
  exact this
/-- an interval of products has each product -/
theorem mulP_in {x y : Int × Int} {u v : Int} (h1 : x.1 ≤ u) (h2 : u ≤ x.2) (g1 : y.1 ≤ v) (g2 : v ≤ y.2) : (mulP x y).1 ≤ u * v / 1073741824 ∧ -(-(u * v) / 1073741824) ≤ (mulP x y).2 := by
  have a := lin1 h1 h2 v
  have b := lin2 g1 g2 x.1
  have c := lin2 g1 g2 x.2
  unfold mulP
  simp only []
  generalize x.1 * y.1 = p at *
  generalize x.1 * y.2 = q at *
  generalize x.2 * y.1 = r at *
  generalize x.2 * y.2 = s at *
  generalize x.1 * v = k at *
  generalize x.2 * v = l at *
  generalize u * v = m at *
  omega
theorem sqn (a : Int) : 0 ≤ a * a := by
  rcases Int.le_total 0 a with h | h
  · exact Int.mul_nonneg h h
  · exact Int.mul_nonneg_of_nonpos_of_nonpos h h
theorem two_mul_le (a b : Int) : 2 * (a * b) ≤ a * a + b * b ∧ -(2 * (a * b)) ≤ a * a + b * b := by
  have h1 : 0 ≤ (a - b) * (a - b) := sqn _
  have h2 : 0 ≤ (a + b) * (a + b) := sqn _
  have e1 : (a - b) * (a - b) = a * a + b * b - 2 * (a * b) := by grind
  have e2 : (a + b) * (a + b) = a * a + b * b + 2 * (a * b) := by grind
  omega
theorem tz_one (n : Int) : -1073741824 ≤ tz n ∧ tz n ≤ 1073741824 := by
  have h := qrt_bd n
  have := sF_bd h.1 h.2
  unfold tz
  split <;> omega
/-- a triangle's sine meets the sines -/
theorem sinT_meets (a b c : Int × Int) : (sinT a b c).1 ≤ 1073741824 ∧ -1073741824 ≤ (sinT a b c).2 := by
  have sa := en_tz a.1 a.2
  have sb := en_tz b.1 b.2
  have ca := en_tz (a.1 + 5400000) (a.2 + 5400000)
  have cb := en_tz (b.1 + 5400000) (b.2 + 5400000)
  have cc := en_tz (c.1 + 5400000) (c.2 + 5400000)
  have pa := tz_pyth a.1
  have pb := tz_pyth b.1
  have m1 := mulP_in (x := snP a) (y := snP b) sa.1 sa.2 sb.1 sb.2
  have m2 := mulP_in (x := csP a) (y := csP b) ca.1 ca.2 cb.1 cb.2
  have oc := tz_one (c.1 + 5400000)
  have q1 := two_mul_le (tz a.1) (tz b.1)
  have q2 := two_mul_le (tz (a.1 + 5400000)) (tz (b.1 + 5400000))
  generalize tz (c.1 + 5400000) = z at *
  have main : ∀ t : Int, (mulP (csP a) (csP b)).1 ≤ t → t ≤ (mulP (csP a) (csP b)).2 → (∃ k : Int, 0 ≤ k ∧ -k ≤ t ∧ t ≤ k ∧ 2 * (1073741824 * k) ≤ tz (a.1 + 5400000) * tz (a.1 + 5400000) + tz (b.1 + 5400000) * tz (b.1 + 5400000)) → (sinT a b c).1 ≤ 1073741824 ∧ -1073741824 ≤ (sinT a b c).2 := by
    rintro t h1 h2 ⟨k, k0, k1, k2, k3⟩
    have m3 := mulP_in (x := mulP (csP a) (csP b)) (y := csP c) h1 h2 cc.1 cc.2
    have b1 : -(k * 1073741824) ≤ t * z ∧ t * z ≤ k * 1073741824 := by
      have e1 : 0 ≤ (k - t) * (1073741824 + z) := Int.mul_nonneg (by omega) (by omega)
      have e2 : 0 ≤ (k + t) * (1073741824 - z) := Int.mul_nonneg (by omega) (by omega)
      have e3 : 0 ≤ (k - t) * (1073741824 - z) := Int.mul_nonneg (by omega) (by omega)
      have e4 : 0 ≤ (k + t) * (1073741824 + z) := Int.mul_nonneg (by omega) (by omega)
      have f1 : (k - t) * (1073741824 + z) = k * 1073741824 + k * z - t * 1073741824 - t * z := by grind
      have f2 : (k + t) * (1073741824 - z) = k * 1073741824 - k * z + t * 1073741824 - t * z := by grind
      have f3 : (k - t) * (1073741824 - z) = k * 1073741824 - k * z - t * 1073741824 + t * z := by grind
      have f4 : (k + t) * (1073741824 + z) = k * 1073741824 + k * z + t * 1073741824 + t * z := by grind
      omega
    unfold sinT addP
    simp only []
    generalize t * z = tz' at *
    generalize (mulP (snP a) (snP b)).1 = w1 at *
    generalize (mulP (snP a) (snP b)).2 = w2 at *
    generalize (mulP (mulP (csP a) (csP b)) (csP c)).1 = w3 at *
    generalize (mulP (mulP (csP a) (csP b)) (csP c)).2 = w4 at *
    generalize tz a.1 * tz b.1 = ab at *
    generalize tz a.1 * tz a.1 = aa at *
    generalize tz b.1 * tz b.1 = bb at *
    generalize tz (a.1 + 5400000) * tz (a.1 + 5400000) = xx at *
    generalize tz (b.1 + 5400000) * tz (b.1 + 5400000) = yy at *
    clear sa sb ca cb cc m2 h1 h2
    omega
  generalize tz (a.1 + 5400000) * tz (b.1 + 5400000) = cx at *
  by_cases hp : 0 ≤ cx
  · exact main (cx / 1073741824) m2.1 (by omega) ⟨cx / 1073741824, by omega, by omega, by omega, by omega⟩
  · exact main (-(-cx / 1073741824)) (by omega) m2.2 ⟨-cx / 1073741824, by omega, by omega, by omega, by omega⟩
end Go.Proofs.YtifdgdgfmjfbdaaGreat.Trig
namespace Go.Proofs.YtifdgdgfmjfbdaaGreat
open Go.RowKit
/-- a box: least and greatest latitude, least and greatest longitude -/
abbrev Bx := Int × Int × Int × Int
/-- the box of a cell -/
def bxI (x : Cl) : Bx := (edg x.2.1 x.1 - 5400000, edg (x.2.1 + 1) x.1 - 5400000, edg x.2.2 x.1 - 10800000, edg (x.2.2 + 1) x.1 - 10800000)
end Go.Proofs.YtifdgdgfmjfbdaaGreat
