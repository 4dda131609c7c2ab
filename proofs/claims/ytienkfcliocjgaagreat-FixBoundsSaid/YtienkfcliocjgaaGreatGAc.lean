/- The walks of cosine.Altitude and of the reference's Altitude at a valid triangle. -/
import Derived.Test.YtienkfcliocjgaaGreatGVi
import Derived.Test.YtienkfcliocjgaaGreatGUn
import Derived.Test.YtienkfcliocjgaaGreatGUp
import Derived.Test.YtienkfcliocjgaaGreatGAi
set_option linter.unusedVariables false
set_option linter.unusedSimpArgs false
/- The walks of the reference's Below, Rough, guess and Floor of arcsines. -/
namespace Go.Proofs.YtienkfcliocjgaaGreat
open Go.RowKit
set_option maxHeartbeats 2000000 in
theorem rBelow_any (n v : Int) (w : World) : Calls Tryz.prog 101 #[.int .i64 n, .int .i64 v] w fun e w' => (∃ s : Int, e = .returned (.int .i64 s) ∧ Trig.BelP (Trig.hiB n) v s) ∧ Below w.heap.size w w' := by
  have KF := Lib.hid (fun W => Floor_any n W)
  have hx : Trig.hiB n = if Trig.rEx n = true then Trig.loB n else Trig.loB n + 1 := by
    cases h : Trig.rEx n with
    | true => rw [if_pos rfl]; exact (Trig.exact_same n h).2
    | false => rw [if_neg (by decide)]; exact (qv_facts n h).2.2.2
  generalize Trig.loB n = lo at *
  generalize Trig.hiB n = hi at *
  generalize Trig.rEx n = ex at *
  have ret : ∀ (s : Int) (w1 : World), Below w.heap.size w w1 → (hi ≤ v → s ≤ 0) → (v < hi → 0 < s) → (∃ s' : Int, Ending.returned (.int .i64 s) = .returned (.int .i64 s') ∧ Trig.BelP hi v s') ∧ Below w.heap.size w w1 := fun s w1 hb h1 h2 => ⟨⟨s, rfl, h1, h2⟩, hb⟩
  cases ex with
  | true =>
    simp only [if_true] at hx
    subst hx
    rcases Int.lt_trichotomy hi v with g | g | g
    · have d1 : (hi == v) = false := by simp; omega
      go_enter Tryz.func101, Tryz.ntmps101
      go_wp2_with fail
      (with_reducible refine (KF.out _).mono ?_)
      rintro e w1 ⟨rfl, hb1⟩
      go_wp2
      go_ret
      exact ret (-1) _ hb1 (fun _ => by decide) (fun h => by omega)
    · subst g
      go_enter Tryz.func101, Tryz.ntmps101
      go_wp2_with fail
      (with_reducible refine (KF.out _).mono ?_)
      rintro e w1 ⟨rfl, hb1⟩
      go_wp2
      go_ret
      exact ret 0 _ hb1 (fun _ => by decide) (fun h => by omega)
    · have d1 : (hi == v) = false := by simp; omega
      have d2 : v ≤ hi := by omega
      go_enter Tryz.func101, Tryz.ntmps101
      go_wp2_with fail
      (with_reducible refine (KF.out _).mono ?_)
      rintro e w1 ⟨rfl, hb1⟩
      go_wp2
      go_ret
      exact ret 1 _ hb1 (fun h => by omega) (fun _ => by decide)
  | false =>
    simp only [Bool.false_eq_true, if_false] at hx
    by_cases g : v ≤ lo
    · go_enter Tryz.func101, Tryz.ntmps101
      go_wp2_with fail
      (with_reducible refine (KF.out _).mono ?_)
      rintro e w1 ⟨rfl, hb1⟩
      have HX := Lib.hid hx
      clear hx
      go_wp2
      go_ret
      exact ret 1 _ hb1 (fun h => by have := HX.out; omega) (fun _ => by decide)
    · have g' : lo < v := by omega
      go_enter Tryz.func101, Tryz.ntmps101
      go_wp2_with fail
      (with_reducible refine (KF.out _).mono ?_)
      rintro e w1 ⟨rfl, hb1⟩
      have HX := Lib.hid hx
      clear hx g
      go_wp2
      go_ret
      exact ret (-1) _ hb1 (fun _ => by decide) (fun h => by have := HX.out; omega)
set_option maxHeartbeats 2000000 in
theorem rough_pos (n : Int) (w : World) (h0 : 0 ≤ n) : Calls Tryz.prog 127 #[.int .i64 n] w fun e w' => (∃ r : Int, e = .returned (.int .i64 r)) ∧ Below w.heap.size w w' := by
  go_enter Tryz.func127, Tryz.ntmps127
  go_wp2
  go_loopw [5, 6] (fun s5 s6 wr => ∃ t k : Int, s5 = .int .i64 t ∧ s6 = .int .i64 k ∧ (k = 13 ∨ k = 11 ∨ k = 9 ∨ k = 7 ∨ k = 5 ∨ k = 3 ∨ k = 1) ∧ Below w.heap.size w wr) (fun _ s6 _ => (intOf s6).toNat)
  case atStart => exact ⟨_, 13, rfl, rfl, .inl rfl, Below.refl _ _⟩
  case round =>
    obtain ⟨t, k, rfl, rfl, hk, hb⟩ := hrel
    rcases hk with rfl | rfl | rfl | rfl | rfl | rfl | rfl
    all_goals go_wp2
    all_goals first
      | (go_roundw
         case rel => exact ⟨_, _, rfl, rfl, by decide, hb⟩
         case measure => simp [intOf])
      | (go_ret
         exact ⟨⟨_, rfl⟩, hb⟩)
set_option maxHeartbeats 2000000 in
theorem rough_any (n : Int) (w : World) (h0 : -5400000 ≤ n) (h1 : n ≤ 5400000) : Calls Tryz.prog 127 #[.int .i64 n] w fun e w' => (∃ r : Int, e = .returned (.int .i64 r)) ∧ Below w.heap.size w w' := by
  by_cases h : 0 ≤ n
  · exact rough_pos n w h
  · have KP := Lib.hid (fun W => rough_pos (-n) W (by omega))
    have h' : n < 0 := by omega
    clear h
    go_enter Tryz.func127, Tryz.ntmps127
    go_wp2_with fail
    (with_reducible refine (KP.out _).mono ?_)
    rintro e w1 ⟨⟨r, rfl⟩, hb1⟩
    go_wp2
    go_ret
    exact ⟨⟨_, rfl⟩, hb1⟩
set_option maxHeartbeats 2000000 in
theorem guess_any (v : Int) (w : World) : Calls Tryz.prog 100 #[.int .i64 v] w fun e w' => (∃ r : Int, e = .returned (.int .i64 r) ∧ -5400000 ≤ r ∧ r ≤ 5400000) ∧ Below w.heap.size w w' := by
  have KR := Lib.hid (fun n W h0 h1 => rough_any n W h0 h1)
  go_enter Tryz.func100, Tryz.ntmps100
  go_wp2
  go_loopw [3, 4] (fun s3 s4 wr => ∃ a b : Int, s3 = .int .i64 a ∧ s4 = .int .i64 b ∧ -5400000 ≤ a ∧ a ≤ b ∧ b ≤ 5400000 ∧ Below w.heap.size w wr) (fun s3 s4 _ => (intOf s4 - intOf s3).toNat)
  case atStart => exact ⟨_, _, rfl, rfl, by decide, by decide, by decide, Below.refl _ _⟩
  case round =>
    obtain ⟨a, b, rfl, rfl, ha, hab, hb, hbl⟩ := hrel
    have HB := Lib.hid hbl
    clear hbl
    by_cases hlt : a < b
    · obtain ⟨d, hd⟩ : ∃ d : Int, (b - a + 1).tdiv 2 = d := ⟨_, rfl⟩
      have hd1 : 0 < d ∧ d ≤ b - a := by
        rw [← hd, Int.tdiv_eq_ediv_of_nonneg (by omega)]; omega
      go_wp2_with fail
      (with_reducible refine (KR.out (a + d) _ (by omega) (by omega)).mono ?_)
      rintro e w5 ⟨⟨r, rfl⟩, hb5⟩
      have B5 := Lib.hid (HB.out.trans (hb5.mono HB.out.size))
      by_cases hv : r ≤ v
      · go_wp2
        go_roundw
        case rel => exact ⟨a + d, b, rfl, rfl, by omega, by omega, hb, B5.out⟩
        case measure => simp [intOf]; omega
      · have hv' : v < r := by omega
        go_wp2
        go_roundw
        case rel => exact ⟨a, a + d - 1, rfl, by go_num, ha, by omega, by omega, B5.out⟩
        case measure => simp [intOf]; omega
    · obtain rfl : a = b := by omega
      go_wp2
      go_ret
      exact ⟨⟨_, rfl, ha, hb⟩, HB.out⟩
set_option maxHeartbeats 4000000 in
set_option maxRecDepth 100000 in
/-- the reference's greatest angle whose sine is at most a number -/
theorem aFloor_any (v : Int) (w : World) (h0 : -1073741824 ≤ v) : Calls Tryz.prog 83 #[.int .i64 v] w fun e w' => e = .returned (.int .i64 (Trig.asnV v)) ∧ Below w.heap.size w w' := by
  have KB := Lib.hid (fun n W => rBelow_any n v W)
  have KG := Lib.hid (fun W => guess_any v W)
  have HS : Hid (Trig.hiB (-5400000) ≤ v) := Lib.hid (by rw [Trig.hiB_south]; exact h0)
  have HASN : Hid (∀ r, Trig.IsAsn v r → r = Trig.asnV v) := Lib.hid (fun r h => Trig.asn_is h)
  obtain ⟨R, hR⟩ : ∃ R, Trig.asnV v = R := ⟨_, rfl⟩
  rw [hR] at HASN ⊢
  clear hR h0
  go_enter Tryz.func83, Tryz.ntmps83
  go_wp2_with fail
  (with_reducible refine (KG.out _).mono ?_)
  rintro e w1 ⟨⟨g, rfl, hg0, hg1⟩, hb1⟩
  have B1 := Lib.hid hb1
  clear hb1 KG
  go_wp2
  go_loopw [3, 4] (fun s3 s4 wr => ∃ a p : Int, s3 = .int .i64 a ∧ s4 = .int .i64 p ∧ -5400000 ≤ a ∧ a ≤ 5400000 ∧ 1 ≤ p ∧ p ≤ 43200004 ∧ (a = -5400000 ∨ p ≤ 5400001 - a) ∧ Below w.heap.size w wr) (fun s3 _ _ => (intOf s3 + 5400000).toNat)
  case atStart => exact ⟨_, _, rfl, rfl, hg0, hg1, by decide, by decide, .inr (by omega), B1.out⟩
  case round =>
    obtain ⟨a, p, rfl, rfl, ha0, ha1, hp0, hp1, hap, hbl⟩ := hrel
    have HB := Lib.hid hbl
    clear hbl B1
    go_wp2_with fail
    (with_reducible refine (KB.out a _).mono ?_)
    rintro e w5 ⟨⟨s, rfl, hs1, hs2⟩, hb5⟩
    have B5 := Lib.hid (HB.out.trans (hb5.mono HB.out.size))
    clear hb5 HB
    by_cases hv : Trig.hiB a ≤ v
    · have hs := hs1 hv
      have HV := Lib.hid hv
      clear hs1 hs2 hv hap hp0 hp1
      go_wp2
      go_loopw [3, 5, 6] (fun s3 s5 s6 wr => ∃ a b p : Int, s3 = .int .i64 a ∧ s5 = .int .i64 b ∧ s6 = .int .i64 p ∧ -5400000 ≤ a ∧ a < b ∧ a ≤ 5400000 ∧ Trig.hiB a ≤ v ∧ (b ≤ 5400000 ∨ a = 5400000) ∧ 1 ≤ p ∧ ((p ≤ b + 5400000 ∧ b ≤ 5400001) ∨ (b = 5400000 ∧ p ≤ 21600000) ∨ (5400000 < b ∧ b ≤ 27000000 ∧ p ≤ 43200000)) ∧ Below w.heap.size w wr) (fun s3 _ _ _ => (5400000 - intOf s3).toNat)
      case atStart => exact ⟨a, a + 1, 1, rfl, by go_num, rfl, ha0, by omega, ha1, HV.out, by omega, by decide, .inl (by omega), B5.out⟩
      case round =>
        clear HV B5 ha0 ha1 hs
        obtain ⟨a, b, p, rfl, rfl, rfl, ha0, hab, ha1, hv, hbq, hp0, hp, hbl⟩ := hrel
        have HV := Lib.hid hv
        have HB := Lib.hid hbl
        clear hv hbl
        by_cases hb5 : b ≤ 5400000
        · go_wp2_with fail
          (with_reducible refine (KB.out b _).mono ?_)
          rintro e w6 ⟨⟨s, rfl, hs1, hs2⟩, hb6⟩
          have B6 := Lib.hid (HB.out.trans (hb6.mono HB.out.size))
          clear hb6 HB
          by_cases hv : Trig.hiB b ≤ v
          · have hs := hs1 hv
            have HV2 := Lib.hid hv
            clear hs1 hs2 hv HV
            by_cases hbe : b < 5400000
            · by_cases hbp : 5400000 < b + p
              · go_wp2
                go_roundw
                case rel => exact ⟨b, 5400000, 2 * p, rfl, rfl, by go_num, by omega, by omega, by omega, HV2.out, by omega, by omega, by omega, B6.out⟩
                case measure => simp [intOf]; omega
              · have hbp' : b + p ≤ 5400000 := by omega
                clear hbp
                go_wp2
                go_roundw
                case rel => exact ⟨b, b + p, 2 * p, rfl, by go_num, by go_num, by omega, by omega, by omega, HV2.out, by omega, by omega, by omega, B6.out⟩
                case measure => simp [intOf]; omega
            · obtain rfl : b = 5400000 := by omega
              clear hbe
              go_wp2
              go_roundw
              case rel => exact ⟨5400000, 5400000 + p, 2 * p, rfl, by go_num, by go_num, by omega, by omega, by omega, HV2.out, by omega, by omega, by omega, B6.out⟩
              case measure => simp [intOf]; omega
          · have hs := hs2 (by omega)
            have HV2 : Hid (v < Trig.hiB b) := Lib.hid (by omega)
            have hne : (a == 5400000) = false := by simp; omega
            clear hs1 hs2 hv hp hp0 hbq
            go_wp2
            go_loopw [3, 5] (fun s3 s5 wr => ∃ a b : Int, s3 = .int .i64 a ∧ s5 = .int .i64 b ∧ -5400000 ≤ a ∧ a < b ∧ b ≤ 5400000 ∧ Trig.hiB a ≤ v ∧ v < Trig.hiB b ∧ Below w.heap.size w wr) (fun s3 s5 _ => (intOf s5 - intOf s3).toNat)
            case atStart => exact ⟨a, b, rfl, rfl, ha0, hab, hb5, HV.out, HV2.out, B6.out⟩
            case round =>
              clear HV HV2 B6 ha0 hab hb5 hne hs ha1
              obtain ⟨a, b, rfl, rfl, ha0, hab, hb5, hv1, hv2, hbl⟩ := hrel
              have H1 := Lib.hid hv1
              have H2 := Lib.hid hv2
              have HB := Lib.hid hbl
              clear hv1 hv2 hbl
              by_cases hlt : a + 1 < b
              · obtain ⟨d, hd⟩ : ∃ d : Int, (b - a).tdiv 2 = d := ⟨_, rfl⟩
                have hd1 : 0 < d ∧ d < b - a := by
                  rw [← hd, Int.tdiv_eq_ediv_of_nonneg (by omega)]; omega
                go_wp2_with fail
                (with_reducible refine (KB.out (a + d) _).mono ?_)
                rintro e w7 ⟨⟨s, rfl, hs1, hs2⟩, hb7⟩
                have B7 := Lib.hid (HB.out.trans (hb7.mono HB.out.size))
                clear hb7 HB
                by_cases hv : Trig.hiB (a + d) ≤ v
                · have hs := hs1 hv
                  have HV := Lib.hid hv
                  clear hs1 hs2 hv
                  go_wp2
                  go_roundw
                  case rel => exact ⟨a + d, b, rfl, rfl, by omega, by omega, hb5, HV.out, H2.out, B7.out⟩
                  case measure => simp [intOf]; omega
                · have hs := hs2 (by omega)
                  have HV : Hid (v < Trig.hiB (a + d)) := Lib.hid (by omega)
                  clear hs1 hs2 hv
                  go_wp2
                  go_roundw
                  case rel => exact ⟨a, a + d, rfl, rfl, ha0, by omega, by omega, H1.out, HV.out, B7.out⟩
                  case measure => simp [intOf]; omega
              · obtain rfl : b = a + 1 := by omega
                have HRR := Lib.hid (HASN.out a ⟨ha0, by omega, H1.out, fun _ => H2.out⟩)
                clear hlt
                go_wp2
                go_ret
                exact ⟨ret_int HRR.out, HB.out⟩
        · obtain rfl : a = 5400000 := by omega
          have HRR := Lib.hid (HASN.out 5400000 ⟨by decide, by decide, HV.out, fun h => absurd h (by decide)⟩)
          have hb5' : 5400000 < b := by omega
          clear hb5 hbq hp
          go_wp2
          go_ret
          exact ⟨ret_int HRR.out, HB.out⟩
    · have hs := hs2 (by omega)
      have hne : a ≠ -5400000 := fun h => by subst h; exact hv HS.out
      have hap' : p ≤ 5400001 - a := by omega
      clear hs1 hs2 hv hap
      by_cases hc : a - p < -5400000
      · go_wp2
        go_roundw
        case rel => exact ⟨-5400000, 2 * p, rfl, by go_num, by decide, by decide, by omega, by omega, .inl rfl, B5.out⟩
        case measure => simp [intOf]; omega
      · have hc' : -5400000 ≤ a - p := by omega
        clear hc
        go_wp2
        go_roundw
        case rel => exact ⟨a - p, 2 * p, by go_num, by go_num, by omega, by omega, by omega, by omega, .inr (by omega), B5.out⟩
        case measure => simp [intOf]; omega
end Go.Proofs.YtienkfcliocjgaaGreat
/- The walks of the reference's Asin, where the sine has an arcsine. -/
namespace Go.Proofs.YtienkfcliocjgaaGreat
open Go.RowKit
set_option maxHeartbeats 1000000 in
theorem aCeil_any (v : Int) (w : World) (h0 : -1073741824 ≤ v) (h1 : v ≤ 1073741824) : Calls Tryz.prog 84 #[.int .i64 v] w fun e w' => e = .returned (.int .i64 (-Trig.asnV (-v))) ∧ Below w.heap.size w w' := by
  have KF := Lib.hid (fun W => aFloor_any (-v) W (by omega))
  have hb := Trig.asn_bd (-v)
  generalize Trig.asnV (-v) = r at *
  go_enter Tryz.func84, Tryz.ntmps84
  go_wp2_with fail
  (with_reducible refine (KF.out _).mono ?_)
  rintro e w1 ⟨rfl, hb1⟩
  go_wp2
  go_ret
  exact ⟨ret_int (by omega), hb1⟩
set_option maxHeartbeats 1000000 in
theorem aValid_yes (lo hi : Int) (w : World) (h0 : -2147483648 ≤ lo) (h1 : lo ≤ hi) (h2 : hi ≤ 2147483648) : Calls Tryz.prog 82 #[.agg #[.int .i64 lo, .int .i64 hi]] w fun e w' => e = .returned (.bool true) ∧ Below w.heap.size w w' := by
  go_enter Tryz.func82, Tryz.ntmps82
  go_wp2
  go_ret
  exact ⟨congrArg (fun b => Ending.returned (.bool b)) (by simp), bl_alloc _ _⟩
set_option maxHeartbeats 1000000 in
set_option maxRecDepth 100000 in
/-- the reference's Asin of a valid interval that meets the sines -/
theorem rAsin_yes (lo hi : Int) (w : World) (h0 : -2147483648 ≤ lo) (h1 : lo ≤ hi) (h2 : hi ≤ 2147483648) (h3 : lo ≤ 1073741824) (h4 : -1073741824 ≤ hi) :
    Calls Tryz.prog 59 #[.agg #[.int .i64 lo, .int .i64 hi]] w fun e w' => e = .returned (.tuple #[.agg #[.int .i64 (Trig.asnV (max lo (-1073741824))), .int .i64 (-Trig.asnV (-(min hi 1073741824)))], .int .i64 0]) ∧ Below w.heap.size w w' := by
  have KV := Lib.hid (fun W => aValid_yes lo hi W h0 h1 h2)
  obtain ⟨p, hp⟩ : ∃ p, max lo (-1073741824) = p := ⟨_, rfl⟩
  obtain ⟨q, hq⟩ : ∃ q, min hi 1073741824 = q := ⟨_, rfl⟩
  rw [hp, hq]
  have K1 := Lib.hid (fun W => aFloor_any p W (by omega))
  have K2 := Lib.hid (fun W => aCeil_any q W (by omega) (by omega))
  generalize Trig.asnV p = r1 at *
  generalize -Trig.asnV (-q) = r2 at *
  have T1 := Lib.hid ((D2.new w lo hi 86).alloc (.cells #[.int .i64 0, .int .i64 0] 27))
  have T2 : Hid (D2 ((w.alloc (.cells #[.int .i64 lo, .int .i64 hi] 86)).alloc (.cells #[.int .i64 0, .int .i64 0] 27)) (w.heap.size + 1) 0 0) := Lib.hid (by
    have := D2.new (w.alloc (.cells #[.int .i64 lo, .int .i64 hi] 86)) 0 0 27
    rwa [World.size_alloc] at this)
  have B0 := Lib.hid ((bl_alloc w (.cells #[.int .i64 lo, .int .i64 hi] 86)).alloc (by simp) (.cells #[.int .i64 0, .int .i64 0] 27))
  have hlo : (lo < -1073741824 ∧ p = -1073741824) ∨ (-1073741824 ≤ lo ∧ p = lo) := by omega
  have hhi : (1073741824 < hi ∧ q = 1073741824) ∨ (hi ≤ 1073741824 ∧ q = hi) := by omega
  have hpq : p ≤ q := by omega
  clear hp hq h0 h1 h2 h3 h4
  rcases hlo with ⟨c1, rfl⟩ | ⟨c1, rfl⟩ <;> rcases hhi with ⟨c2, rfl⟩ | ⟨c2, rfl⟩
  all_goals
    go_enter Tryz.func59, Tryz.ntmps59
    go_wp2_with fail
    (with_reducible refine (KV.out _).mono ?_)
    rintro e w1 ⟨rfl, hb1⟩
    have T1 := Lib.hid (T1.out.below hb1 T1.out.lt)
    have T2 := Lib.hid (T2.out.below hb1 T2.out.lt)
    have B0 := Lib.hid (B0.out.trans (hb1.mono B0.out.size))
    clear hb1 KV
    obtain ⟨at1, a0, a1, af0, af1⟩ := T1.out
    go_wp2_with fail
    (with_reducible refine (K1.out _).mono ?_)
    rintro e w2 ⟨rfl, hb2⟩
    have T2 := Lib.hid (T2.out.below hb2 T2.out.lt)
    have B0 := Lib.hid (B0.out.trans (hb2.mono B0.out.size))
    clear hb2 K1 at1 a0 a1 af0 af1
    go_wp2_with fail
    (with_reducible refine (K2.out _).mono ?_)
    rintro e w3 ⟨rfl, hb3⟩
    have B0 := Lib.hid (B0.out.trans (hb3.mono B0.out.size))
    obtain ⟨bt, b0, b1, bf0, bf1⟩ := T2.out.below hb3 T2.out.lt
    go_wp2
    refine bodyPost_ret (v := .tuple #[.agg #[.int .i64 r1, .int .i64 r2], .int .i64 0]) (by simp [results, Tryz.results59, go_sem, *]; done) rfl ⟨rfl, ?_⟩
    exact (B0.out.setCell (by simp) _).setCell (by simp) _
end Go.Proofs.YtienkfcliocjgaaGreat
namespace Go.Proofs.YtienkfcliocjgaaGreat
open Go.RowKit
theorem clat_yes (lo hi : Int) (w : World) (h0 : -5400000 ≤ lo) (h1 : lo ≤ hi) (h2 : hi ≤ 5400000) : Calls Tryz.prog 53 #[.agg #[.int .i64 lo, .int .i64 hi]] w fun e w' => e = .returned (.bool true) ∧ Below w.heap.size w w' := by
  have KV := Lib.hid (fun W => aValid_any lo hi W)
  rw [avB_true.2 (by omega : -1099511627776 ≤ lo ∧ lo ≤ hi ∧ hi ≤ 1099511627776)] at KV
  have T1 := Lib.hid (D2.new w lo hi 27)
  have B0 := Lib.hid (bl_alloc w (.cells #[.int .i64 lo, .int .i64 hi] 27))
  have d1 : -5400000 ≤ lo := h0
  have d2 : hi ≤ 5400000 := h2
  go_enter Tryz.func53, Tryz.ntmps53
  go_wp2_with fail
  (with_reducible refine (KV.out _).mono ?_)
  rintro e w1 ⟨rfl, hb1⟩
  have B1 := Lib.hid (B0.out.trans (hb1.mono B0.out.size))
  obtain ⟨at1, a0, a1, af0, af1⟩ := T1.out.below hb1 T1.out.lt
  clear hb1
  go_wp2
  go_ret
  exact ⟨ret_bool (by simp), B1.out⟩
set_option maxHeartbeats 1000000 in
theorem cValid_yes (a b c : Int × Int) (w : World) (ha : -5400000 ≤ a.1 ∧ a.1 ≤ a.2 ∧ a.2 ≤ 5400000) (hb : -5400000 ≤ b.1 ∧ b.1 ≤ b.2 ∧ b.2 ≤ 5400000) (hc : avB c.1 c.2 = true) :
    Calls Tryz.prog 32 #[.agg #[.int .i64 a.1, .int .i64 a.2, .int .i64 b.1, .int .i64 b.2, .int .i64 c.1, .int .i64 c.2]] w fun e w' => e = .returned (.bool true) ∧ Below w.heap.size w w' := by
  have K1 := Lib.hid (fun W => clat_yes a.1 a.2 W ha.1 ha.2.1 ha.2.2)
  have K2 := Lib.hid (fun W => clat_yes b.1 b.2 W hb.1 hb.2.1 hb.2.2)
  have K3 := Lib.hid (fun W => aValid_any c.1 c.2 W)
  rw [hc] at K3
  obtain ⟨a0, a1⟩ := a
  obtain ⟨b0, b1⟩ := b
  obtain ⟨c0, c1⟩ := c
  simp only [] at K1 K2 K3 ⊢
  clear ha hb hc
  have T1 := Lib.hid (C6.new w a0 a1 b0 b1 c0 c1 52)
  have B0 := Lib.hid (bl_alloc w (.cells #[.int .i64 a0, .int .i64 a1, .int .i64 b0, .int .i64 b1, .int .i64 c0, .int .i64 c1] 52))
  go_enter Tryz.func32, Tryz.ntmps32
  go_wp2_with fail
  (with_reducible refine (K1.out _).mono ?_)
  rintro e w1 ⟨rfl, hb1⟩
  have B1 := Lib.hid (B0.out.trans (hb1.mono B0.out.size))
  have T2 := Lib.hid (T1.out.below hb1 T1.out.lt)
  clear hb1 T1 B0
  obtain ⟨tl, x0, x1, x2, x3, x4, x5⟩ := T2.out
  go_wp2_with fail
  (with_reducible refine (K2.out _).mono ?_)
  rintro e w2 ⟨rfl, hb2⟩
  have B2 := Lib.hid (B1.out.trans (hb2.mono B1.out.size))
  clear tl x0 x1 x2 x3 x4 x5
  obtain ⟨tl, x0, x1, x2, x3, x4, x5⟩ := T2.out.below hb2 T2.out.lt
  clear hb2
  go_wp2_with fail
  (with_reducible refine (K3.out _).mono ?_)
  rintro e w3 ⟨rfl, hb3⟩
  have B3 := Lib.hid (B2.out.trans (hb3.mono B2.out.size))
  clear hb3
  go_wp2
  go_ret
  exact ⟨rfl, B3.out⟩
set_option maxHeartbeats 1000000 in
set_option maxRecDepth 100000 in
theorem Altitude_yes (a b c : Int × Int) (w : World) (ha : -5400000 ≤ a.1 ∧ a.1 ≤ a.2 ∧ a.2 ≤ 5400000) (hb : -5400000 ≤ b.1 ∧ b.1 ≤ b.2 ∧ b.2 ≤ 5400000) (hc : avB c.1 c.2 = true) (h3 : (Trig.sinT a b c).1 ≤ 1073741824) (h4 : -1073741824 ≤ (Trig.sinT a b c).2) :
    Calls Tryz.prog 17 #[.agg #[.int .i64 a.1, .int .i64 a.2, .int .i64 b.1, .int .i64 b.2, .int .i64 c.1, .int .i64 c.2]] w fun e w' => e = .returned (.tuple #[.agg #[.int .i64 (Trig.asnV (max (Trig.sinT a b c).1 (-1073741824))), .int .i64 (-Trig.asnV (-(min (Trig.sinT a b c).2 1073741824)))], .int .i64 0]) ∧ Below w.heap.size w w' := by
  have KV := Lib.hid (fun W => cValid_yes a b c W ha hb hc)
  have KA := Lib.hid (fun W => altitude_yes a b c W (avB_true.2 (by omega)) (avB_true.2 (by omega)) hc h3 h4)
  generalize Trig.asnV (max (Trig.sinT a b c).1 (-1073741824)) = r0 at *
  generalize -Trig.asnV (-(min (Trig.sinT a b c).2 1073741824)) = r1 at *
  obtain ⟨a0, a1⟩ := a
  obtain ⟨b0, b1⟩ := b
  obtain ⟨c0, c1⟩ := c
  simp only [] at KV KA ⊢
  clear ha hb hc h3 h4
  have T1 := Lib.hid ((C6.new w a0 a1 b0 b1 c0 c1 52).below (bl_alloc _ (.cells #[.int .i64 0, .int .i64 0] 27)) (by simp))
  have TR : Hid (D2 ((w.alloc (.cells #[.int .i64 a0, .int .i64 a1, .int .i64 b0, .int .i64 b1, .int .i64 c0, .int .i64 c1] 52)).alloc (.cells #[.int .i64 0, .int .i64 0] 27)) (w.heap.size + 1) 0 0) := Lib.hid (by
    have := D2.new (w.alloc (.cells #[.int .i64 a0, .int .i64 a1, .int .i64 b0, .int .i64 b1, .int .i64 c0, .int .i64 c1] 52)) 0 0 27
    rwa [World.size_alloc] at this)
  have B0 := Lib.hid ((bl_alloc w (.cells #[.int .i64 a0, .int .i64 a1, .int .i64 b0, .int .i64 b1, .int .i64 c0, .int .i64 c1] 52)).alloc (by simp) (.cells #[.int .i64 0, .int .i64 0] 27))
  go_enter Tryz.func17, Tryz.ntmps17
  go_wp2_with fail
  (with_reducible refine (KV.out _).mono ?_)
  rintro e w1 ⟨rfl, hb1⟩
  have B1 := Lib.hid (B0.out.trans (hb1.mono B0.out.size))
  have T2 := Lib.hid (T1.out.below hb1 T1.out.lt)
  have R2 := Lib.hid (TR.out.below hb1 TR.out.lt)
  clear hb1 T1 B0 TR
  obtain ⟨tl, x0, x1, x2, x3, x4, x5⟩ := T2.out
  go_wp2_with fail
  (with_reducible refine (KA.out _).mono ?_)
  rintro e w2 ⟨rfl, hb2⟩
  have B2 := Lib.hid (B1.out.trans (hb2.mono B1.out.size))
  clear tl x0 x1 x2 x3 x4 x5
  obtain ⟨rt, ra, rb, rf0, rf1⟩ := R2.out.below hb2 R2.out.lt
  clear hb2
  go_wp2
  refine bodyPost_ret (v := .tuple #[.agg #[.int .i64 r0, .int .i64 r1], .int .i64 0]) (by simp [results, Tryz.results17, go_sem, *]; done) rfl ⟨rfl, ?_⟩
  exact (B2.out.setCell (by simp only []; omega) _).setCell (by simp only []; omega) _
set_option maxHeartbeats 1000000 in
set_option maxRecDepth 100000 in
theorem rAltitude_yes (a b c : Int × Int) (w : World) (ha : -10800000 ≤ a.1 ∧ a.1 ≤ 10800000 ∧ -10800000 ≤ a.2 ∧ a.2 ≤ 10800000) (hb : -10800000 ≤ b.1 ∧ b.1 ≤ 10800000 ∧ -10800000 ≤ b.2 ∧ b.2 ≤ 10800000) (hc : -1000000000000 ≤ c.1 ∧ c.1 ≤ 1000000000000 ∧ -1000000000000 ≤ c.2 ∧ c.2 ≤ 1000000000000) (h3 : (Trig.sinT a b c).1 ≤ 1073741824) (h4 : -1073741824 ≤ (Trig.sinT a b c).2) :
    Calls Tryz.prog 40 #[.agg #[.int .i64 a.1, .int .i64 a.2, .int .i64 b.1, .int .i64 b.2, .int .i64 c.1, .int .i64 c.2]] w fun e w' => e = .returned (.agg #[.int .i64 (Trig.asnV (max (Trig.sinT a b c).1 (-1073741824))), .int .i64 (-Trig.asnV (-(min (Trig.sinT a b c).2 1073741824)))]) ∧ Below w.heap.size w w' := by
  have hf := Trig.sinT_fv a b c
  have KS := fun W => Sine25_any a b c W ha hb hc
  have KA := fun W => rAsin_yes (Trig.sinT a b c).1 (Trig.sinT a b c).2 W hf.1 hf.2.1 hf.2.2 h3 h4
  generalize Trig.asnV (max (Trig.sinT a b c).1 (-1073741824)) = r0 at *
  generalize -Trig.asnV (-(min (Trig.sinT a b c).2 1073741824)) = r1 at *
  generalize (Trig.sinT a b c).1 = s0 at *
  generalize (Trig.sinT a b c).2 = s1 at *
  obtain ⟨a0, a1⟩ := a
  obtain ⟨b0, b1⟩ := b
  obtain ⟨c0, c1⟩ := c
  simp only [] at KS KA ⊢
  clear ha hb hc h3 h4 hf
  have KS := Lib.hid KS
  have KA := Lib.hid KA
  have TR : Hid (D2 ((w.alloc (.cells #[.int .i64 a0, .int .i64 a1, .int .i64 b0, .int .i64 b1, .int .i64 c0, .int .i64 c1] 52)).alloc (.cells #[.int .i64 0, .int .i64 0] 27)) (w.heap.size + 1) 0 0) := Lib.hid (by
    have := D2.new (w.alloc (.cells #[.int .i64 a0, .int .i64 a1, .int .i64 b0, .int .i64 b1, .int .i64 c0, .int .i64 c1] 52)) 0 0 27
    rwa [World.size_alloc] at this)
  have B0 := Lib.hid ((bl_alloc w (.cells #[.int .i64 a0, .int .i64 a1, .int .i64 b0, .int .i64 b1, .int .i64 c0, .int .i64 c1] 52)).alloc (by simp) (.cells #[.int .i64 0, .int .i64 0] 27))
  go_enter Tryz.func40, Tryz.ntmps40
  go_wp2_with fail
  (with_reducible refine (KS.out _).mono ?_)
  rintro e w1 ⟨rfl, hb1⟩
  have B1 := Lib.hid (B0.out.trans (hb1.mono B0.out.size))
  have R2 := Lib.hid (TR.out.below hb1 TR.out.lt)
  clear hb1 B0 TR
  go_wp2_with fail
  (with_reducible refine (KA.out _).mono ?_)
  rintro e w2 ⟨rfl, hb2⟩
  have B2 := Lib.hid (B1.out.trans (hb2.mono B1.out.size))
  obtain ⟨rt, ra, rb, rf0, rf1⟩ := R2.out.below hb2 R2.out.lt
  have hs := B2.out.size
  clear hb2
  go_wp2
  refine bodyPost_ret (v := .agg #[.int .i64 r0, .int .i64 r1]) (by simp [results, Tryz.results40, go_sem, *]; done) rfl ⟨rfl, ?_⟩
  have B3 := B2.out
  repeat (first | exact Below.refl _ _ | assumption | refine bl_drew ?_ | refine bl_drewN ?_ _ | refine Below.setCell ?_ (by first | assumption | omega | (simp; done) | (simp; omega)) _ | refine Below.alloc ?_ (by first | assumption | omega | (simp; done) | (simp; omega)) _)
end Go.Proofs.YtienkfcliocjgaaGreat
