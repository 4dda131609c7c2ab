/- The walks of fixed.Add, Mul. -/
import Derived.BigRegion
import Derived.Test.YtbpnacacnncopaaGreatDoorHYn
import Derived.Test.YtbpnacacnncopaaGreatDoorHVa
set_option linter.unusedVariables false
set_option linter.unusedSimpArgs false
namespace Go.Proofs.YtbpnacacnncopaaGreatDoor
open Go.RowKit
/-- what valid tables are -/
structure TabOk (T : List Ent) : Prop where
  ent : ∀ (i : Nat) (x : Ent), T[i]? = some x → entB x = true
  nx : ∀ (i : Nat) (x y : Ent), T[i]? = some x → T[i + 1]? = some y → nxB x y = true
theorem tabR_ok : ∀ (r : List Ent) (p : Ent), tabR p r = true → (∀ (i : Nat) (x : Ent), r[i]? = some x → entB x = true) ∧ (∀ (i : Nat) (x y : Ent), (p :: r)[i]? = some x → (p :: r)[i + 1]? = some y → nxB x y = true)
  | [], p, _ => ⟨fun i x h => by simp at h, fun i x y h1 h2 => by simp at h2⟩
  | q :: r, p, h => by
    unfold tabR at h
    rw [Bool.and_eq_true, Bool.and_eq_true] at h
    obtain ⟨a, b⟩ := tabR_ok r q h.2.2
    refine ⟨fun i x hx => ?_, fun i x y h1 h2 => ?_⟩
    · cases i with
      | zero => simp at hx; subst hx; exact h.1
      | succ i => exact a i x (by simpa using hx)
    · cases i with
      | zero => simp at h1 h2; subst h1 h2; exact h.2.1
      | succ i => exact b i x y (by simpa using h1) (by simpa using h2)
theorem tab_ok {T : List Ent} (h : tabB T = true) : TabOk T := by
  cases T with
  | nil => exact ⟨fun i x h => by simp at h, fun i x y h => by simp at h⟩
  | cons p r =>
    unfold tabB at h
    rw [Bool.and_eq_true] at h
    obtain ⟨a, b⟩ := tabR_ok r p h.2
    refine ⟨fun i x hx => ?_, b⟩
    cases i with
    | zero => simp at hx; subst hx; exact h.1
    | succ i => exact a i x (by simpa using hx)
theorem nx_lt {x y : Ent} (h : nxB x y = true) : x.1 < y.1 := by
  unfold nxB at h
  rw [Bool.and_eq_true, decide_eq_true_eq] at h
  exact h.1
theorem TabOk.sorted {T : List Ent} (h : TabOk T) : ∀ (j i : Nat) (x y : Ent), i < j → T[i]? = some x → T[j]? = some y → x.1 < y.1
  | 0, i, x, y, hl, _, _ => by omega
  | j + 1, i, x, y, hl, hx, hy => by
    have hj : j < T.length := by have := (List.getElem?_eq_some_iff.1 hy).1; omega
    have h1 := nx_lt (h.nx j T[j] y (List.getElem?_eq_getElem hj) hy)
    by_cases e : i = j
    · subst e
      rw [List.getElem?_eq_getElem hj] at hx
      injection hx with hx
      subst hx
      exact h1
    · have h2 := h.sorted j i x T[j] (by omega) hx (List.getElem?_eq_getElem hj)
      omega
/-- how many entries lie below a reading -/
def posT (T : List Ent) (hs : Int) : Nat := (T.takeWhile fun x => decide (x.1 < hs)).length
theorem posT_one : ∀ (T : List Ent) (hs : Int) (i : Nat), i ≤ T.length → (∀ (k : Nat) (x : Ent), k < i → T[k]? = some x → x.1 < hs) → (∀ x, T[i]? = some x → hs ≤ x.1) → posT T hs = i
  | [], hs, i, h, _, _ => by simp at h; subst h; rfl
  | x :: T, hs, 0, _, _, h2 => by
    have := h2 x rfl
    unfold posT
    rw [List.takeWhile_cons, if_neg (by simpa using this)]
    rfl
  | x :: T, hs, i + 1, h, h1, h2 => by
    have hx := h1 0 x (by omega) rfl
    have ih := posT_one T hs i (by simpa using h) (fun k y hk hy => h1 (k + 1) y (by omega) (by simpa using hy)) (fun y hy => h2 y (by simpa using hy))
    unfold posT at ih ⊢
    rw [List.takeWhile_cons, if_pos (by simpa using hx)]
    simp [ih]
def itA (p x : Ent) (hs : Int) : Int := (p.2 * (x.1 - p.1) + (x.2 - p.2) * (hs - p.1)) / (x.1 - p.1)
def itB (p x : Ent) (hs : Int) : Int := -(-(p.2 * (x.1 - p.1) + (x.2 - p.2) * (hs - p.1)) / (x.1 - p.1))
/-- the error of the arc at a reading, where i entries lie below it -/
def arcI (T : List Ent) (i : Nat) (hs : Int) : Int × Int :=
  if T = [] then (0, 0) else match T[i]? with
  | none => ((T.getD (i - 1) (0, 0)).2, (T.getD (i - 1) (0, 0)).2)
  | some x => if x.1 = hs ∨ i = 0 then (x.2, x.2) else (itA (T.getD (i - 1) (0, 0)) x hs, itB (T.getD (i - 1) (0, 0)) x hs)
def arcA (T : List Ent) (hs : Int) : Int × Int := arcI T (posT T hs) hs
theorem arc1_any (a v hs : Int) (w : World) (a0 : 0 ≤ a) (a1 : a ≤ 7800000) (h0 : -60000 ≤ hs) (h1 : hs ≤ 7800000) : Calls Tryz.prog 136 #[.agg #[.int .i64 a, .int .i64 v], .int .i64 hs] w fun e w' => e = .returned (.int .i64 (a - hs)) ∧ Below w.heap.size w w' := by
  have m1 : wrap64 (a - hs) = a - hs := IntWalk.wrap64_in _ (by omega)
  have b0 := Lib.hid (bl_alloc w (.cells #[.int .i64 a, .int .i64 v] 135))
  go_enter Tryz.func136, Tryz.ntmps136
  go_wp2
  go_ret
  exact ⟨rfl, b0.out⟩
set_option maxHeartbeats 4000000 in
set_option maxRecDepth 100000 in
theorem search_any (T : List Ent) (A : Option Addr) (n c : Nat) (hs : Int) (w : World) (hT : TabAt w w.heap.size A T) (hn : T.length = n) (hn1 : n ≤ 1000) (hk : TabOk T) (h0 : -60000 ≤ hs) (h1 : hs ≤ 7800000) :
    Calls Tryz.prog 135 #[.slice A n c, .int .i64 hs, .func (.func 136) #[] #[]] w fun e w' => (∃ i : Nat, i ≤ n ∧ (∀ (k : Nat) (x : Ent), k < i → T[k]? = some x → x.1 < hs) ∧ (∀ x : Ent, T[i]? = some x → hs ≤ x.1) ∧ ∃ f : Bool, e = .returned (.tuple #[.int .i64 (i : Int), .bool f]) ∧ (f = true ↔ ∃ x, T[i]? = some x ∧ x.1 = hs)) ∧ Below w.heap.size w w' := by
  have H0 := Lib.hid hT
  have HK := Lib.hid hk
  have HN := Lib.hid hn
  have KC := Lib.hid (fun (k : Nat) (x : Ent) (W : World) (h : T[k]? = some x) => arc1_any x.1 x.2 hs W (ent_iff.1 (hk.ent k x h)).1 (ent_iff.1 (hk.ent k x h)).2.1 h0 h1)
  have hb := fun (k : Nat) (x : Ent) (h : T[k]? = some x) => ent_iff.1 (hk.ent k x h)
  have HB := Lib.hid hb
  clear hT hk hn hb
  go_enter Tryz.func135, Tryz.ntmps135
  go_wp2_with fail
  go_loopg [9, 10] n (fun gz s9 s10 wr => ∃ i j : Nat, i ≤ j ∧ j ≤ n ∧ j - i ≤ gz ∧ s9 = .int .i64 (i : Int) ∧ s10 = .int .i64 (j : Int) ∧ (∀ (k : Nat) (x : Ent), k < i → T[k]? = some x → x.1 < hs) ∧ (∀ (k : Nat) (x : Ent), j ≤ k → T[k]? = some x → hs ≤ x.1) ∧ Below w.heap.size w wr)
  case atStart => exact ⟨0, n, by omega, by omega, by omega, rfl, rfl, fun k x hk => by omega, fun k x hk hx => by have := (List.getElem?_eq_some_iff.1 hx).1; have := HN.out; omega, Below.refl _ _⟩
  case round =>
    obtain ⟨i, j, hij, hj, hg, rfl, rfl, hlo, hhi, hB⟩ := hrel
    have BB := Lib.hid hB
    have LO := Lib.hid hlo
    have HI := Lib.hid hhi
    have TT := Lib.hid (H0.out.bl hB)
    clear hB hlo hhi
    by_cases hlt : i < j
    · have dl : decide ((i : Int) < (j : Int)) = true := decide_eq_true (by omega)
      have dl2 : decide (i < j) = true := decide_eq_true hlt
      obtain ⟨m, hm⟩ : ∃ m, (i + j) / 2 = m := ⟨_, rfl⟩
      have hmi : i ≤ m := by omega
      have hmj : m < j := by omega
      obtain ⟨x, hx⟩ : ∃ x, T[m]? = some x := ⟨_, List.getElem?_eq_getElem (by rw [HN.out]; omega)⟩
      have hne : T ≠ [] := fun e => by rw [e] at hx; cases hx
      rcases TT.out with he | ⟨b, off, rfl, hb, hc⟩
      · exact absurd he hne
      have y0 : wr.cell? ⟨b, off + m * 2, none⟩ = some (.int .i64 x.1) := (hc m x hx).1
      have y1 : wr.cell? ⟨b, off + m * 2 + 1, none⟩ = some (.int .i64 x.2) := (hc m x hx).2
      have K := Lib.hid (fun W => KC.out m x W hx)
      have hxb := HB.out m x hx
      have HX := Lib.hid hx
      clear hx hc TT hne
      obtain ⟨a, v⟩ := x
      simp only [] at y0 y1 hxb K
      have e1 : ((i : Int) + (j : Int)) / 2 = (m : Int) := by omega
      have HM := Lib.hid hm
      have m1 : wrap64 (a - hs) = a - hs := IntWalk.wrap64_in _ (by omega)
      clear hm
      go_wp2_with fail
      (with_reducible refine (K.out _).mono ?_)
      rintro e w1 ⟨rfl, hb1⟩
      have B1 := Lib.hid (BB.out.trans (hb1.mono BB.out.size))
      clear hb1 BB K y0 y1
      by_cases hc : a - hs < 0
      · have d0 : decide (a - hs < 0) = true := decide_eq_true hc
        have hlo : ∀ (k : Nat) (x : Ent), k < m + 1 → T[k]? = some x → x.1 < hs := fun k x hk hx => by
          by_cases e : k = m
          · subst e
            obtain rfl : x = (a, v) := Option.some.inj (hx.symm.trans HX.out)
            show a < hs
            omega
          · have := HK.out.sorted m k x (a, v) (by omega) hx HX.out
            simp only [] at this
            omega
        have LO2 := Lib.hid hlo
        clear hlo LO hc
        go_wp2
        go_roundg (j - (m + 1))
        case measure => omega
        case rel => exact ⟨m + 1, j, by omega, hj, by omega, by go_num, rfl, LO2.out, HI.out, B1.out⟩
      · have d0 : decide (a - hs < 0) = false := decide_eq_false hc
        have hhi : ∀ (k : Nat) (x : Ent), m ≤ k → T[k]? = some x → hs ≤ x.1 := fun k x hk hx => by
          by_cases e : k = m
          · subst e
            obtain rfl : x = (a, v) := Option.some.inj (hx.symm.trans HX.out)
            show hs ≤ a
            omega
          · have := HK.out.sorted k m (a, v) x (by omega) HX.out hx
            simp only [] at this
            omega
        have HI2 := Lib.hid hhi
        clear hhi HI hc
        go_wp2
        go_roundg (m - i)
        case measure => omega
        case rel => exact ⟨i, m, hmi, by omega, by omega, rfl, rfl, LO.out, HI2.out, B1.out⟩
    · obtain rfl : i = j := by omega
      have dl : decide ((i : Int) < (i : Int)) = false := decide_eq_false (by omega)
      by_cases hin : i < n
      · have d8 : decide ((i : Int) < (n : Int)) = true := decide_eq_true (by omega)
        have d9 : decide (i < n) = true := decide_eq_true hin
        obtain ⟨x, hx⟩ : ∃ x, T[i]? = some x := ⟨_, List.getElem?_eq_getElem (by rw [HN.out]; omega)⟩
        have hne : T ≠ [] := fun e => by rw [e] at hx; cases hx
        rcases TT.out with he | ⟨b, off, rfl, hb, hc⟩
        · exact absurd he hne
        have y0 : wr.cell? ⟨b, off + i * 2, none⟩ = some (.int .i64 x.1) := (hc i x hx).1
        have y1 : wr.cell? ⟨b, off + i * 2 + 1, none⟩ = some (.int .i64 x.2) := (hc i x hx).2
        have K := Lib.hid (fun W => KC.out i x W hx)
        have hxb := HB.out i x hx
        have HX := Lib.hid hx
        clear hx hc TT hne
        obtain ⟨a, v⟩ := x
        simp only [] at y0 y1 hxb K
        have m1 : wrap64 (a - hs) = a - hs := IntWalk.wrap64_in _ (by omega)
        have hiff : (∃ x : Ent, T[i]? = some x ∧ x.1 = hs) ↔ a = hs := ⟨fun ⟨x, h1, h2⟩ => by
          obtain rfl : x = (a, v) := Option.some.inj (h1.symm.trans HX.out)
          exact h2, fun h => ⟨(a, v), HX.out, h⟩⟩
        have hle := HI.out i (a, v) (Nat.le_refl _) HX.out
        have HF := Lib.hid hiff
        have hxx := Lib.hid (fun (x : Ent) (h : T[i]? = some x) => HI.out i x (Nat.le_refl _) h)
        clear hiff
        go_wp2_with fail
        (with_reducible refine (K.out _).mono ?_)
        rintro e w1 ⟨rfl, hb1⟩
        have B1 := Lib.hid (BB.out.trans (hb1.mono BB.out.size))
        clear hb1 BB K y0 y1
        by_cases hc : a - hs = 0
        · have dd : ((a - hs : Int) == 0) = true := by rw [hc]; rfl
          have HCC := Lib.hid hc
          clear hc hle
          go_wp2
          go_ret2
          exact ⟨⟨i, hj, LO.out, hxx.out, true, rfl, iff_of_true rfl (HF.out.2 (by have := HCC.out; omega))⟩, B1.out⟩
        · have dd : ((a - hs : Int) == 0) = false := by simpa using hc
          have HCC := Lib.hid hc
          clear hc hle
          go_wp2
          go_ret2
          exact ⟨⟨i, hj, LO.out, hxx.out, false, rfl, iff_of_false (by simp) (fun h => HCC.out (by have := HF.out.1 h; omega))⟩, B1.out⟩
      · obtain rfl : i = n := by omega
        have d8 : decide ((i : Int) < (i : Int)) = false := decide_eq_false (by omega)
        have hno := Lib.hid (show ¬ ∃ x : Ent, T[i]? = some x ∧ x.1 = hs from fun ⟨x, h1, _⟩ => by have := (List.getElem?_eq_some_iff.1 h1).1; have := HN.out; omega)
        have hxx := Lib.hid (fun (x : Ent) (h : T[i]? = some x) => HI.out i x (Nat.le_refl _) h)
        go_wp2
        go_ret2
        exact ⟨⟨i, hj, LO.out, hxx.out, false, rfl, iff_of_false (by simp) hno.out⟩, BB.out⟩
set_option maxHeartbeats 1000000 in
theorem ifloor_any (a b : Int) (w : World) (a0 : -1152921504606846976 ≤ a) (a1 : a ≤ 1152921504606846976) (b0 : 0 < b) (b1 : b ≤ 1152921504606846976) : Calls Tryz.prog 137 #[.int .i64 a, .int .i64 b] w fun e w' => e = .returned (.int .i64 (a / b)) ∧ w' = w := by
  have hf := floor_td a b0
  have q1 := Int.natAbs_tdiv_le_natAbs a b
  have hz : (b == 0) = false := by simp; omega
  have hz2 : ¬ b = 0 := by omega
  rw [← hf]
  clear hf
  obtain ⟨q, hq⟩ : ∃ q, a.tdiv b = q := ⟨_, rfl⟩
  obtain ⟨r, hr⟩ : ∃ r, a.tmod b = r := ⟨_, rfl⟩
  rw [hq] at q1 ⊢
  rw [hr]
  have q0 : -1152921504606846976 ≤ q := by omega
  have q9 : q ≤ 1152921504606846976 := by omega
  clear q1
  by_cases h : r < 0
  · rw [if_pos h]
    have d0 : decide (r < 0) = true := decide_eq_true h
    go_enter Tryz.func137, Tryz.ntmps137
    go_wp2
    go_ret
    exact ⟨rfl, rfl⟩
  · rw [if_neg h]
    have d0 : decide (r < 0) = false := decide_eq_false h
    go_enter Tryz.func137, Tryz.ntmps137
    go_wp2
    go_ret
    exact ⟨rfl, rfl⟩
end Go.Proofs.YtbpnacacnncopaaGreatDoor
namespace Go.Proofs.YtbpnacacnncopaaGreatDoor
open Go.RowKit
set_option maxHeartbeats 8000000 in
set_option maxRecDepth 100000 in
theorem arcT_any (T : List Ent) (A : Option Addr) (n c : Nat) (hs : Int) (w : World) (hT : TabAt w w.heap.size A T) (hn : T.length = n) (hn1 : n ≤ 1000) (hk : TabOk T) (h0 : -60000 ≤ hs) (h1 : hs ≤ 7800000) :
    Calls Tryz.prog 95 #[.slice A n c, .int .i64 hs] w fun e w' => e = .returned (.agg #[.int .i64 (arcA T hs).1, .int .i64 (arcA T hs).2]) ∧ Below w.heap.size w w' := by
  have H0 := Lib.hid hT
  have HK := Lib.hid hk
  have HN := Lib.hid hn
  have b00 := bl_alloc w (.cells #[.int .i64 0, .int .i64 0] 41)
  have KS := Lib.hid (search_any T A n c hs (w.alloc (.cells #[.int .i64 0, .int .i64 0] 41)) (by
    rcases hT.bl b00 with h | ⟨b, off, e, hb, hc⟩
    · exact .inl h
    · exact .inr ⟨b, off, e, Nat.lt_of_lt_of_le hb b00.size, hc⟩) hn hn1 hk h0 h1)
  have hA : ∀ i, i ≤ n → (∀ (k : Nat) (x : Ent), k < i → T[k]? = some x → x.1 < hs) → (∀ x : Ent, T[i]? = some x → hs ≤ x.1) → arcA T hs = arcI T i hs := fun i hi h1 h2 => by
    unfold arcA
    rw [posT_one T hs i (by rw [hn]; exact hi) h1 h2]
  obtain ⟨V, hV⟩ : ∃ V, arcA T hs = V := ⟨_, rfl⟩
  simp only [hV] at hA ⊢
  have HA := Lib.hid hA
  clear hA hV hT hk hn b00
  have R0 := Lib.hid (Blk.new w 41 #[.int .i64 0, .int .i64 0])
  have b0 := Lib.hid ((Below.refl w.heap.size w).alloc (Nat.le_refl _) (.cells #[.int .i64 0, .int .i64 0] 41))
  go_enter Tryz.func95, Tryz.ntmps95
  go_upto_region 1 with fail
  generalize (w.alloc (.cells #[.int .i64 0, .int .i64 0] 41)) = w1 at *
  go_wp2_with fail
  (with_reducible refine (KS.out).mono ?_)
  rintro e w2 ⟨hse, hb⟩
  have R2 := Lib.hid (R0.out.below hb R0.out.lt)
  have b2 := Lib.hid (b0.out.trans (hb.mono b0.out.size))
  clear hb R0 b0
  obtain ⟨i, hi, hlo, hhi, f, rfl, hf⟩ := hse
  have hVI := HA.out i hi hlo hhi
  have LO := Lib.hid hlo
  have HI := Lib.hid hhi
  have HF := Lib.hid hf
  clear hlo hhi hf HA
  by_cases hn0 : n = 0
  · subst hn0
    have hTe : T = [] := List.eq_nil_of_length_eq_zero HN.out
    obtain rfl : V = (0, 0) := by rw [hVI]; unfold arcI; rw [if_pos hTe]
    clear hVI hTe
    have yR : ∀ i, w2.cell? ⟨w.heap.size, i, none⟩ = (#[.int .i64 0, .int .i64 0] : Array Value)[i]? := fun i => R2.out.cell i
    have zR : ∀ i, w2.frozen? ⟨w.heap.size, i, none⟩ = false := fun i => R2.out.frozen i
    cases f
    all_goals
      go_wp2
      refine bodyPost_ret (v := .agg #[.int .i64 0, .int .i64 0]) (by simp [results, Tryz.results95, go_sem, *]; done) rfl ⟨rfl, ?_⟩
      exact (b2.out.setCell (by first | exact Nat.le_refl _ | (simp; done) | (simp; omega) | (simp only []; omega)) _).setCell (by first | exact Nat.le_refl _ | (simp; done) | (simp; omega) | (simp only []; omega)) _
  · have hTn : T ≠ [] := fun e => hn0 (by rw [← HN.out, e]; rfl)
    have dn : ((n : Int) == 0) = false := by simp; omega
    have dn2 : (n == 0) = false := by simp; omega
    have TT := Lib.hid (H0.out.bl b2.out)
    rcases TT.out with he | ⟨b, off, rfl, hb, hc⟩
    · exact absurd he hTn
    have HC := Lib.hid hc
    clear hc TT H0
    by_cases hin : i < n
    case neg =>
      obtain rfl : i = n := by omega
      have hno : T[i]? = none := List.getElem?_eq_none (by rw [HN.out]; exact Nat.le_refl _)
      obtain rfl : f = false := by
        cases f with
        | false => rfl
        | true => obtain ⟨x, hx, -⟩ := HF.out.1 rfl; rw [hno] at hx; cases hx
      obtain ⟨p, hp⟩ : ∃ p, T[i - 1]? = some p := ⟨_, List.getElem?_eq_getElem (by rw [HN.out]; omega)⟩
      obtain rfl : V = (p.2, p.2) := by
        rw [hVI]
        unfold arcI
        rw [if_neg hTn, hno]
        simp [List.getD_eq_getElem?_getD, hp]
      have y1 := (HC.out (i - 1) p hp).2
      obtain ⟨a, v⟩ := p
      simp only [] at y1 ⊢
      have Y1 := Lib.hid y1
      clear y1 hVI hno hp
      have di0 : ((i : Int) == 0) = false := by simp; omega
      have di1 : (i == 0) = false := by simp; omega
      go_upto_region 7 with fail
      have y1 : ∀ s : BQ w2, s.w.cell? ⟨b, off + (i - 1) * 2 + 1, none⟩ = some (.int .i64 v) := fun s => (s.hb.cell (p := ⟨b, off + (i - 1) * 2 + 1, none⟩) (Nat.lt_of_lt_of_le hb b2.out.size)).trans Y1.out
      refine wp_region_bqt 13 w2 (by kernel_rfl) (by kernel_rfl) (by kernel_rfl) (by kernel_rfl) (Below.refl _ _) ?_
      simp only [List.take_succ_cons, List.take_zero, List.drop_succ_cons, List.drop_zero]
      repeat (go_big_quiet_step (first | fail | fail))
      refine wpQuiet_nil ?_
      intro w3 hb
      have R3 := Lib.hid (R2.out.below hb R2.out.lt)
      have b3 := Lib.hid (b2.out.trans (hb.mono b2.out.size))
      clear hb R2 b2 y1
      have yR : ∀ i, w3.cell? ⟨w.heap.size, i, none⟩ = (#[.int .i64 0, .int .i64 0] : Array Value)[i]? := fun i => R3.out.cell i
      have zR : ∀ i, w3.frozen? ⟨w.heap.size, i, none⟩ = false := fun i => R3.out.frozen i
      go_wp2
      refine bodyPost_ret (v := .agg #[.int .i64 v, .int .i64 v]) (by simp [results, Tryz.results95, go_sem, *]; done) rfl ⟨rfl, ?_⟩
      exact (b3.out.setCell (by first | exact Nat.le_refl _ | (simp; done) | (simp; omega) | (simp only []; omega)) _).setCell (by first | exact Nat.le_refl _ | (simp; done) | (simp; omega) | (simp only []; omega)) _
    case pos =>
      obtain ⟨x, hx⟩ : ∃ x, T[i]? = some x := ⟨_, List.getElem?_eq_getElem (by rw [HN.out]; omega)⟩
      have dni : ((i : Int) == (n : Int)) = false := by simp; omega
      have dni2 : (i == n) = false := by simp; omega
      by_cases hz : x.1 = hs ∨ i = 0
      · obtain rfl : V = (x.2, x.2) := by
          rw [hVI]
          unfold arcI
          rw [if_neg hTn, hx]
          simp only []
          rw [if_pos hz]
        have y1 := (HC.out i x hx).2
        have hfi : f = true ∨ (f = false ∧ i = 0) := by
          cases f with
          | true => exact .inl rfl
          | false =>
            refine .inr ⟨rfl, ?_⟩
            rcases hz with h | h
            · have := HF.out.2 ⟨x, hx, h⟩
              cases this
            · exact h
        obtain ⟨a, v⟩ := x
        simp only [] at y1 ⊢
        have Y1 := Lib.hid y1
        clear y1 hVI hx hz
        rcases hfi with rfl | ⟨rfl, rfl⟩
        · skip
          go_upto_region 5 with fail
          have y1 : ∀ s : BQ w2, s.w.cell? ⟨b, off + i * 2 + 1, none⟩ = some (.int .i64 v) := fun s => (s.hb.cell (p := ⟨b, off + i * 2 + 1, none⟩) (Nat.lt_of_lt_of_le hb b2.out.size)).trans Y1.out
          refine wp_region_bqt 11 w2 (by kernel_rfl) (by kernel_rfl) (by kernel_rfl) (by kernel_rfl) (Below.refl _ _) ?_
          simp only [List.take_succ_cons, List.take_zero, List.drop_succ_cons, List.drop_zero]
          repeat (go_big_quiet_step (first | fail | fail))
          refine wpQuiet_nil ?_
          intro w3 hb
          have R3 := Lib.hid (R2.out.below hb R2.out.lt)
          have b3 := Lib.hid (b2.out.trans (hb.mono b2.out.size))
          clear hb R2 b2 y1
          have yR : ∀ i, w3.cell? ⟨w.heap.size, i, none⟩ = (#[.int .i64 0, .int .i64 0] : Array Value)[i]? := fun i => R3.out.cell i
          have zR : ∀ i, w3.frozen? ⟨w.heap.size, i, none⟩ = false := fun i => R3.out.frozen i
          go_wp2
          refine bodyPost_ret (v := .agg #[.int .i64 v, .int .i64 v]) (by simp [results, Tryz.results95, go_sem, *]; done) rfl ⟨rfl, ?_⟩
          exact (b3.out.setCell (by first | exact Nat.le_refl _ | (simp; done) | (simp; omega) | (simp only []; omega)) _).setCell (by first | exact Nat.le_refl _ | (simp; done) | (simp; omega) | (simp only []; omega)) _
        · skip
          go_upto_region 5 with fail
          have y1 : ∀ s : BQ w2, s.w.cell? ⟨b, off + 0 * 2 + 1, none⟩ = some (.int .i64 v) := fun s => (s.hb.cell (p := ⟨b, off + 0 * 2 + 1, none⟩) (Nat.lt_of_lt_of_le hb b2.out.size)).trans Y1.out
          refine wp_region_bqt 11 w2 (by kernel_rfl) (by kernel_rfl) (by kernel_rfl) (by kernel_rfl) (Below.refl _ _) ?_
          simp only [List.take_succ_cons, List.take_zero, List.drop_succ_cons, List.drop_zero]
          repeat (go_big_quiet_step (first | fail | fail))
          refine wpQuiet_nil ?_
          intro w3 hb
          have R3 := Lib.hid (R2.out.below hb R2.out.lt)
          have b3 := Lib.hid (b2.out.trans (hb.mono b2.out.size))
          clear hb R2 b2 y1
          have yR : ∀ i, w3.cell? ⟨w.heap.size, i, none⟩ = (#[.int .i64 0, .int .i64 0] : Array Value)[i]? := fun i => R3.out.cell i
          have zR : ∀ i, w3.frozen? ⟨w.heap.size, i, none⟩ = false := fun i => R3.out.frozen i
          go_wp2
          refine bodyPost_ret (v := .agg #[.int .i64 v, .int .i64 v]) (by simp [results, Tryz.results95, go_sem, *]; done) rfl ⟨rfl, ?_⟩
          exact (b3.out.setCell (by first | exact Nat.le_refl _ | (simp; done) | (simp; omega) | (simp only []; omega)) _).setCell (by first | exact Nat.le_refl _ | (simp; done) | (simp; omega) | (simp only []; omega)) _
      · obtain ⟨p, hp⟩ : ∃ p, T[i - 1]? = some p := ⟨_, List.getElem?_eq_getElem (by rw [HN.out]; omega)⟩
        have hi0 : ¬ i = 0 := fun h => hz (.inr h)
        obtain rfl : V = (itA p x hs, itB p x hs) := by
          rw [hVI]
          unfold arcI
          rw [if_neg hTn, hx]
          simp only []
          rw [if_neg hz]
          simp [List.getD_eq_getElem?_getD, hp]
        obtain rfl : f = false := by
          cases f with
          | false => rfl
          | true => obtain ⟨x', hx', h'⟩ := HF.out.1 rfl; obtain rfl : x' = x := Option.some.inj (hx'.symm.trans hx); exact absurd (.inl h') hz
        have hpe := ent_iff.1 (HK.out.ent _ p hp)
        have hxe := ent_iff.1 (HK.out.ent _ x hx)
        have hpx := HK.out.sorted i (i - 1) p x (by omega) hp hx
        have hph := LO.out (i - 1) p (by omega) hp
        have hxh := HI.out x hx
        have di0 : ((i : Int) == 0) = false := by simp; omega
        have di1 : (i == 0) = false := by simp; omega
        have HCp := Lib.hid (HC.out (i - 1) p hp)
        have HCx := Lib.hid (HC.out i x hx)
        obtain ⟨a', v'⟩ := p
        obtain ⟨a, v⟩ := x
        simp only [] at hpe hxe hpx hph hxh HCp HCx ⊢
        clear hVI hx hp hz LO HI HF HC
        have lt9 : b < w2.heap.size := Nat.lt_of_lt_of_le hb b2.out.size
        have y0 := HCp.out.1
        have y1 := HCp.out.2
        have y2 := HCx.out.1
        have y3 := HCx.out.2
        go_upto_region 8 with fail
        have hI1 : itA (a', v') (a, v) hs = (v' * (a - a') + (v - v') * (hs - a')) / (a - a') := rfl
        have hI2 : itB (a', v') (a, v) hs = -(-(v' * (a - a') + (v - v') * (hs - a')) / (a - a')) := rfl
        have m1 := mul_bdN (n := v') (k := a - a') (B := 10000) (C := 7800000) (by omega) (by omega) (by omega) (by omega) (by omega)
        have m2 := mul_bdN (n := v - v') (k := hs - a') (B := 20000) (C := 7860000) (by omega) (by omega) (by omega) (by omega) (by omega)
        have KF1 := Lib.hid (fun W => ifloor_any (v' * (a - a') + (v - v') * (hs - a')) (a - a') W (by omega) (by omega) (by omega) (by omega))
        have KF2 := Lib.hid (fun W => ifloor_any (-(v' * (a - a') + (v - v') * (hs - a'))) (a - a') W (by omega) (by omega) (by omega) (by omega))
        have hN := ediv_bdN (a := -(v' * (a - a') + (v - v') * (hs - a'))) (b := a - a') (B := 1152921504606846976) (by omega) (by omega) (by omega) (by omega)
        obtain ⟨d, hd⟩ : ∃ d, a - a' = d := ⟨_, rfl⟩
        obtain ⟨P1, hP1⟩ : ∃ P, v' * d = P := ⟨_, rfl⟩
        obtain ⟨u, hu⟩ : ∃ u, v - v' = u := ⟨_, rfl⟩
        obtain ⟨z, hz⟩ : ∃ z, hs - a' = z := ⟨_, rfl⟩
        obtain ⟨P2, hP2⟩ : ∃ P, u * z = P := ⟨_, rfl⟩
        rw [hd, hP1, hu, hz, hP2] at hI1 hI2 KF1 KF2 hN
        rw [hd, hP1] at m1
        rw [hu, hz, hP2] at m2
        obtain ⟨N, hNN⟩ : ∃ N, P1 + P2 = N := ⟨_, rfl⟩
        rw [hNN] at hI1 hI2 KF1 KF2 hN
        generalize N / d = x0 at *
        generalize -N / d = y00 at *
        have n1 := hN.1
        have n2 := hN.2
        have k1 := m1.1
        have k2 := m1.2
        have k3 := m2.1
        have k4 := m2.2
        have HI1 := Lib.hid hI1
        have HI2 := Lib.hid hI2
        clear hI1 hI2 hN m1 m2
        skip
        go_region
        all_goals clear y0 y1 y2 y3
        · have P3 := Lib.hid (((Blk.new w2 135 #[.int .i64 (a'), .int .i64 (v')]).alloc (.cells #[.int .i64 a, .int .i64 v] 135)).drew)
          have X3 := Lib.hid ((Blk.new (w2.alloc (.cells #[.int .i64 (a'), .int .i64 (v')] 135)) 135 #[.int .i64 a, .int .i64 v]).drew)
          have R3 := Lib.hid (((R2.out.alloc (.cells #[.int .i64 (a'), .int .i64 (v')] 135)).alloc (.cells #[.int .i64 a, .int .i64 v] 135)).drew)
          have b3 := Lib.hid (bl_drew (b2.out.trans ((((Below.refl w2.heap.size w2).alloc (Nat.le_refl _) (.cells #[.int .i64 (a'), .int .i64 (v')] 135)).alloc (by simp) (.cells #[.int .i64 a, .int .i64 v] 135)).mono b2.out.size)))
          simp only [World.size_alloc] at X3
          generalize ((w2.alloc (.cells #[.int .i64 (a'), .int .i64 (v')] 135)).alloc (.cells #[.int .i64 a, .int .i64 v] 135)).drew = w3 at *
          have yX : ∀ i, w3.cell? ⟨w2.heap.size + 1, i, none⟩ = (#[.int .i64 a, .int .i64 v] : Array Value)[i]? := fun i => X3.out.cell i
          have yP : ∀ i, w3.cell? ⟨w2.heap.size, i, none⟩ = (#[.int .i64 (a'), .int .i64 (v')] : Array Value)[i]? := fun i => P3.out.cell i
          have yR : ∀ i, w3.cell? ⟨w.heap.size, i, none⟩ = (#[.int .i64 0, .int .i64 0] : Array Value)[i]? := fun i => R3.out.cell i
          have zR : ∀ i, w3.frozen? ⟨w.heap.size, i, none⟩ = false := fun i => R3.out.frozen i
          go_wp2_with (go_at_call 137; (first | (with_reducible refine (KF1.out _).mono ?_) | (with_reducible refine (KF2.out _).mono ?_)); rintro e w9 ⟨rfl, rfl⟩)
          refine bodyPost_ret (v := .agg #[.int .i64 x0, .int .i64 (-y00)]) (by simp [results, Tryz.results95, go_sem, *]; done) rfl ⟨by rw [HI1.out, HI2.out], ?_⟩
          exact (b3.out.setCell (Nat.le_refl _) _).setCell (Nat.le_refl _) _
        · have X3 := Lib.hid (((Blk.new w2 135 #[.int .i64 a, .int .i64 v]).alloc (.cells #[.int .i64 (a'), .int .i64 (v')] 135)).drew)
          have P3 := Lib.hid ((Blk.new (w2.alloc (.cells #[.int .i64 a, .int .i64 v] 135)) 135 #[.int .i64 (a'), .int .i64 (v')]).drew)
          have R3 := Lib.hid (((R2.out.alloc (.cells #[.int .i64 a, .int .i64 v] 135)).alloc (.cells #[.int .i64 (a'), .int .i64 (v')] 135)).drew)
          have b3 := Lib.hid (bl_drew (b2.out.trans ((((Below.refl w2.heap.size w2).alloc (Nat.le_refl _) (.cells #[.int .i64 a, .int .i64 v] 135)).alloc (by simp) (.cells #[.int .i64 (a'), .int .i64 (v')] 135)).mono b2.out.size)))
          simp only [World.size_alloc] at P3
          generalize ((w2.alloc (.cells #[.int .i64 a, .int .i64 v] 135)).alloc (.cells #[.int .i64 (a'), .int .i64 (v')] 135)).drew = w3 at *
          have yX : ∀ i, w3.cell? ⟨w2.heap.size, i, none⟩ = (#[.int .i64 a, .int .i64 v] : Array Value)[i]? := fun i => X3.out.cell i
          have yP : ∀ i, w3.cell? ⟨w2.heap.size + 1, i, none⟩ = (#[.int .i64 (a'), .int .i64 (v')] : Array Value)[i]? := fun i => P3.out.cell i
          have yR : ∀ i, w3.cell? ⟨w.heap.size, i, none⟩ = (#[.int .i64 0, .int .i64 0] : Array Value)[i]? := fun i => R3.out.cell i
          have zR : ∀ i, w3.frozen? ⟨w.heap.size, i, none⟩ = false := fun i => R3.out.frozen i
          go_wp2_with (go_at_call 137; (first | (with_reducible refine (KF1.out _).mono ?_) | (with_reducible refine (KF2.out _).mono ?_)); rintro e w9 ⟨rfl, rfl⟩)
          refine bodyPost_ret (v := .agg #[.int .i64 x0, .int .i64 (-y00)]) (by simp [results, Tryz.results95, go_sem, *]; done) rfl ⟨by rw [HI1.out, HI2.out], ?_⟩
          exact (b3.out.setCell (Nat.le_refl _) _).setCell (Nat.le_refl _) _
/-- the correction of an instrument at a reading -/
def coA (ix : Int) (T : List Ent) (hs : Int) : Int := (arcA T hs).1 + ix
def coB (ix : Int) (T : List Ent) (hs : Int) : Int := (arcA T hs).2 + ix
end Go.Proofs.YtbpnacacnncopaaGreatDoor
namespace Go.Proofs.YtbpnacacnncopaaGreatDoor
open Go.RowKit
theorem posT_spec : ∀ (T : List Ent) (hs : Int), posT T hs ≤ T.length ∧ (∀ (k : Nat) (x : Ent), k < posT T hs → T[k]? = some x → x.1 < hs) ∧ (∀ x, T[posT T hs]? = some x → hs ≤ x.1)
  | [], hs => ⟨Nat.le_refl _, fun k x h => by simp [posT] at h, fun x h => by simp at h⟩
  | y :: T, hs => by
    obtain ⟨h1, h2, h3⟩ := posT_spec T hs
    by_cases hy : y.1 < hs
    · have e : posT (y :: T) hs = posT T hs + 1 := by unfold posT; rw [List.takeWhile_cons, if_pos (by simpa using hy)]; rfl
      rw [e]
      refine ⟨by simpa using h1, fun k x hk hx => ?_, fun x hx => h3 x (by simpa using hx)⟩
      cases k with
      | zero => simp at hx; subst hx; exact hy
      | succ k => exact h2 k x (by omega) (by simpa using hx)
    · have e : posT (y :: T) hs = 0 := by unfold posT; rw [List.takeWhile_cons, if_neg (by simpa using hy)]; rfl
      rw [e]
      refine ⟨Nat.zero_le _, fun k x hk => by omega, fun x hx => ?_⟩
      simp at hx
      subst hx
      omega
theorem div_two {N d B : Int} (hd : 0 < d) (h0 : -(B * d) ≤ N) (h1 : N ≤ B * d) : -B ≤ N / d ∧ N / d ≤ -(-N / d) ∧ -(-N / d) ≤ B := by
  have q1 : -B ≤ N / d := (Int.le_ediv_iff_mul_le hd).2 (by rw [Int.neg_mul]; omega)
  have q2 : -B ≤ -N / d := (Int.le_ediv_iff_mul_le hd).2 (by rw [Int.neg_mul]; omega)
  have q3 := Int.mul_ediv_self_le (x := N) (k := d) (by omega)
  have q4 := Int.mul_ediv_self_le (x := -N) (k := d) (by omega)
  refine ⟨q1, ?_, by omega⟩
  have q5 : d * (N / d + -N / d) ≤ 0 := by rw [Int.mul_add]; omega
  rcases Int.lt_or_le 0 (N / d + -N / d) with h | h
  · have := Int.mul_pos hd h
    omega
  · omega
theorem it_bd {p x : Ent} {hs : Int} (hp : entB p = true) (hx : entB x = true) (h1 : p.1 < hs) (h2 : hs ≤ x.1) : -30000 ≤ itA p x hs ∧ itA p x hs ≤ itB p x hs ∧ itB p x hs ≤ 30000 := by
  obtain ⟨a, b, c, d⟩ := ent_iff.1 hp
  obtain ⟨e, f, g, h⟩ := ent_iff.1 hx
  unfold itA itB
  obtain ⟨D, hD⟩ : ∃ D, x.1 - p.1 = D := ⟨_, rfl⟩
  obtain ⟨Z, hZ⟩ : ∃ Z, hs - p.1 = Z := ⟨_, rfl⟩
  rw [hD, hZ]
  have m1 := mul_bdN (n := p.2) (k := D) (B := 10000) (C := D) (by omega) (by omega) (by omega) (Int.le_refl _) (by omega)
  have m2 := mul_bdN (n := x.2 - p.2) (k := Z) (B := 20000) (C := D) (by omega) (by omega) (by omega) (by omega) (by omega)
  exact div_two (by omega) (by omega) (by omega)
theorem arc_bd {T : List Ent} {hs : Int} (h : TabOk T) : -30000 ≤ (arcA T hs).1 ∧ (arcA T hs).1 ≤ (arcA T hs).2 ∧ (arcA T hs).2 ≤ 30000 := by
  obtain ⟨s1, s2, s3⟩ := posT_spec T hs
  unfold arcA arcI
  generalize posT T hs = i at *
  split
  · exact ⟨by show (-30000 : Int) ≤ 0; omega, Int.le_refl _, by show (0 : Int) ≤ 30000; omega⟩
  · rename_i hT
    have hlen : 0 < T.length := List.length_pos_iff.2 hT
    have hg : ∀ k, k < T.length → ∃ p, T[k]? = some p ∧ T.getD k (0, 0) = p := fun k hk => ⟨T[k], List.getElem?_eq_getElem hk, by simp [List.getD_eq_getElem?_getD, hk]⟩
    cases hx : T[i]? with
    | none =>
      simp only []
      obtain ⟨p, hp, e⟩ := hg (i - 1) (by omega)
      rw [e]
      have := ent_iff.1 (h.ent _ p hp)
      omega
    | some x =>
      simp only []
      have hxe := ent_iff.1 (h.ent _ x hx)
      split
      · simp only []
        omega
      · rename_i hz
        simp only [not_or] at hz
        obtain ⟨p, hp, e⟩ := hg (i - 1) (by omega)
        rw [e]
        exact it_bd (h.ent _ p hp) (h.ent _ x hx) (s2 (i - 1) p (by omega) hp) (s3 x hx)
theorem TabAt.up {w w' : World} {A : Option Addr} {T : List Ent} (h : TabAt w w.heap.size A T) (hb : Below w.heap.size w w') : TabAt w' w'.heap.size A T := by
  rcases h.bl hb with h | ⟨b, off, e, hlt, hc⟩
  · exact .inl h
  · exact .inr ⟨b, off, e, Nat.lt_of_lt_of_le hlt hb.size, hc⟩
theorem ireading_any (hs : Int) (w : World) (h0 : -60000 ≤ hs) (h1 : hs ≤ 7800000) : Calls Tryz.prog 94 #[.int .i64 hs] w fun e w' => e = .returned (.bool true) ∧ w' = w := by
  have d0 : decide (-60000 ≤ hs) = true := decide_eq_true h0
  have d1 : decide (hs ≤ 7800000) = true := decide_eq_true h1
  go_enter Tryz.func94, Tryz.ntmps94
  go_wp2
  go_ret
  exact ⟨rfl, rfl⟩
/-- what valid instruments are -/
theorem ins_ok {ix : Int} {T : List Ent} (h : insV ix T = true) : (-60000 ≤ ix ∧ ix ≤ 60000) ∧ T.length ≤ 40 ∧ TabOk T := by
  unfold insV at h
  rw [Bool.and_eq_true, Bool.and_eq_true, decide_eq_true_eq] at h
  exact ⟨wi_iff.1 h.1, h.2.1, tab_ok h.2.2⟩
set_option maxHeartbeats 4000000 in
set_option maxRecDepth 100000 in
theorem Corr_any (ix hs : Int) (T : List Ent) (A : Option Addr) (n c : Nat) (w : World) (hT : TabAt w w.heap.size A T) (hn : T.length = n) (hv : insV ix T = true) (h0 : -60000 ≤ hs) (h1 : hs ≤ 7800000) :
    Calls Tryz.prog 52 #[.agg #[.int .i64 ix, .slice A n c], .int .i64 hs] w fun e w' => e = .returned (.tuple #[.agg #[.int .i64 (coA ix T hs), .int .i64 (coB ix T hs)], .int .i64 0]) ∧ Below w.heap.size w w' := by
  obtain ⟨⟨x0, x1⟩, hl, hk⟩ := ins_ok hv
  have KV := Lib.hid (fun W (hW : Below w.heap.size w W) => insV_any ix T A n c W (hT.up hW) hn (by omega))
  rw [hv] at KV
  have KR := Lib.hid (fun W => ireading_any hs W h0 h1)
  have KA := Lib.hid (fun W (hW : Below w.heap.size w W) => arcT_any T A n c hs W (hT.up hW) hn (by omega) hk h0 h1)
  have hbd := arc_bd (hs := hs) hk
  unfold coA coB
  generalize (arcA T hs).1 = x at *
  generalize (arcA T hs).2 = y at *
  have m1 : wrap64 (x + ix) = x + ix := IntWalk.wrap64_in _ (by omega)
  have m2 : wrap64 (y + ix) = y + ix := IntWalk.wrap64_in _ (by omega)
  clear hv hk hT hbd
  have I0 := Lib.hid ((Blk.new w 40 #[.int .i64 ix, .slice A n c]).alloc (.cells #[.int .i64 0, .int .i64 0] 41))
  have R0 := Lib.hid (Blk.new (w.alloc (.cells #[.int .i64 ix, .slice A n c] 40)) 41 #[.int .i64 0, .int .i64 0])
  simp only [World.size_alloc] at R0
  have b0 := Lib.hid (((Below.refl w.heap.size w).alloc (Nat.le_refl _) (.cells #[.int .i64 ix, .slice A n c] 40)).alloc (by simp) (.cells #[.int .i64 0, .int .i64 0] 41))
  go_enter Tryz.func52, Tryz.ntmps52
  go_upto_region 1 with fail
  generalize ((w.alloc (.cells #[.int .i64 ix, .slice A n c] 40)).alloc (.cells #[.int .i64 0, .int .i64 0] 41)) = w1 at *
  have yI : ∀ i, w1.cell? ⟨w.heap.size, i, none⟩ = (#[.int .i64 ix, .slice A n c] : Array Value)[i]? := fun i => I0.out.cell i
  go_wp2_with fail
  (with_reducible refine (KV.out _ b0.out).mono ?_)
  rintro e w2 ⟨rfl, hb⟩
  have I2 := Lib.hid (I0.out.below hb I0.out.lt)
  have R2 := Lib.hid (R0.out.below hb R0.out.lt)
  have b2 := Lib.hid (b0.out.trans (hb.mono b0.out.size))
  clear hb I0 R0 b0 yI
  go_wp2_with fail
  (with_reducible refine (KR.out _).mono ?_)
  rintro e w3 ⟨rfl, rfl⟩
  have yI : ∀ i, w3.cell? ⟨w.heap.size, i, none⟩ = (#[.int .i64 ix, .slice A n c] : Array Value)[i]? := fun i => I2.out.cell i
  go_wp2_with fail
  (with_reducible refine (KA.out _ b2.out).mono ?_)
  rintro e w4 ⟨rfl, hb⟩
  have I4 := Lib.hid (I2.out.below hb I2.out.lt)
  have R4 := Lib.hid (R2.out.below hb R2.out.lt)
  have b4 := Lib.hid (b2.out.trans (hb.mono b2.out.size))
  clear hb I2 R2 b2 yI
  have I5 := Lib.hid (I4.out.alloc (.cells #[.int .i64 x, .int .i64 y] 41))
  have R5 := Lib.hid (R4.out.alloc (.cells #[.int .i64 x, .int .i64 y] 41))
  have C5 := Lib.hid (Blk.new w4 41 #[.int .i64 x, .int .i64 y])
  have b5 := Lib.hid (b4.out.trans ((bl_alloc w4 (.cells #[.int .i64 x, .int .i64 y] 41)).mono b4.out.size))
  clear I4 R4 b4
  go_upto_region 6 with fail
  generalize w4.alloc (.cells #[.int .i64 x, .int .i64 y] 41) = w6 at *
  have yC : ∀ i, w6.cell? ⟨w4.heap.size, i, none⟩ = (#[.int .i64 x, .int .i64 y] : Array Value)[i]? := fun i => C5.out.cell i
  have yI : ∀ i, w6.cell? ⟨w.heap.size, i, none⟩ = (#[.int .i64 ix, .slice A n c] : Array Value)[i]? := fun i => I5.out.cell i
  have yR : ∀ i, w6.cell? ⟨w.heap.size + 1, i, none⟩ = (#[.int .i64 0, .int .i64 0] : Array Value)[i]? := fun i => R5.out.cell i
  have zR : ∀ i, w6.frozen? ⟨w.heap.size + 1, i, none⟩ = false := fun i => R5.out.frozen i
  go_wp2
  refine bodyPost_ret (v := .tuple #[.agg #[.int .i64 ((x + ix)), .int .i64 ((y + ix))], .int .i64 0]) (by simp [results, Tryz.results52, go_sem, *]; done) rfl ⟨rfl, ?_⟩
  exact (b5.out.setCell (by first | exact Nat.le_refl _ | (simp; done) | (simp; omega) | (simp only []; omega)) _).setCell (by first | exact Nat.le_refl _ | (simp; done) | (simp; omega) | (simp only []; omega)) _
theorem co_bd {ix hs : Int} {T : List Ent} (hv : insV ix T = true) : -90000 ≤ coA ix T hs ∧ coA ix T hs ≤ coB ix T hs ∧ coB ix T hs ≤ 90000 := by
  obtain ⟨hx, hl, hk⟩ := ins_ok hv
  have hbd := arc_bd (hs := hs) hk
  unfold coA coB
  omega
set_option maxHeartbeats 4000000 in
set_option maxRecDepth 100000 in
theorem Apply_any (ix hs b : Int) (T : List Ent) (A : Option Addr) (n c : Nat) (w : World) (hT : TabAt w w.heap.size A T) (hn : T.length = n) (hv : insV ix T = true) (h0 : -60000 ≤ hs) (h1 : hs ≤ 7800000) (b0' : 0 ≤ b) (b1' : b ≤ 60000) :
    Calls Tryz.prog 53 #[.agg #[.int .i64 ix, .slice A n c], .int .i64 hs, .int .i64 b] w fun e w' => e = .returned (.tuple #[.agg #[.int .i64 (hs - b + coA ix T hs), .int .i64 (hs + b + coB ix T hs)], .int .i64 0]) ∧ Below w.heap.size w w' := by
  have KC := Lib.hid (fun W (hW : Below w.heap.size w W) => Corr_any ix hs T A n c W (hT.up hW) hn hv h0 h1)
  have hbd := co_bd (hs := hs) hv
  generalize coA ix T hs = x at *
  generalize coB ix T hs = y at *
  have d0 : decide (b < 0) = false := decide_eq_false (by omega)
  have d1 : decide (60000 < b) = false := decide_eq_false (by omega)
  have m1 : wrap64 (hs - b) = hs - b := IntWalk.wrap64_in _ (by omega)
  have m2 : wrap64 (hs - b + x) = hs - b + x := IntWalk.wrap64_in _ (by omega)
  have m3 : wrap64 (hs + b) = hs + b := IntWalk.wrap64_in _ (by omega)
  have m4 : wrap64 (hs + b + y) = hs + b + y := IntWalk.wrap64_in _ (by omega)
  clear hv hT hbd
  have I0 := Lib.hid ((Blk.new w 40 #[.int .i64 ix, .slice A n c]).alloc (.cells #[.int .i64 0, .int .i64 0] 41))
  have R0 := Lib.hid (Blk.new (w.alloc (.cells #[.int .i64 ix, .slice A n c] 40)) 41 #[.int .i64 0, .int .i64 0])
  simp only [World.size_alloc] at R0
  have b0 := Lib.hid (((Below.refl w.heap.size w).alloc (Nat.le_refl _) (.cells #[.int .i64 ix, .slice A n c] 40)).alloc (by simp) (.cells #[.int .i64 0, .int .i64 0] 41))
  go_enter Tryz.func53, Tryz.ntmps53
  go_upto_region 1 with fail
  generalize ((w.alloc (.cells #[.int .i64 ix, .slice A n c] 40)).alloc (.cells #[.int .i64 0, .int .i64 0] 41)) = w1 at *
  have yI : ∀ i, w1.cell? ⟨w.heap.size, i, none⟩ = (#[.int .i64 ix, .slice A n c] : Array Value)[i]? := fun i => I0.out.cell i
  go_wp2_with fail
  (with_reducible refine (KC.out _ b0.out).mono ?_)
  rintro e w2 ⟨rfl, hb⟩
  have I2 := Lib.hid (I0.out.below hb I0.out.lt)
  have R2 := Lib.hid (R0.out.below hb R0.out.lt)
  have b2 := Lib.hid (b0.out.trans (hb.mono b0.out.size))
  clear hb I0 R0 b0 yI
  have I3 := Lib.hid (I2.out.alloc (.cells #[.int .i64 x, .int .i64 y] 41))
  have R3 := Lib.hid (R2.out.alloc (.cells #[.int .i64 x, .int .i64 y] 41))
  have C3 := Lib.hid (Blk.new w2 41 #[.int .i64 x, .int .i64 y])
  have b3 := Lib.hid (b2.out.trans ((bl_alloc w2 (.cells #[.int .i64 x, .int .i64 y] 41)).mono b2.out.size))
  clear I2 R2 b2
  go_upto_region 2 with fail
  generalize w2.alloc (.cells #[.int .i64 x, .int .i64 y] 41) = w4 at *
  have yC : ∀ i, w4.cell? ⟨w2.heap.size, i, none⟩ = (#[.int .i64 x, .int .i64 y] : Array Value)[i]? := fun i => C3.out.cell i
  have yR : ∀ i, w4.cell? ⟨w.heap.size + 1, i, none⟩ = (#[.int .i64 0, .int .i64 0] : Array Value)[i]? := fun i => R3.out.cell i
  have zR : ∀ i, w4.frozen? ⟨w.heap.size + 1, i, none⟩ = false := fun i => R3.out.frozen i
  go_wp2
  refine bodyPost_ret (v := .tuple #[.agg #[.int .i64 ((hs - b + x)), .int .i64 ((hs + b + y))], .int .i64 0]) (by simp [results, Tryz.results53, go_sem, *]; done) rfl ⟨rfl, ?_⟩
  exact (b3.out.setCell (by first | exact Nat.le_refl _ | (simp; done) | (simp; omega) | (simp only []; omega)) _).setCell (by first | exact Nat.le_refl _ | (simp; done) | (simp; omega) | (simp only []; omega)) _
end Go.Proofs.YtbpnacacnncopaaGreatDoor
namespace Go.Proofs.YtbpnacacnncopaaGreatDoor
open Go.RowKit
theorem min_e (x y : Int) : (if y < x then y else x) = min x y := by rw [Int.min_def]; split <;> split <;> omega
theorem max_e (x y : Int) : (if y > x then y else x) = max x y := by rw [Int.max_def]; split <;> split <;> omega
@[go_sem high] theorem run_min4 {P : Program} (w : World) (ts : Array TypeId) (t : TypeId) (x y z u : Int) :
    (Builtin.min_ ts t #[.int .i64 x, .int .i64 y, .int .i64 z, .int .i64 u]).run P w = .ok (.int .i64 (min x (min y (min z u)))) w := by
  simp [Builtin.min_, Builtin.min2, min_e, Int.min_assoc]
@[go_sem high] theorem run_max4 {P : Program} (w : World) (ts : Array TypeId) (t : TypeId) (x y z u : Int) :
    (Builtin.max_ ts t #[.int .i64 x, .int .i64 y, .int .i64 z, .int .i64 u]).run P w = .ok (.int .i64 (max x (max y (max z u)))) w := by
  simp [Builtin.max_, Builtin.max2, max_e, Int.max_assoc]
set_option maxHeartbeats 4000000 in
theorem fMul_any (a b c d : Int) (w : World) (h : fvB a b = true) (g : fvB c d = true) : Calls Tryz.prog 150 #[.agg #[.int .i64 a, .int .i64 b], .agg #[.int .i64 c, .int .i64 d]] w fun e w' => e = .returned (fitV (min (a * c) (min (a * d) (min (b * c) (b * d))) / 1073741824) (-(-(max (a * c) (max (a * d) (max (b * c) (b * d)))) / 1073741824))) ∧ Below w.heap.size w w' := by
  have KB := Lib.hid (fun W => both_any a b c d W h g)
  rw [fv_iff] at h g
  have m1 := mul_bd31 (a := a) (b := c) (by omega) (by omega) (by omega) (by omega)
  have m2 := mul_bd31 (a := a) (b := d) (by omega) (by omega) (by omega) (by omega)
  have m3 := mul_bd31 (a := b) (b := c) (by omega) (by omega) (by omega) (by omega)
  have m4 := mul_bd31 (a := b) (b := d) (by omega) (by omega) (by omega) (by omega)
  have s1 : wrap64 (a * c) = a * c := IntWalk.wrap64_in _ (by omega)
  have s2 : wrap64 (a * d) = a * d := IntWalk.wrap64_in _ (by omega)
  have s3 : wrap64 (b * c) = b * c := IntWalk.wrap64_in _ (by omega)
  have s4 : wrap64 (b * d) = b * d := IntWalk.wrap64_in _ (by omega)
  clear h g
  obtain ⟨x, hx⟩ : ∃ p, a * c = p := ⟨_, rfl⟩
  obtain ⟨y, hy⟩ : ∃ p, a * d = p := ⟨_, rfl⟩
  obtain ⟨z, hz⟩ : ∃ p, b * c = p := ⟨_, rfl⟩
  obtain ⟨u, hu⟩ : ∃ p, b * d = p := ⟨_, rfl⟩
  rw [hx] at s1 m1 ⊢
  rw [hy] at s2 m2 ⊢
  rw [hz] at s3 m3 ⊢
  rw [hu] at s4 m4 ⊢
  have KL := Lib.hid (fun W => ffloor_any (min x (min y (min z u))) W (by omega) (by omega))
  have KC := Lib.hid (fun W => fceil_any (max x (max y (max z u))) W (by omega) (by omega))
  clear m1 m2 m3 m4
  generalize hl : min x (min y (min z u)) / 1073741824 = p at *
  generalize hh : -(-(max x (max y (max z u))) / 1073741824) = q at *
  clear hl hh
  have KF := Lib.hid (fun W => ffit_any p q W)
  unfold fitV at *
  generalize fvB p q = s at *
  cases s
  all_goals
    simp only [Bool.false_eq_true, if_false, if_true] at *
    go_enter Tryz.func150, Tryz.ntmps150
    go_wp2_with fail
    (with_reducible refine (KB.out _).mono ?_)
    rintro e w1 ⟨rfl, hb1⟩
    obtain ⟨hbl1, A1, B1, C1⟩ := three_D2 hb1
    replace C1 := Lib.hid C1
    obtain ⟨at1, a1, a2, af1, af2⟩ := A1
    obtain ⟨bt1, b1, b2, bf1, bf2⟩ := B1
    clear hb1
    go_wp2
    go_quiet (fail)
    go_wp2_with fail
    (with_reducible refine (KL.out _).mono ?_)
    rintro e w3 ⟨rfl, rfl⟩
    go_wp2_with fail
    (with_reducible refine (KC.out _).mono ?_)
    rintro e w4 ⟨rfl, rfl⟩
    go_wp2_with fail
    (with_reducible refine (KF.out _).mono ?_)
    rintro e w2 ⟨rfl, hb2⟩
    rename_i nq _ _ _ _
    have hb3 := (bl_drewN (Below.refl _ w1) nq).trans hb2
    have hbl2 := hbl1.trans (hb3.mono hbl1.size)
    have R2 := Lib.hid (C1.out.below hb3 C1.out.lt)
    obtain ⟨rt, r0, r1, rf0, rf1⟩ := R2.out
    clear hb2 hb3
    go_wp2
    first
      | refine bodyPost_ret (v := .tuple #[.agg #[.int .i64 p, .int .i64 q], .int .i64 0]) (by simp [results, Tryz.results150, go_sem, *]; done) rfl ⟨rfl, ?_⟩
      | refine bodyPost_ret (v := .tuple #[.agg #[.int .i64 0, .int .i64 0], .int .i64 5]) (by simp [results, Tryz.results150, go_sem, *]; done) rfl ⟨rfl, ?_⟩
    exact (hbl2.setCell (by simp; omega) _).setCell (by simp; omega) _
end Go.Proofs.YtbpnacacnncopaaGreatDoor
