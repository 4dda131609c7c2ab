/- The clock: clock, At, Parse. -/
import Derived.Deep.Cut
import Derived.Deep.CutRange
import Derived.BigQuiet
import Derived.Test.YtbpnacacnncopaaGreatDoorHXc
import Derived.Test.YtbpnacacnncopaaGreatDoorHTm
import Derived.Test.YtbpnacacnncopaaGreatDoorHIc
import Derived.Test.YtbpnacacnncopaaGreatDoorHIa
set_option linter.unusedVariables false
set_option linter.unusedSimpArgs false
namespace Go.Proofs.YtbpnacacnncopaaGreatDoor
open Go.RowKit Go.Shelf Frm
open Lib (decDigits)
def fitB (n : Int) : Bool := decide (-1099511627776 ≤ n ∧ n ≤ 1099511627776)
set_option maxHeartbeats 400000 in
theorem fitsI_any (n : Int) (w : World) : Calls Tryz.prog 67 #[.int .i64 n] w fun e w' => e = .returned (.bool (fitB n)) ∧ w' = w := by
  unfold fitB
  by_cases h0 : -1099511627776 ≤ n
  · have d0 : decide (-1099511627776 ≤ n) = true := decide_eq_true h0
    go_enter Tryz.func67, Tryz.ntmps67
    go_wp2
    go_ret
    exact ⟨by simp [h0], rfl⟩
  · have d0 : decide (-1099511627776 ≤ n) = false := decide_eq_false h0
    go_enter Tryz.func67, Tryz.ntmps67
    go_wp2
    go_ret
    exact ⟨by simp, rfl⟩
/-- what Parse returns behind its checks -/
theorem endP_eq (neg : Bool) (d m t : Nat) (hd : d ≤ 1099511627776) : endP neg d m t = if fitB ((d * 60000 + m * 1000 + t : Nat) : Int) = true then (if neg = true then -((d * 60000 + m * 1000 + t : Nat) : Int) else ((d * 60000 + m * 1000 + t : Nat) : Int), 0) else (0, 5) := by
  unfold endP fitB
  rw [if_neg (by omega)]
  generalize d * 60000 + m * 1000 + t = z
  by_cases h : 1099511627776 < z
  · have hd2 : ¬ decide (-1099511627776 ≤ (z : Int) ∧ (z : Int) ≤ 1099511627776) = true := by rw [decide_eq_true_eq]; omega
    rw [if_pos h, if_neg hd2]
  · have hd2 : decide (-1099511627776 ≤ (z : Int) ∧ (z : Int) ≤ 1099511627776) = true := decide_eq_true (by omega)
    rw [if_neg h, if_pos hd2]
/-- what is known of a line's parts -/
structure PrsOk (s D M P : Bs) (ok pt : Bool) (neg : Bool) : Prop where
  lD : D.length ≤ 1000
  lM : M.length ≤ 1000
  lP : P.length ≤ 1000
  val : parseP s = if pt = true ∧ ((digP P).2 = false ∨ 3 < P.length) then (0, 7)
    else if ok = false ∨ (digP D).2 = false ∨ (digP M).2 = false ∨ (1 < D.length ∧ D.head? = some 48) ∨ M.length ≠ 2 ∨ 60 ≤ (digP M).1 then (0, 7)
    else endP neg (digP D).1 (digP M).1 (if pt = true then (digP P).1 * 10 ^ (3 - P.length) else 0)
set_option maxHeartbeats 4000000 in
set_option maxRecDepth 100000 in
theorem parse_any (s : Bs) (w : World) (hl : s.length ≤ 1000) (hm : Mx w) :
    Calls Tryz.prog 85 #[tx s] w fun e w' => e = .returned (.tuple #[.int .i64 (parseP s).1, .int .i64 (parseP s).2]) ∧ Below w.heap.size w w' := by
  have K0 := cutPrefix_tx s [45] w
  have h0 := trim_len s [45]
  have hPO : ∀ D R M P ok pt, Lib.cut (Lib.trimPrefix s [45]) [45] = (D, R, ok) → Lib.cut R [46] = (M, P, pt) → PrsOk s D M P ok pt (Lib.hasPrefix s [45]) := fun D R M P ok pt e1 e2 => by
    have a1 := cut_len (Lib.trimPrefix s [45]) [45]
    have a2 := cut_len R [46]
    rw [e1] at a1
    rw [e2] at a2
    simp only [] at a1 a2
    refine ⟨by omega, by omega, by omega, ?_⟩
    unfold parseP
    simp only [e1, e2]
  generalize Lib.trimPrefix s [45] = b at K0 h0 hPO
  generalize Lib.hasPrefix s [45] = neg at K0 hPO
  have hlb : b.length ≤ 1000 := by omega
  have K1 := cut_tx b [45] w (by omega) hm
  have a1 := cut_len b [45]
  obtain ⟨⟨D, R, ok⟩, hc1⟩ : ∃ x, Lib.cut b [45] = x := ⟨_, rfl⟩
  rw [hc1] at K1 a1
  simp only [] at K1 a1
  have K2 := Lib.hid (fun (W : World) (h : Below w.heap.size w W) => cut_tx R [46] W (by omega) (hm.stays h))
  obtain ⟨⟨M, P, pt⟩, hc2⟩ : ∃ x, Lib.cut R [46] = x := ⟨_, rfl⟩
  rw [hc2] at K2
  simp only [] at K2
  have PO := Lib.hid (hPO D R M P ok pt hc1 hc2)
  replace K0 := Lib.hid K0
  replace K1 := Lib.hid K1
  have KD := Lib.hid (fun W => digits_any D W PO.out.lD)
  have KM := Lib.hid (fun W => digits_any M W PO.out.lM)
  have KP := Lib.hid (fun W => digits_any P W PO.out.lP)
  have lD := PO.out.lD
  have lM := PO.out.lM
  have lP := PO.out.lP
  have VV := Lib.hid PO.out.val
  have bD := digP_le D
  have bM := digP_le M
  have bP := digP_le P
  have sD := tx_size D
  have sM := tx_size M
  have sP := tx_size P
  clear hPO hc1 hc2 hm a1 h0 hlb hl PO
  obtain ⟨⟨d, da⟩, hd⟩ : ∃ x, digP D = x := ⟨_, rfl⟩
  obtain ⟨⟨m, mb⟩, hmm⟩ : ∃ x, digP M = x := ⟨_, rfl⟩
  obtain ⟨⟨t, tc⟩, ht⟩ : ∃ x, digP P = x := ⟨_, rfl⟩
  rw [hd] at KD VV bD
  rw [hmm] at KM VV bM
  rw [ht] at KP VV bP
  simp only [] at KD KM KP bD bM bP VV
  clear hd hmm ht
  generalize parseP s = res at VV ⊢
  go_enter Tryz.func85, Tryz.ntmps85
  clear bD bM sD sM sP
  go_wp2_with fail
  (with_reducible refine (K0.out).mono ?_)
  rintro e w1 ⟨rfl, rfl⟩
  go_wp2_with fail
  (with_reducible refine (K1.out).mono ?_)
  rintro e w2 ⟨rfl, hb2⟩
  have B2 := Lib.hid hb2
  have K3 := Lib.hid (K2.out w2 hb2)
  clear hb2 K0 K1 K2
  go_wp2_with fail
  (with_reducible refine (K3.out).mono ?_)
  rintro e w3 ⟨rfl, hb3⟩
  have B3 := Lib.hid (B2.out.trans (hb3.mono B2.out.size))
  clear hb3 K3 B2
  go_wp2_with fail
  (with_reducible refine (KD.out _).mono ?_)
  rintro e w4 ⟨rfl, hb4⟩
  have B4 := Lib.hid (B3.out.trans (hb4.mono B3.out.size))
  clear hb4 KD B3
  go_wp2_with fail
  (with_reducible refine (KM.out _).mono ?_)
  rintro e w5 ⟨rfl, hb5⟩
  have B5 := Lib.hid (B4.out.trans (hb5.mono B4.out.size))
  clear hb5 KM B4
  obtain ⟨T, hT⟩ : ∃ T : Nat, (if pt = true then t * 10 ^ (3 - P.length) else 0) = T := ⟨_, rfl⟩
  have VT := VV.out
  rw [hT] at VT
  have VV := Lib.hid VT
  clear VT
  go_upto_if 46 with (fail)
  go_cut [16] from 46 to 111 (fun s16 wx => s16 = .int .i64 (T : Int) ∧ Below w1.heap.size w1 wx ∧ ¬ (pt = true ∧ (tc = false ∨ 3 < P.length)))
  case first =>
    cases pt with
    | true =>
      go_wp2_with fail
      (with_reducible refine (KP.out _).mono ?_)
      rintro e w6 ⟨rfl, hb6⟩
      have B6 := Lib.hid (B5.out.trans (hb6.mono B5.out.size))
      clear hb6 KP B5
      cases tc with
      | false =>
        obtain rfl : res = (0, 7) := by have := VV.out; simpa using this
        clear VV hT
        go_wp2
        go_ret2
        exact ⟨rfl, B6.out⟩
      | true =>
      by_cases h3 : 3 < P.length
      · obtain rfl : res = (0, 7) := by have := VV.out; simpa [h3] using this
        have d3 : decide ((3 : Int) < (P.length : Int)) = true := decide_eq_true (by omega)
        clear VV hT
        go_wp2
        go_ret2
        exact ⟨rfl, B6.out⟩
      have d3 : decide ((3 : Int) < (P.length : Int)) = false := decide_eq_false (by omega)
      obtain ⟨r, hr⟩ : ∃ r : Nat, 3 - P.length = r := ⟨_, rfl⟩
      have hr2 : (3 : Int) - (P.length : Int) = (r : Int) := by omega
      have r3 : r ≤ 3 := by omega
      have hT2 : t * 10 ^ r = T := by rw [← hT]; simp [hr]
      have HT2 := Lib.hid hT2
      have H3 := Lib.hid h3
      clear hT hT2 hr h3
      go_wp2
      go_loopg [16, 62] r (fun gz s16 s62 wr => ∃ j : Nat, j ≤ r ∧ r - j ≤ gz ∧ s62 = .int .i64 (j : Int) ∧ s16 = .int .i64 ((t * 10 ^ j : Nat) : Int) ∧ wr = w6)
      case atStart => exact ⟨0, Nat.zero_le _, by omega, rfl, by simp, rfl⟩
      case round =>
        obtain ⟨j, hj, hg, rfl, rfl, rfl⟩ := hrel
        have hpw : 10 ^ j ≤ 10 ^ 3 := Nat.pow_le_pow_right (by decide) (by omega)
        have hub : t * 10 ^ j ≤ 1125899906842624 * 1000 := Nat.mul_le_mul bP hpw
        obtain ⟨u, hu⟩ : ∃ u, t * 10 ^ j = u := ⟨_, rfl⟩
        rw [hu] at hub ⊢
        by_cases hlt : j < r
        · have dj : decide ((j : Int) < (r : Int)) = true := decide_eq_true (by omega)
          have hnx : ((u : Int)) * 10 = ((t * 10 ^ (j + 1) : Nat) : Int) := by rw [Nat.pow_succ, ← Nat.mul_assoc, hu]; omega
          have HNX := Lib.hid hnx
          have hpw2 : 10 ^ j ≤ 10 ^ 2 := Nat.pow_le_pow_right (by decide) (by omega)
          have hub2 : t * 10 ^ j ≤ 1125899906842624 * 100 := Nat.mul_le_mul bP hpw2
          rw [hu] at hub2
          have hw9 : wrap64 ((u : Int) * 10) = (u : Int) * 10 := IntWalk.wrap64_in _ (by omega)
          clear hnx
          go_wp2
          go_roundg (r - (j + 1))
          case measure => omega
          case rel => exact ⟨j + 1, by omega, by omega, by go_num, congrArg (Value.int .i64) HNX.out, rfl⟩
        · obtain rfl : j = r := by omega
          have dj : decide ((j : Int) < (j : Int)) = false := decide_eq_false (by omega)
          have HU := Lib.hid hu
          clear hu hpw
          go_wp2_with fail
          go_meet
          case rel => exact ⟨congrArg (fun n : Nat => Value.int .i64 (n : Int)) (HU.out.symm.trans HT2.out), B6.out, fun h => h.2.elim (fun q => by cases q) (fun q => H3.out q)⟩
    | false =>
      go_wp2_with fail
      go_meet
      case rel => exact ⟨by rw [← hT]; rfl, B5.out, fun h => by cases h.1⟩
  case rest =>
  obtain ⟨rfl, hbc, hnp⟩ := hcut
  have BC := Lib.hid hbc
  have VT := VV.out
  rw [if_neg hnp] at VT
  have tT : T ≤ 1125899906842624 * 1000 := by
    rw [← hT]
    split
    · exact Nat.mul_le_mul bP (Nat.pow_le_pow_right (by decide) (by omega) : 10 ^ (3 - P.length) ≤ 10 ^ 3)
    · omega
  have bD := digP_le D
  have VV := Lib.hid VT
  clear hbc hnp hT VT KP B5 lP bP
  obtain ⟨bad, hbad⟩ : ∃ bad : Bool, (bad = true ↔ (ok = false ∨ da = false ∨ mb = false ∨ (1 < D.length ∧ D.head? = some 48) ∨ M.length ≠ 2 ∨ 60 ≤ m)) := ⟨decide (ok = false ∨ da = false ∨ mb = false ∨ (1 < D.length ∧ D.head? = some 48) ∨ M.length ≠ 2 ∨ 60 ≤ m), decide_eq_true_iff⟩
  have HB := Lib.hid hbad
  clear hbad
  go_upto_region 16 with (fail)
  go_cut [95] from 67 to 111 (fun c wx => c = .bool bad ∧ wx = wc)
  case first =>
    clear VV BC
    cases ok with
    | false =>
      obtain rfl : bad = true := HB.out.2 (by simp)
      clear HB
      go_wp2_with fail
      go_meet
      case rel => exact ⟨rfl, rfl⟩
    | true =>
    cases da with
    | false =>
      obtain rfl : bad = true := HB.out.2 (by simp)
      clear HB
      go_wp2_with fail
      go_meet
      case rel => exact ⟨rfl, rfl⟩
    | true =>
    cases mb with
    | false =>
      obtain rfl : bad = true := HB.out.2 (by simp)
      clear HB
      go_wp2_with fail
      go_meet
      case rel => exact ⟨rfl, rfl⟩
    | true =>
    cases D with
    | nil =>
      have dl : decide ((1 : Int) < 0) = false := by decide
      by_cases hM : M.length = 2
      · have hM1 : ((M.length : Int) != 2) = false := by rw [hM]; rfl
        by_cases h60 : 60 ≤ m
        · have d6 : decide ((60 : Int) ≤ (m : Int)) = true := decide_eq_true (by omega)
          obtain rfl : bad = true := HB.out.2 (by simp [h60])
          clear HB hM h60
          go_wp2_with fail
          go_meet
          case rel => exact ⟨rfl, rfl⟩
        · have d6 : decide ((60 : Int) ≤ (m : Int)) = false := decide_eq_false (by omega)
          obtain rfl : bad = false := by cases bad with | false => rfl | true => (have := HB.out.1 rfl; simp at this; omega)
          clear HB hM h60
          go_wp2_with fail
          go_meet
          case rel => exact ⟨rfl, rfl⟩
      · have hM1 : ((M.length : Int) != 2) = true := by simp; omega
        obtain rfl : bad = true := HB.out.2 (by simp [hM])
        clear HB hM
        go_wp2_with fail
        go_meet
        case rel => exact ⟨rfl, rfl⟩
    | cons x D' =>
      have hl2 : (x :: D').length = D'.length + 1 := rfl
      have g0 := getB (s := x :: D') (k := 0) (c := x) rfl
      by_cases hl1 : 1 < (x :: D').length
      · have dl : decide ((1 : Int) < (D'.length : Int) + 1) = true := decide_eq_true (by omega)
        by_cases hc : x = 48
        · subst hc
          clear hl2
          obtain rfl : bad = true := HB.out.2 (.inr (.inr (.inr (.inl ⟨hl1, rfl⟩))))
          clear HB hl1
          go_wp2_with fail
          go_meet
          case rel => exact ⟨rfl, rfl⟩
        · have hcn : x.toNat ≠ 48 := fun h => hc (UInt8.toNat_inj.1 h)
          have hc2 : ((x.toNat : Int) == 48) = false := by simp; omega
          by_cases hM : M.length = 2
          · have hM1 : ((M.length : Int) != 2) = false := by rw [hM]; rfl
            by_cases h60 : 60 ≤ m
            · have d6 : decide ((60 : Int) ≤ (m : Int)) = true := decide_eq_true (by omega)
              obtain rfl : bad = true := HB.out.2 (by simp [h60])
              clear HB hM h60 hl1 hl2 hc hcn
              go_wp2_with fail
              go_meet
              case rel => exact ⟨rfl, rfl⟩
            · have d6 : decide ((60 : Int) ≤ (m : Int)) = false := decide_eq_false (by omega)
              obtain rfl : bad = false := by cases bad with | false => rfl | true => (have := HB.out.1 rfl; simp [hc] at this; omega)
              clear HB hM h60 hl1 hl2 hc hcn
              go_wp2_with fail
              go_meet
              case rel => exact ⟨rfl, rfl⟩
          · have hM1 : ((M.length : Int) != 2) = true := by simp; omega
            obtain rfl : bad = true := HB.out.2 (by simp [hM])
            clear HB hM hl1 hl2 hc hcn
            go_wp2_with fail
            go_meet
            case rel => exact ⟨rfl, rfl⟩
      · have dl : decide ((1 : Int) < (D'.length : Int) + 1) = false := decide_eq_false (by omega)
        by_cases hM : M.length = 2
        · have hM1 : ((M.length : Int) != 2) = false := by rw [hM]; rfl
          by_cases h60 : 60 ≤ m
          · have d6 : decide ((60 : Int) ≤ (m : Int)) = true := decide_eq_true (by omega)
            obtain rfl : bad = true := HB.out.2 (by simp [h60])
            clear HB hM h60 hl1 hl2
            go_wp2_with fail
            go_meet
            case rel => exact ⟨rfl, rfl⟩
          · have d6 : decide ((60 : Int) ≤ (m : Int)) = false := decide_eq_false (by omega)
            obtain rfl : bad = false := by cases bad with | false => rfl | true => (rcases HB.out.1 rfl with h | h | h | ⟨h, _⟩ | h | h; cases h; cases h; cases h; exact absurd h hl1; exact absurd hM h; omega)
            clear HB hM h60 hl1 hl2
            go_wp2_with fail
            go_meet
            case rel => exact ⟨rfl, rfl⟩
        · have hM1 : ((M.length : Int) != 2) = true := by simp; omega
          obtain rfl : bad = true := HB.out.2 (by simp [hM])
          clear HB hM hl1 hl2
          go_wp2_with fail
          go_meet
          case rel => exact ⟨rfl, rfl⟩
  case rest =>
  obtain ⟨rfl, rfl⟩ := hcut
  have hcond : (ok = false ∨ da = false ∨ mb = false ∨ (1 < D.length ∧ D.head? = some 48) ∨ M.length ≠ 2 ∨ 60 ≤ m) ↔ bad = true := HB.out.symm
  have VT := VV.out
  clear VV HB
  cases bad with
  | true =>
    rw [if_pos (hcond.2 rfl)] at VT
    subst VT
    clear hcond
    go_wp2
    go_ret2
    exact ⟨rfl, BC.out⟩
  | false =>
  have hm60 : m < 60 := by
    rcases Nat.lt_or_ge m 60 with h | h
    · exact h
    · exact absurd (hcond.1 (.inr (.inr (.inr (.inr (.inr h)))))) (by simp)
  rw [if_neg (fun h => by simpa using hcond.1 h)] at VT
  clear hcond
  by_cases hd : d ≤ 1099511627776
  · have d7 : decide ((1099511627776 : Int) < (d : Int)) = false := decide_eq_false (by omega)
    rw [endP_eq _ _ _ _ hd] at VT
    have hz1 : wrap64 ((d : Int) * 60000) = (d : Int) * 60000 := IntWalk.wrap64_in _ (by omega)
    have hz2 : wrap64 ((m : Int) * 1000) = (m : Int) * 1000 := IntWalk.wrap64_in _ (by omega)
    have hz3 : wrap64 ((d : Int) * 60000 + (m : Int) * 1000) = (d : Int) * 60000 + (m : Int) * 1000 := IntWalk.wrap64_in _ (by omega)
    have hz4 : wrap64 ((d : Int) * 60000 + (m : Int) * 1000 + (T : Int)) = (d : Int) * 60000 + (m : Int) * 1000 + (T : Int) := IntWalk.wrap64_in _ (by omega)
    have hzc : ((d * 60000 + m * 1000 + T : Nat) : Int) = (d : Int) * 60000 + (m : Int) * 1000 + (T : Int) := by omega
    rw [hzc] at VT
    have hzb : 0 ≤ (d : Int) * 60000 + (m : Int) * 1000 + (T : Int) ∧ (d : Int) * 60000 + (m : Int) * 1000 + (T : Int) ≤ 9000000000000000000 := by omega
    have w2' : wrap64 (-((d : Int) * 60000 + (m : Int) * 1000 + (T : Int))) = -((d : Int) * 60000 + (m : Int) * 1000 + (T : Int)) := IntWalk.wrap64_in _ (by omega)
    have KZ := fun W => fitsI_any ((d : Int) * 60000 + (m : Int) * 1000 + (T : Int)) W
    clear hzc
    cases hf : fitB ((d : Int) * 60000 + (m : Int) * 1000 + (T : Int)) with
    | false =>
      rw [hf] at KZ VT
      simp only [Bool.false_eq_true, if_false] at VT
      subst VT
      replace KZ := Lib.hid KZ
      clear hf
      go_wp2_with fail
      (with_reducible refine (KZ.out _).mono ?_)
      rintro e w9 ⟨rfl, rfl⟩
      go_wp2
      go_ret2
      exact ⟨rfl, BC.out⟩
    | true =>
      rw [hf] at KZ VT
      simp only [if_true] at VT
      replace KZ := Lib.hid KZ
      clear hf
      cases neg with
      | true =>
        simp only [if_true] at VT
        subst VT
        go_wp2_with fail
        (with_reducible refine (KZ.out _).mono ?_)
        rintro e w9 ⟨rfl, rfl⟩
        go_wp2
        go_ret2
        exact ⟨rfl, BC.out⟩
      | false =>
        simp only [Bool.false_eq_true, if_false] at VT
        subst VT
        go_wp2_with fail
        (with_reducible refine (KZ.out _).mono ?_)
        rintro e w9 ⟨rfl, rfl⟩
        go_wp2
        go_ret2
        exact ⟨rfl, BC.out⟩
  · have d7 : decide ((1099511627776 : Int) < (d : Int)) = true := decide_eq_true (by omega)
    have VU : (0, 5) = res := by rw [VT]; unfold endP; rw [if_pos (by omega)]
    clear VT
    subst VU
    go_wp2
    go_ret2
    exact ⟨rfl, BC.out⟩
end Go.Proofs.YtbpnacacnncopaaGreatDoor
namespace Go.Proofs.YtbpnacacnncopaaGreatDoor
open Go.RowKit Go.Shelf Frm
open Lib (decDigits)
theorem drop_step (l : Bs) {k : Nat} {c : UInt8} (h : l[k]? = some c) : l.drop k = c :: l.drop (k + 1) := by
  obtain ⟨hk, rfl⟩ := List.getElem?_eq_some_iff.1 h
  exact List.drop_eq_getElem_cons hk
set_option maxHeartbeats 2000000 in
set_option maxRecDepth 100000 in
theorem numB_any (l : Bs) (c lim : Nat) (w : World) (hl : l.length ≤ 1000000) (h1 : c ≤ 10) (h2 : lim ≤ 1000) :
    Calls Tryz.prog 176 #[tx l, .int .i64 c, .int .i64 lim] w fun e w' => e = .returned (.tuple #[.int .i64 ((CT.numb l c lim).1 : Nat), .bool (CT.numb l c lim).2]) ∧ w' = w := by
  obtain ⟨p, hp⟩ : ∃ p, CT.numb l c lim = p := ⟨_, rfl⟩
  rw [hp]
  have HP := Lib.hid hp
  have hsz := tx_size l
  obtain ⟨n, hn⟩ : ∃ n, l.length = n := ⟨_, rfl⟩
  rw [hn] at hsz hl
  have HN := Lib.hid hn
  clear hp hn
  go_enter Tryz.func176, Tryz.ntmps176
  go_wp2
  go_loopg [8, 12] n (fun gz s8 s12 wr => ∃ k v : Nat, k ≤ n ∧ n - k ≤ gz ∧ v ≤ 1000 ∧ s12 = .int .i64 (k : Int) ∧ s8 = .int .i64 (v : Int) ∧ CT.goN l 0 = CT.goN (l.drop k) v ∧ wr = w)
  case atStart => exact ⟨0, 0, Nat.zero_le _, by omega, by omega, rfl, rfl, rfl, rfl⟩
  case round =>
    obtain ⟨k, v, hk, hg, hv, rfl, rfl, hgo, rfl⟩ := hrel
    have HG := Lib.hid hgo
    clear hgo
    by_cases hlt : k < n
    · have d9 : decide ((k : Int) < (n : Int)) = true := decide_eq_true (by omega)
      obtain ⟨z8, hz8⟩ : ∃ z, l[k]? = some z := ⟨_, List.getElem?_eq_getElem (by rw [HN.out]; exact hlt)⟩
      have g0 := getB hz8
      have hst := drop_step l hz8
      have hG2 := HG.out
      rw [hst] at hG2
      unfold CT.goN at hG2
      obtain ⟨z, hz⟩ : ∃ z, z8.toNat = z := ⟨_, rfl⟩
      have hz2 : z < 256 := by have := z8.toNat_lt; omega
      rw [hz] at hG2
      by_cases hd : 48 ≤ z ∧ z ≤ 57
      · have hdc : isD z8 = true := by unfold isD; rw [hz]; simp; omega
        rw [if_pos hdc] at hG2
        have d0 : decide ((z : Int) < 48) = false := decide_eq_false (by omega)
        have d1 : decide ((57 : Int) < (z : Int)) = false := decide_eq_false (by omega)
        have hz3 : ((z8.toNat : Nat) : Int) = (z : Int) := by omega
        by_cases hbig : 1000 < 10 * v + (z - 48)
        · rw [if_pos hbig] at hG2
          have d2 : decide ((1000 : Int) < 10 * (v : Int) + ((z : Int) - 48)) = true := decide_eq_true (by omega)
          have hr : p = (0, false) := by
            rw [← HP.out]; unfold CT.numb
            have q : CT.goN l 0 = none := by
              have := HG.out
              rw [this, hst]; unfold CT.goN; rw [if_pos hdc, hz, if_pos hbig]
            rw [q]
          subst hr
          clear hG2 hbig hst HG HP hz8 hz hdc
          go_wp2
          go_ret2
          exact ⟨rfl, rfl⟩
        · rw [if_neg hbig] at hG2
          have d2 : decide ((1000 : Int) < 10 * (v : Int) + ((z : Int) - 48)) = false := decide_eq_false (by omega)
          have HG3 : Hid (CT.goN l 0 = CT.goN (l.drop (k + 1)) (10 * v + (z - 48))) := Lib.hid (by
            have := HG.out
            rw [hst] at this
            unfold CT.goN at this
            rw [if_pos hdc, hz, if_neg hbig] at this
            cases l with
            | nil => simp at hz8
            | cons a r => exact this)
          clear hG2 hst HG hz8 hz hdc
          go_wp2
          go_roundg (n - (k + 1))
          case measure => omega
          case rel => exact ⟨k + 1, 10 * v + (z - 48), by omega, by omega, by omega, by go_num, by go_num, HG3.out, rfl⟩
      · have hdc : isD z8 = false := by unfold isD; rw [hz]; simp; omega
        have hr : p = (0, false) := by
          rw [← HP.out]; unfold CT.numb
          have q : CT.goN l 0 = none := by
            have := HG.out
            rw [this, hst]; unfold CT.goN; rw [if_neg (by rw [hdc]; simp)]
          rw [q]
        subst hr
        have hz3 : ((z8.toNat : Nat) : Int) = (z : Int) := by omega
        rcases Nat.lt_or_ge z 48 with h1 | h1
        · have d0 : decide ((z : Int) < 48) = true := decide_eq_true (by omega)
          clear hG2 hst HG HP hz8 hz hdc hd
          go_wp2
          go_ret2
          exact ⟨rfl, rfl⟩
        · have d0 : decide ((z : Int) < 48) = false := decide_eq_false (by omega)
          have d1 : decide ((57 : Int) < (z : Int)) = true := decide_eq_true (by omega)
          clear hG2 hst HG HP hz8 hz hdc hd
          go_wp2
          go_ret2
          exact ⟨rfl, rfl⟩
    · obtain rfl : k = n := by omega
      have d9 : decide ((k : Int) < (k : Int)) = false := decide_eq_false (by omega)
      have hdr : l.drop k = [] := List.drop_eq_nil_of_le (by rw [HN.out]; exact Nat.le_refl _)
      have hp := HP.out
      unfold CT.numb at hp
      rw [HG.out, hdr] at hp
      simp only [CT.goN] at hp
      rw [HN.out] at hp
      subst hp
      clear HG HP hdr
      have e1 : ((k : Int) == (c : Int)) = decide (k = c) := by
        by_cases h : k = c
        · subst h; simp
        · rw [decide_eq_false h]; simp; omega
      have e2 : decide ((v : Int) < (lim : Int)) = decide (v < lim) := by
        by_cases h : v < lim
        · rw [decide_eq_true h, decide_eq_true (by omega)]
        · rw [decide_eq_false h, decide_eq_false (by omega)]
      obtain ⟨b1, hb1⟩ : ∃ b, decide (k = c) = b := ⟨_, rfl⟩
      obtain ⟨b2, hb2⟩ : ∃ b, decide (v < lim) = b := ⟨_, rfl⟩
      rw [hb1] at e1
      rw [hb2] at e2
      have HB := Lib.hid (show (decide (k = c) && decide (v < lim)) = (b1 && b2) by rw [hb1, hb2])
      clear hb1
      cases b1 <;> cases b2
      all_goals
        go_wp2
        go_ret2
        refine ⟨?_, rfl⟩
        have hq := HB.out
        first | (rw [hq]; rfl) | (simp_all; done)
end Go.Proofs.YtbpnacacnncopaaGreatDoor
namespace Go.Proofs.YtbpnacacnncopaaGreatDoor
open Go.RowKit
open LB (Bs Rec)
theorem ret_boo {a b : Bool} (h : a = b) : Ending.returned (.bool a) = .returned (.bool b) := by rw [h]
def insB (n : Int) : Bool := decide (-70368744177664 ≤ n ∧ n ≤ 70368744177664)
theorem instant_any (n : Int) (w : World) : Calls Tryz.prog 91 #[.int .i64 n] w fun e w' => e = .returned (.bool (insB n)) ∧ w' = w := by
  unfold insB
  go_enter Tryz.func91, Tryz.ntmps91
  go_wp2
  all_goals
    go_ret
    exact ⟨ret_boo (by first | rfl | (simp_all; done) | (simp_all; omega)), rfl⟩
def clkB (a b : Int) : Bool := decide (a ≤ b) && insB a && insB b
set_option maxHeartbeats 400000 in
theorem clock_any (lo hi : Int) (w : World) : Calls Tryz.prog 49 #[tiv lo hi] w fun e w' => e = .returned (.bool (clkB lo hi)) ∧ Below w.heap.size w w' := by
  have KL := Lib.hid (fun W => instant_any lo W)
  have KH := Lib.hid (fun W => instant_any hi W)
  unfold clkB
  generalize insB lo = s at *
  generalize insB hi = t at *
  by_cases h : lo ≤ hi
  · have d : decide (lo ≤ hi) = true := decide_eq_true h
    rw [d]
    cases s
    · go_enter Tryz.func49, Tryz.ntmps49
      go_wp2_with (go_at_call 91; (with_reducible refine (KL.out _).mono ?_); rintro e w9 ⟨rfl, rfl⟩)
      go_ret
      refine ⟨rfl, ?_⟩
      repeat (first | exact Below.refl _ _ | assumption | refine bl_drew ?_ | refine bl_drewN ?_ _ | refine Below.setCell ?_ (by first | assumption | omega | (simp; done) | (simp; omega)) _ | refine Below.alloc ?_ (by first | assumption | omega | (simp; done) | (simp; omega)) _)
    · cases t
      all_goals
        go_enter Tryz.func49, Tryz.ntmps49
        go_wp2_with (go_at_call 91; (first | (with_reducible refine (KL.out _).mono ?_) | (with_reducible refine (KH.out _).mono ?_)); rintro e w9 ⟨rfl, rfl⟩)
        go_ret
        refine ⟨rfl, ?_⟩
        repeat (first | exact Below.refl _ _ | assumption | refine bl_drew ?_ | refine bl_drewN ?_ _ | refine Below.setCell ?_ (by first | assumption | omega | (simp; done) | (simp; omega)) _ | refine Below.alloc ?_ (by first | assumption | omega | (simp; done) | (simp; omega)) _)
  · have d : decide (lo ≤ hi) = false := decide_eq_false h
    rw [d]
    go_enter Tryz.func49, Tryz.ntmps49
    go_wp2
    go_ret
    refine ⟨rfl, ?_⟩
    repeat (first | exact Below.refl _ _ | assumption | refine bl_drew ?_ | refine bl_drewN ?_ _ | refine Below.setCell ?_ (by first | assumption | omega | (simp; done) | (simp; omega)) _ | refine Below.alloc ?_ (by first | assumption | omega | (simp; done) | (simp; omega)) _)
/-- a world that left what was there alone -/
structure BVl (w0 : World) where
  w : World
  hb : Below w0.heap.size w0 w
instance bvlSome (w0 : World) : Nonempty (BVl w0) := ⟨⟨w0, Below.refl _ _⟩⟩
end Go.Proofs.YtbpnacacnncopaaGreatDoor
namespace Go.Proofs.YtbpnacacnncopaaGreatDoor
open Go.RowKit Go.Shelf Frm
open Lib (decDigits)
theorem goN_le : ∀ (l : Bs) (n k : Nat), n ≤ 1000 → CT.goN l n = some k → k ≤ 1000
  | [], n, k, h, e => by unfold CT.goN at e; injection e with e; omega
  | c :: l, n, k, h, e => by
    unfold CT.goN at e
    split at e
    · split at e
      · cases e
      · exact goN_le l _ k (by omega) e
    · cases e
theorem numb_le (l : Bs) (c lim : Nat) : (CT.numb l c lim).1 ≤ 1000 := by
  unfold CT.numb
  cases h : CT.goN l 0 with
  | none => simp
  | some k => exact goN_le l 0 k (by omega) h
theorem cut_true {s a r : Bs} {x : UInt8} (h : Lib.cut s [x] = (a, r, true)) : s = a ++ x :: r := by
  by_cases hx : x ∈ s
  · obtain ⟨D, R, rfl, hD⟩ : ∃ D R, s = D ++ x :: R ∧ x ∉ D := by
      clear h
      induction s with
      | nil => simp at hx
      | cons c t iht =>
        by_cases hc : c = x
        · exact ⟨[], t, by rw [hc]; rfl, by simp⟩
        · rcases List.mem_cons.1 hx with e | e
          · exact absurd e.symm hc
          · obtain ⟨D, R, rfl, hD⟩ := iht e
            exact ⟨c :: D, R, rfl, fun e => by rcases List.mem_cons.1 e with e | e; exact hc e.symm; exact hD e⟩
    rw [cut_one (fun c hc (e : c = x) => hD (e ▸ hc))] at h
    cases h
    rfl
  · have : Lib.cut s [x] = (s, [], false) := by unfold Lib.cut; rw [SW.index_none x _ hx]; rfl
    rw [this] at h
    cases h
theorem splitk_any (s : Bs) (w : World) (hl : s.length ≤ 1000000) (he : En w) :
    Calls Tryz.prog 36 #[tx s, .string ⟨#[58]⟩] w fun e w' => e = .returned (.slice (some ⟨w.heap.size, 0, none⟩) (SW.wrd 58 s).length (SW.wrd 58 s).length) ∧ w' = w.alloc (.cells ((SW.wrd 58 s).map tx).toArray 9) := split_any s 58 w hl he
theorem wrd_len (x : UInt8) (s : Bs) : ∀ z ∈ SW.wrd x s, z.length ≤ s.length := by
  have key : ∀ (L : List Bs), ∀ z ∈ L, z.length ≤ (SW.jn x L).length := by
    intro L
    induction L with
    | nil => intro z hz; simp at hz
    | cons a L ih =>
      intro z hz
      cases L with
      | nil => simp at hz; subst hz; exact Nat.le_refl _
      | cons b L =>
        rw [SW.jn_cons x a (by simp)]
        rcases List.mem_cons.1 hz with rfl | hz
        · simp
        · have := ih z hz
          simp
          omega
  intro z hz
  have := key _ z hz
  rwa [SW.jn_wrd] at this
theorem clockV_no {a p : Bs} {has : Bool} (h : ¬ (SW.wrd 58 a).length = 3) : CT.clockV a p has = (0, false) := by
  unfold CT.clockV
  split
  · rename_i x y z he
    rw [he] at h
    exact absurd rfl h
  · rfl
theorem clockV_yes {a p x y z : Bs} {has : Bool} (h : SW.wrd 58 a = [x, y, z]) : CT.clockV a p has = ((((CT.numb x 2 24).1 * 60 + (CT.numb y 2 60).1) * 60 + (CT.numb z 2 60).1) * 1000 + (if has = true then (CT.numb p 3 1000).1 else 0),
      (CT.numb x 2 24).2 && (CT.numb y 2 60).2 && (CT.numb z 2 60).2 && (if has = true then (CT.numb p 3 1000).2 && decide (0 < (CT.numb p 3 1000).1) else true)) := by
  unfold CT.clockV
  rw [h]
set_option maxHeartbeats 4000000 in
set_option maxRecDepth 100000 in
theorem clockC_any (s : Bs) (w : World) (hl : s.length ≤ 1000) (he : En w) :
    Calls Tryz.prog 124 #[tx s] w fun e w' => e = .returned (.tuple #[.int .i64 ((CT.clockP s).1 : Nat), .bool (CT.clockP s).2]) ∧ Below w.heap.size w w' := by
  have K0 := cutx_any s 46 w (by omega) he
  have hcl := cut_len s [46]
  unfold CT.clockP
  obtain ⟨⟨a, p, has⟩, hc⟩ : ∃ z, Lib.cut s [46] = z := ⟨_, rfl⟩
  rw [hc] at K0 hcl ⊢
  simp only [] at K0 hcl ⊢
  have KC := Lib.hid K0
  have KS := Lib.hid (fun (W : World) (h : En W) => splitk_any a W (by omega) h)
  have hwl := wrd_len 58 a
  have cno := clockV_no (a := a) (p := p) (has := has)
  have cyes := fun x y z => clockV_yes (a := a) (p := p) (x := x) (y := y) (z := z) (has := has)
  obtain ⟨V, hV⟩ : ∃ V, CT.clockV a p has = V := ⟨_, rfl⟩
  obtain ⟨L, hL⟩ : ∃ L, SW.wrd 58 a = L := ⟨_, rfl⟩
  rw [hL, hV] at cno
  simp only [hL, hV] at cyes
  rw [hL] at KS hwl
  rw [hV]
  have HE := Lib.hid he
  clear K0 hc hL he hV
  by_cases h3 : L.length = 3
  case neg =>
    obtain ⟨m, hm⟩ : ∃ m, L.length = m := ⟨_, rfl⟩
    have d0 : ((m : Int) != 3) = true := by simp; omega
    obtain rfl := cno h3
    rw [hm] at KS
    clear h3 hm hwl hcl cno cyes
    go_enter Tryz.func124, Tryz.ntmps124
    go_wp2_with fail
    (with_reducible refine (KC.out).mono ?_)
    rintro e w1 ⟨rfl, hb⟩
    have E1 := Lib.hid (HE.out.bl hb)
    have b1 := Lib.hid hb
    clear hb
    go_wp2_with fail
    (with_reducible refine (KS.out _ E1.out).mono ?_)
    rintro e w2 ⟨rfl, rfl⟩
    go_wp2
    go_ret2
    exact ⟨rfl, b1.out.trans ((bl_alloc w1 _).mono b1.out.size)⟩
  case pos =>
    obtain ⟨x, y, z, rfl⟩ : ∃ x y z, L = [x, y, z] := by
      match L, h3 with
      | [x, y, z], _ => exact ⟨x, y, z, rfl⟩
    have lx := hwl x (by simp)
    have ly := hwl y (by simp)
    have lz := hwl z (by simp)
    have K1 := Lib.hid (fun (W : World) => numB_any x 2 24 W (by omega) (by omega) (by omega))
    have K2 := Lib.hid (fun (W : World) => numB_any y 2 60 W (by omega) (by omega) (by omega))
    have K3 := Lib.hid (fun (W : World) => numB_any z 2 60 W (by omega) (by omega) (by omega))
    have K4 := Lib.hid (fun (W : World) => numB_any p 3 1000 W (by omega) (by omega) (by omega))
    have n1 := numb_le x 2 24
    have n2 := numb_le y 2 60
    have n3 := numb_le z 2 60
    have n4 := numb_le p 3 1000
    have hcy := cyes x y z rfl
    clear cno cyes
    obtain ⟨⟨v1, b1⟩, e1⟩ : ∃ q, CT.numb x 2 24 = q := ⟨_, rfl⟩
    obtain ⟨⟨v2, b2⟩, e2⟩ : ∃ q, CT.numb y 2 60 = q := ⟨_, rfl⟩
    obtain ⟨⟨v3, b3⟩, e3⟩ : ∃ q, CT.numb z 2 60 = q := ⟨_, rfl⟩
    obtain ⟨⟨v4, b4⟩, e4⟩ : ∃ q, CT.numb p 3 1000 = q := ⟨_, rfl⟩
    rw [e1] at K1 n1 hcy
    rw [e2] at K2 n2 hcy
    rw [e3] at K3 n3 hcy
    rw [e4] at K4 n4 hcy
    simp only [] at K1 K2 K3 K4 n1 n2 n3 n4 hcy
    subst hcy
    clear e1 e2 e3 e4 lx ly lz hwl h3 hcl
    change Hid (∀ W, Calls Tryz.prog 176 #[tx x, .int .i64 2, .int .i64 24] W _) at K1
    change Hid (∀ W, Calls Tryz.prog 176 #[tx y, .int .i64 2, .int .i64 60] W _) at K2
    change Hid (∀ W, Calls Tryz.prog 176 #[tx z, .int .i64 2, .int .i64 60] W _) at K3
    change Hid (∀ W, Calls Tryz.prog 176 #[tx p, .int .i64 3, .int .i64 1000] W _) at K4
    go_enter Tryz.func124, Tryz.ntmps124
    go_wp2_with fail
    (with_reducible refine (KC.out).mono ?_)
    rintro e w1 ⟨rfl, hb⟩
    have E1 := Lib.hid (HE.out.bl hb)
    have b01 := Lib.hid hb
    clear hb
    have S2 := Lib.hid (Blk.new w1 9 #[tx x, tx y, tx z])
    have b02 := Lib.hid (b01.out.trans ((bl_alloc w1 (.cells #[tx x, tx y, tx z] 9)).mono b01.out.size))
    go_wp2_with fail
    (with_reducible refine (KS.out _ E1.out).mono ?_)
    rintro e w2 ⟨rfl, rfl⟩
    simp only [List.map_cons, List.map_nil]
    generalize w1.alloc (.cells #[tx x, tx y, tx z] 9) = w2 at *
    clear KC KS HE E1 b01
    have y0 : ∀ i, w2.cell? ⟨w1.heap.size, i, none⟩ = (#[tx x, tx y, tx z] : Array Value)[i]? := fun i => S2.out.cell i
    go_wp2_with fail
    (with_reducible refine (K1.out _).mono ?_)
    rintro e w3 ⟨rfl, rfl⟩
    go_wp2_with fail
    (with_reducible refine (K2.out _).mono ?_)
    rintro e w4 ⟨rfl, rfl⟩
    go_wp2_with fail
    (with_reducible refine (K3.out _).mono ?_)
    rintro e w5 ⟨rfl, rfl⟩
    clear K1 K2 K3
    cases has with
    | false =>
      simp only [Bool.false_eq_true, if_false, Nat.add_zero, Bool.and_true]
      generalize hN : ((v1 * 60 + v2) * 60 + v3) * 1000 = N
      have HN := Lib.hid hN
      clear hN
      cases b1 with
      | false =>
        go_wp2
        go_ret2
        refine ⟨?_, b02.out⟩
        have hq := HN.out
        exact congrArg (fun v : Int => Ending.returned (.tuple #[.int .i64 v, .bool false])) (by omega)
      | true =>
        cases b2 with
        | false =>
          go_wp2
          go_ret2
          refine ⟨?_, b02.out⟩
          have hq := HN.out
          exact congrArg (fun v : Int => Ending.returned (.tuple #[.int .i64 v, .bool false])) (by omega)
        | true =>
          cases b3 with
          | false =>
            go_wp2
            go_ret2
            refine ⟨?_, b02.out⟩
            have hq := HN.out
            exact congrArg (fun v : Int => Ending.returned (.tuple #[.int .i64 v, .bool false])) (by omega)
          | true =>
            go_wp2
            go_ret2
            refine ⟨?_, b02.out⟩
            have hq := HN.out
            exact congrArg (fun v : Int => Ending.returned (.tuple #[.int .i64 v, .bool true])) (by omega)
    | true =>
      simp only [if_true]
      generalize hN : ((v1 * 60 + v2) * 60 + v3) * 1000 + v4 = N
      have HN := Lib.hid hN
      clear hN
      go_wp2_with fail
      (with_reducible refine (K4.out _).mono ?_)
      rintro e w6 ⟨rfl, rfl⟩
      clear K4
      cases b1 with
      | false =>
        cases b4 with
        | false =>
          go_wp2
          go_ret2
          refine ⟨?_, b02.out⟩
          have hq := HN.out
          exact congrArg (fun v : Int => Ending.returned (.tuple #[.int .i64 v, .bool false])) (by omega)
        | true =>
          by_cases h0 : 0 < v4
          · have dd : decide (0 < v4) = true := decide_eq_true h0
            go_wp2
            go_ret2
            refine ⟨?_, b02.out⟩
            have hq := HN.out
            exact congrArg (fun v : Int => Ending.returned (.tuple #[.int .i64 v, .bool false])) (by omega)
          · have dd : decide (0 < v4) = false := decide_eq_false h0
            go_wp2
            go_ret2
            refine ⟨?_, b02.out⟩
            have hq := HN.out
            exact congrArg (fun v : Int => Ending.returned (.tuple #[.int .i64 v, .bool false])) (by omega)
      | true =>
        cases b2 with
        | false =>
          cases b4 with
          | false =>
            go_wp2
            go_ret2
            refine ⟨?_, b02.out⟩
            have hq := HN.out
            exact congrArg (fun v : Int => Ending.returned (.tuple #[.int .i64 v, .bool false])) (by omega)
          | true =>
            by_cases h0 : 0 < v4
            · have dd : decide (0 < v4) = true := decide_eq_true h0
              go_wp2
              go_ret2
              refine ⟨?_, b02.out⟩
              have hq := HN.out
              exact congrArg (fun v : Int => Ending.returned (.tuple #[.int .i64 v, .bool false])) (by omega)
            · have dd : decide (0 < v4) = false := decide_eq_false h0
              go_wp2
              go_ret2
              refine ⟨?_, b02.out⟩
              have hq := HN.out
              exact congrArg (fun v : Int => Ending.returned (.tuple #[.int .i64 v, .bool false])) (by omega)
        | true =>
          cases b3 with
          | false =>
            cases b4 with
            | false =>
              go_wp2
              go_ret2
              refine ⟨?_, b02.out⟩
              have hq := HN.out
              exact congrArg (fun v : Int => Ending.returned (.tuple #[.int .i64 v, .bool false])) (by omega)
            | true =>
              by_cases h0 : 0 < v4
              · have dd : decide (0 < v4) = true := decide_eq_true h0
                go_wp2
                go_ret2
                refine ⟨?_, b02.out⟩
                have hq := HN.out
                exact congrArg (fun v : Int => Ending.returned (.tuple #[.int .i64 v, .bool false])) (by omega)
              · have dd : decide (0 < v4) = false := decide_eq_false h0
                go_wp2
                go_ret2
                refine ⟨?_, b02.out⟩
                have hq := HN.out
                exact congrArg (fun v : Int => Ending.returned (.tuple #[.int .i64 v, .bool false])) (by omega)
          | true =>
            cases b4 with
            | false =>
              go_wp2
              go_ret2
              refine ⟨?_, b02.out⟩
              have hq := HN.out
              exact congrArg (fun v : Int => Ending.returned (.tuple #[.int .i64 v, .bool false])) (by omega)
            | true =>
              by_cases h0 : 0 < v4
              · have dd : decide (0 < v4) = true := decide_eq_true h0
                go_wp2
                go_ret2
                refine ⟨?_, b02.out⟩
                have hq := HN.out
                exact congrArg (fun v : Int => Ending.returned (.tuple #[.int .i64 v, .bool true])) (by omega)
              · have dd : decide (0 < v4) = false := decide_eq_false h0
                go_wp2
                go_ret2
                refine ⟨?_, b02.out⟩
                have hq := HN.out
                exact congrArg (fun v : Int => Ending.returned (.tuple #[.int .i64 v, .bool false])) (by omega)
end Go.Proofs.YtbpnacacnncopaaGreatDoor
