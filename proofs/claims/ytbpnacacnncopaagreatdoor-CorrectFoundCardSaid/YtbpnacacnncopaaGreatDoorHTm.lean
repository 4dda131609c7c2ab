/- The calendar: Number; the year that sort.Search finds. -/
import Derived.Lib.AtoiAllCases
import Derived.BigQuiet
import Derived.Deep.Cut
import Derived.Test.YtbpnacacnncopaaGreatDoorHIa
import Derived.Test.YtbpnacacnncopaaGreatDoorHIc
set_option linter.unusedVariables false
set_option linter.unusedSimpArgs false
namespace Go.Proofs.YtbpnacacnncopaaGreatDoor.CA
def leap (y : Int) : Bool := decide (y % 4 = 0) && (!decide (y % 100 = 0) || decide (y % 400 = 0))
def dm (y : Int) (m : Nat) : Int := if m = 2 then (if leap y = true then 29 else 28) else if m = 4 ∨ m = 6 ∨ m = 9 ∨ m = 11 then 30 else 31
theorem dm_pos (y : Int) (m : Nat) : 28 ≤ dm y m ∧ dm y m ≤ 31 := by
  unfold dm
  split
  · split <;> omega
  · split <;> omega
/-- the days of the months ahead of a month (from 1 on) -/
def cum (y : Int) : Nat → Int
  | 0 => 0
  | 1 => 0
  | m + 2 => cum y (m + 1) + dm y (m + 1)
theorem cum_succ (y : Int) {m : Nat} (h : 1 ≤ m) : cum y (m + 1) = cum y m + dm y m := by
  obtain ⟨k, rfl⟩ : ∃ k, m = k + 1 := ⟨m - 1, by omega⟩
  rfl
theorem cum_mono (y : Int) {a b : Nat} (ha : 1 ≤ a) (h : a ≤ b) : cum y a ≤ cum y b := by
  induction b with
  | zero => omega
  | succ b ih =>
    by_cases e : a = b + 1
    · subst e; exact Int.le_refl _
    · have := ih (by omega)
      rw [cum_succ y (by omega)]
      have := (dm_pos y b).1
      omega
theorem cum_lt (y : Int) {a b : Nat} (ha : 1 ≤ a) (h : a < b) : cum y a + dm y a ≤ cum y b := by
  rw [← cum_succ y ha]
  exact cum_mono y (by omega) h
theorem cum_bd (y : Int) (m : Nat) : 0 ≤ cum y m ∧ cum y m ≤ 31 * m := by
  induction m with
  | zero => exact ⟨Int.le_refl _, Int.le_refl _⟩
  | succ m ih =>
    by_cases h : 1 ≤ m
    · rw [cum_succ y h]
      have := dm_pos y m
      omega
    · obtain rfl : m = 0 := by omega
      exact ⟨by show (0 : Int) ≤ 0; omega, by show (0 : Int) ≤ _; omega⟩
theorem cum13 (y : Int) : cum y 13 = 365 + (if leap y = true then 1 else 0) := by
  cases h : leap y <;> simp [cum, dm, h]
/-- days from the beginning of the year 1 to that of a year -/
def bef (y : Int) : Int := 365 * (y - 1) + (y - 1) / 4 - (y - 1) / 100 + (y - 1) / 400
theorem bef_succ (y : Int) : bef (y + 1) = bef y + cum y 13 := by
  rw [cum13]
  unfold bef leap
  by_cases h4 : y % 4 = 0 <;> by_cases h1 : y % 100 = 0 <;> by_cases h0 : y % 400 = 0 <;> simp [h4, h1, h0] <;> omega
theorem bef_mono {a b : Int} (h : a ≤ b) : bef a ≤ bef b := by
  obtain ⟨k, rfl⟩ : ∃ k : Nat, b = a + k := ⟨(b - a).toNat, by omega⟩
  clear h
  induction k with
  | zero => simp
  | succ k ih =>
    have := bef_succ (a + k)
    have h13 := cum13 (a + k)
    have : 0 ≤ cum (a + k) 13 := by rw [h13]; split <;> omega
    rw [show a + ((k + 1 : Nat) : Int) = a + k + 1 by omega]
    omega
theorem bef_lt {a b : Int} (h : a < b) : bef a + cum a 13 ≤ bef b := by
  rw [← bef_succ]
  exact bef_mono (by omega)
structure Date where
  y : Int
  m : Nat
  d : Int
def vld (x : Date) : Prop := 1 ≤ x.y ∧ x.y ≤ 9999 ∧ 1 ≤ x.m ∧ x.m ≤ 12 ∧ 1 ≤ x.d ∧ x.d ≤ dm x.y x.m
/-- the number of a date; 2000-01-01 has the number 0 -/
def num (x : Date) : Int := bef x.y - 730119 + (cum x.y x.m + x.d) - 1
theorem in_year {x : Date} (h : vld x) : 1 ≤ cum x.y x.m + x.d ∧ cum x.y x.m + x.d ≤ cum x.y 13 := by
  obtain ⟨-, -, h3, h4, h5, h6⟩ := h
  have h1 := (cum_bd x.y x.m).1
  have h2 := cum_lt x.y h3 (show x.m < 13 by omega)
  omega
theorem num_inj {x x' : Date} (h : vld x) (h' : vld x') (he : num x = num x') : x = x' := by
  have a := in_year h
  have a' := in_year h'
  obtain ⟨y, m, d⟩ := x
  obtain ⟨y', m', d'⟩ := x'
  unfold num at he
  simp only [] at *
  have hy : y = y' := by
    rcases Int.lt_trichotomy y y' with hl | hl | hl
    · have := bef_lt hl; omega
    · exact hl
    · have := bef_lt hl; omega
  subst hy
  obtain ⟨-, -, h3, h4, h5, h6⟩ := h
  obtain ⟨-, -, k3, k4, k5, k6⟩ := h'
  simp only [] at *
  have hm : m = m' := by
    rcases Nat.lt_trichotomy m m' with hl | hl | hl
    · have := cum_lt y h3 hl; omega
    · exact hl
    · have := cum_lt y k3 hl; omega
  subst hm
  have hd : d = d' := by omega
  subst hd
  rfl
theorem bef_2000 : bef 2000 = 730119 := by decide
theorem bef_1 : bef 1 = 0 := by decide
theorem bef_10000 : bef 10000 = 3652059 := by decide
end Go.Proofs.YtbpnacacnncopaaGreatDoor.CA
namespace Go.Proofs.YtbpnacacnncopaaGreatDoor.CT
open Go.Lib Frm SW
/-- the number of some digits; none where a byte is no digit, or it becomes above 1000 -/
def goN : List UInt8 → Nat → Option Nat
  | [], n => some n
  | c :: l, n => if isD c = true then (if 1000 < 10 * n + (c.toNat - 48) then none else goN l (10 * n + (c.toNat - 48))) else none
theorem goN_some : ∀ {l : List UInt8} {n k : Nat}, goN l n = some k → (∀ c ∈ l, isD c = true) ∧ k = l.foldl (fun n c => 10 * n + (c.toNat - 48)) n
  | [], n, k, h => ⟨fun c hc => by simp at hc, by unfold goN at h; cases h; rfl⟩
  | c :: l, n, k, h => by
    unfold goN at h
    split at h
    · rename_i hc
      split at h
      · cases h
      · obtain ⟨a, b⟩ := goN_some h
        exact ⟨fun y hy => by rcases List.mem_cons.1 hy with e | e; exact e ▸ hc; exact a y e, b⟩
    · cases h
theorem goN_of : ∀ {l : List UInt8} {n : Nat}, (∀ c ∈ l, isD c = true) → l.foldl (fun n c => 10 * n + (c.toNat - 48)) n ≤ 1000 → goN l n = some (l.foldl (fun n c => 10 * n + (c.toNat - 48)) n)
  | [], n, _, _ => rfl
  | c :: l, n, h, hb => by
    have up : ∀ (l : List UInt8) (m : Nat), m ≤ l.foldl (fun n c => 10 * n + (c.toNat - 48)) m := by
      intro l
      induction l with
      | nil => intro m; exact Nat.le_refl _
      | cons d l ih => intro m; exact Nat.le_trans (by omega) (ih (10 * m + (d.toNat - 48)))
    have := up l (10 * n + (c.toNat - 48))
    unfold goN
    rw [if_pos (h c (by simp)), if_neg (by simp at hb; omega)]
    exact goN_of (fun y hy => h y (by simp [hy])) hb
def numb (l : List UInt8) (c lim : Nat) : Nat × Bool := match goN l 0 with
  | none => (0, false)
  | some n => (n, decide (l.length = c) && decide (n < lim))
theorem numb_yes {l : List UInt8} {c lim n : Nat} (h : numb l c lim = (n, true)) : l.length = c ∧ n < lim ∧ (∀ d ∈ l, isD d = true) ∧ n = numU l := by
  unfold numb at h
  cases e : goN l 0 with
  | none => rw [e] at h; cases h
  | some k =>
    rw [e] at h
    simp only [Prod.mk.injEq, Bool.and_eq_true, decide_eq_true_eq] at h
    obtain ⟨a, b⟩ := goN_some e
    exact ⟨h.2.1, by omega, a, by rw [← h.1, b]; rfl⟩
theorem numb_of {l : List UInt8} {lim : Nat} (h : ∀ d ∈ l, isD d = true) (h2 : numU l < lim) (h3 : lim ≤ 1000) : numb l l.length lim = (numU l, true) := by
  unfold numb
  have e : goN l 0 = some (numU l) := goN_of h (show numU l ≤ 1000 by omega)
  rw [e]
  show (numU l, decide (l.length = l.length) && decide (numU l < lim)) = (numU l, true)
  rw [decide_eq_true rfl, decide_eq_true h2]
  rfl
/-- a text of digits is what its number is printed as -/
theorem dgs_of : ∀ (k : Nat) (l : List UInt8), l.length = k → (∀ c ∈ l, isD c = true) → dgs (numU l) k = l := by
  intro k
  induction k with
  | zero =>
    intro l h _
    obtain rfl : l = [] := List.eq_nil_of_length_eq_zero h
    rfl
  | succ k ih =>
    intro l h hd
    have hne : l ≠ [] := fun e => by subst e; simp at h
    obtain ⟨l', c, rfl⟩ : ∃ l' c, l = l' ++ [c] := ⟨l.dropLast, l.getLast hne, (List.dropLast_concat_getLast hne).symm⟩
    have hc : isD c = true := hd c (by simp)
    have hcb : 48 ≤ c.toNat ∧ c.toNat ≤ 57 := by unfold isD at hc; simpa using hc
    have hu : numU (l' ++ [c]) = 10 * numU l' + (c.toNat - 48) := numU_app l' [] c
    rw [dgs_step (Or.inr (by omega)), hu]
    have e1 : (10 * numU l' + (c.toNat - 48)) / 10 = numU l' := by omega
    have e2 : (10 * numU l' + (c.toNat - 48)) % 10 = c.toNat - 48 := by omega
    rw [e1, e2, Nat.add_sub_cancel, ih l' (by simp at h; omega) (fun y hy => hd y (by simp [hy]))]
    congr 2
    unfold dB
    rw [show 48 + (c.toNat - 48) = c.toNat by omega]
    simp
/-- the text of a time of day in milliseconds -/
def clockT (ms : Nat) : List UInt8 := dgs (ms / 3600000) 2 ++ 58 :: (dgs (ms / 60000 % 60) 2 ++ 58 :: (dgs (ms / 1000 % 60) 2 ++ (if ms % 1000 = 0 then [] else 46 :: dgs (ms % 1000) 3)))
/-- the time of day with a text, and whether there is one; a: ahead of the point, p: behind it, has: whether there is a point -/
def clockV (a p : List UInt8) (has : Bool) : Nat × Bool := match wrd 58 a with
  | [h, m, s] => ((((numb h 2 24).1 * 60 + (numb m 2 60).1) * 60 + (numb s 2 60).1) * 1000 + (if has = true then (numb p 3 1000).1 else 0),
      (numb h 2 24).2 && (numb m 2 60).2 && (numb s 2 60).2 && (if has = true then (numb p 3 1000).2 && decide (0 < (numb p 3 1000).1) else true))
  | _ => (0, false)
def clockP (t : List UInt8) : Nat × Bool := clockV (cut t [46]).1 (cut t [46]).2.1 (cut t [46]).2.2
theorem dgs_no {n k : Nat} {x : UInt8} (hx : isD x = false) : x ∉ dgs n k := fun h => by have := dgs_isD n k x h; rw [hx] at this; cases this
theorem numb_dgs {n k lim : Nat} (h : n < lim) (hl : lim ≤ 1000) (hk : n < 10 ^ k) : numb (dgs n k) k lim = (n, true) := by
  have h1 := numb_of (l := dgs n k) (lim := lim) (dgs_isD n k) (by rw [numU_dgs]; exact h) hl
  rw [dgs_len k n hk, numU_dgs] at h1
  exact h1
theorem wrd3 {a b c : List UInt8} (ha : (58 : UInt8) ∉ a) (hb : (58 : UInt8) ∉ b) (hc : (58 : UInt8) ∉ c) : wrd 58 (a ++ 58 :: (b ++ 58 :: c)) = [a, b, c] := by
  rw [wrd_app 58 a _ ha, wrd_app 58 b _ hb, wrd_one 58 c hc]
theorem clockP_T {ms : Nat} (h : ms < 86400000) : clockP (clockT ms) = (ms, true) := by
  have n1 : ∀ n k, (58 : UInt8) ∉ dgs n k := fun n k => dgs_no (by decide)
  have n2 : ∀ n k, (46 : UInt8) ∉ dgs n k := fun n k => dgs_no (by decide)
  have w := wrd3 (n1 (ms / 3600000) 2) (n1 (ms / 60000 % 60) 2) (n1 (ms / 1000 % 60) 2)
  have nh : (46 : UInt8) ∉ dgs (ms / 3600000) 2 ++ 58 :: (dgs (ms / 60000 % 60) 2 ++ 58 :: dgs (ms / 1000 % 60) 2) := by
    simp [n2]
  have b1 := numb_dgs (n := ms / 3600000) (k := 2) (lim := 24) (by omega) (by omega) (by omega)
  have b2 := numb_dgs (n := ms / 60000 % 60) (k := 2) (lim := 60) (by omega) (by omega) (by omega)
  have b3 := numb_dgs (n := ms / 1000 % 60) (k := 2) (lim := 60) (by omega) (by omega) (by omega)
  by_cases h0 : ms % 1000 = 0
  · have ht : clockT ms = dgs (ms / 3600000) 2 ++ 58 :: (dgs (ms / 60000 % 60) 2 ++ 58 :: dgs (ms / 1000 % 60) 2) := by unfold clockT; rw [if_pos h0]; simp
    have hc : cut (clockT ms) [46] = (clockT ms, [], false) := by
      unfold cut
      rw [ht, index_none 46 _ nh]
      rfl
    unfold clockP clockV
    rw [hc, ht]
    simp only [w, b1, b2, b3]
    refine Prod.ext ?_ rfl
    simp
    omega
  · have ht : clockT ms = (dgs (ms / 3600000) 2 ++ 58 :: (dgs (ms / 60000 % 60) 2 ++ 58 :: dgs (ms / 1000 % 60) 2)) ++ 46 :: dgs (ms % 1000) 3 := by unfold clockT; rw [if_neg h0]; simp
    have hc : cut (clockT ms) [46] = (dgs (ms / 3600000) 2 ++ 58 :: (dgs (ms / 60000 % 60) 2 ++ 58 :: dgs (ms / 1000 % 60) 2), dgs (ms % 1000) 3, true) := by
      rw [ht]
      exact cut_one (fun c hc e => nh (e ▸ hc))
    have b4 := numb_dgs (n := ms % 1000) (k := 3) (lim := 1000) (by omega) (by omega) (by omega)
    unfold clockP clockV
    rw [hc]
    simp only [w, b1, b2, b3, b4]
    refine Prod.ext ?_ ?_
    · simp; omega
    · simp; omega
theorem clockT_P {t : List UInt8} {n : Nat} (h : clockP t = (n, true)) : n < 86400000 ∧ clockT n = t := by
  unfold clockP at h
  obtain ⟨a, p, has, hc⟩ : ∃ a p has, cut t [46] = (a, p, has) := ⟨_, _, _, rfl⟩
  rw [hc] at h
  have ht : t = if has = true then a ++ 46 :: p else a := by
    by_cases hx : (46 : UInt8) ∈ t
    · obtain ⟨D, R, rfl, hD⟩ : ∃ D R, t = D ++ 46 :: R ∧ (46 : UInt8) ∉ D := by
        clear h hc
        induction t with
        | nil => simp at hx
        | cons c t iht =>
          by_cases hc : c = 46
          · exact ⟨[], t, by rw [hc]; rfl, by simp⟩
          · rcases List.mem_cons.1 hx with e | e
            · exact absurd e.symm hc
            · obtain ⟨D, R, rfl, hD⟩ := iht e
              exact ⟨c :: D, R, rfl, fun e => by rcases List.mem_cons.1 e with e | e; exact hc e.symm; exact hD e⟩
      rw [cut_one (fun c hc (e : c = 46) => hD (e ▸ hc))] at hc
      cases hc
      rfl
    · have : cut t [46] = (t, [], false) := by unfold cut; rw [index_none 46 _ hx]; rfl
      rw [this] at hc
      cases hc
      rfl
  unfold clockV at h
  simp only [] at h
  split at h
  case h_2 => cases h
  case h_1 x y z he =>
    have hj := jn_wrd 58 a
    rw [he] at hj
    have ha : a = x ++ 58 :: (y ++ 58 :: z) := hj.symm
    simp only [Prod.mk.injEq, Bool.and_eq_true] at h
    obtain ⟨hn, ⟨⟨h1, h2⟩, h3⟩, h4⟩ := h
    obtain ⟨l1, c1, d1, e1⟩ := numb_yes (n := (numb x 2 24).1) (Prod.ext rfl h1)
    obtain ⟨l2, c2, d2, e2⟩ := numb_yes (n := (numb y 2 60).1) (Prod.ext rfl h2)
    obtain ⟨l3, c3, d3, e3⟩ := numb_yes (n := (numb z 2 60).1) (Prod.ext rfl h3)
    have g1 := dgs_of 2 x l1 d1
    have g2 := dgs_of 2 y l2 d2
    have g3 := dgs_of 2 z l3 d3
    rw [← e1] at g1
    rw [← e2] at g2
    rw [← e3] at g3
    generalize (numb x 2 24).1 = u at *
    generalize (numb y 2 60).1 = v at *
    generalize (numb z 2 60).1 = s at *
    cases has with
    | false =>
      simp only [Bool.false_eq_true, if_false, Nat.add_zero] at hn ht
      have q1 : n / 3600000 = u := by omega
      have q2 : n / 60000 % 60 = v := by omega
      have q3 : n / 1000 % 60 = s := by omega
      have q4 : n % 1000 = 0 := by omega
      refine ⟨by omega, ?_⟩
      unfold clockT
      rw [q1, q2, q3, if_pos q4, g1, g2, g3, ht, ha]
      simp
    | true =>
      simp only [if_true, Bool.and_eq_true, decide_eq_true_eq] at hn ht h4
      obtain ⟨l4, c4, d4, e4⟩ := numb_yes (n := (numb p 3 1000).1) (Prod.ext rfl h4.1)
      have g4 := dgs_of 3 p l4 d4
      rw [← e4] at g4
      generalize (numb p 3 1000).1 = r at *
      have q1 : n / 3600000 = u := by omega
      have q2 : n / 60000 % 60 = v := by omega
      have q3 : n / 1000 % 60 = s := by omega
      have q4 : n % 1000 = r := by omega
      refine ⟨by omega, ?_⟩
      unfold clockT
      rw [q1, q2, q3, q4, if_neg (by omega), g1, g2, g3, g4, ht, ha]
      simp
end Go.Proofs.YtbpnacacnncopaaGreatDoor.CT
namespace Go.Proofs.YtbpnacacnncopaaGreatDoor
open Frm
open Lib (decDigits)
theorem fold_ge : ∀ (l : Bs) (a : Nat), a ≤ l.foldl (fun n c => 10 * n + (c.toNat - 48)) a
  | [], a => Nat.le_refl _
  | c :: l, a => Nat.le_trans (by omega) (fold_ge l (10 * a + (c.toNat - 48)))
theorem pu_dig : ∀ (l : Bs) (a : Nat), (∀ c ∈ l, isD c = true) → l.foldl (fun n c => 10 * n + (c.toNat - 48)) a < 18446744073709551616 → Lib.parseUint10 a l = .ok (l.foldl (fun n c => 10 * n + (c.toNat - 48)) a)
  | [], a, _, _ => rfl
  | c :: l, a, h, hb => by
    have hc := h c (by simp)
    unfold isD at hc
    rw [Bool.and_eq_true, decide_eq_true_eq, decide_eq_true_eq] at hc
    rw [List.foldl_cons] at hb ⊢
    have hg := fold_ge l (10 * a + (c.toNat - 48))
    unfold Lib.parseUint10
    rw [if_pos hc, if_neg (by omega), if_neg (by omega), show a * 10 + (c.toNat - 48) = 10 * a + (c.toNat - 48) by omega]
    exact pu_dig l _ (fun c hc => h c (by simp [hc])) hb
theorem pm_dig {l : Bs} (h : ∀ c ∈ l, isD c = true) (hn : l ≠ []) (hu : numU l < 1000000000000000000) : Lib.parseMag l = .ok (numU l) := by
  unfold Lib.parseMag
  rw [if_neg hn, pu_dig l 0 h (by show numU l < _; omega)]
  rfl
theorem atR_dig {l : Bs} (h : ∀ c ∈ l, isD c = true) (hn : l ≠ []) (hu : numU l < 1000000000000000000) : atR l = ((numU l : Int), true) := by
  have hp := pm_dig h hn hu
  cases l with
  | nil => exact absurd rfl hn
  | cons c r =>
    have hc := h c (by simp)
    unfold isD at hc
    rw [Bool.and_eq_true, decide_eq_true_eq, decide_eq_true_eq] at hc
    unfold atR Lib.atoiAll
    simp only []
    rw [if_neg (by omega), hp]
    simp only []
    rw [if_neg (by omega), if_neg (by omega), if_neg (by omega)]
theorem atR_dgs {n k : Nat} (hk : 0 < k) (h : n < 1000000000000000000) : atR (dgs n k) = ((n : Int), true) := by
  have := atR_dig (dgs_isD n k) (by rw [dgs_pad hk]; have := dd_pos n; intro e; rw [List.append_eq_nil_iff] at e; rw [e.2] at this; simp at this) (by rw [numU_dgs]; exact h)
  rwa [numU_dgs] at this
theorem atR_itoa {n : Int} (h : n.natAbs < 1000000000000000000) : atR (Lib.itoa n) = (n, true) := by
  rcases Int.lt_or_le n 0 with hn | hn
  · obtain ⟨m, hm⟩ : ∃ m : Nat, n = -(m : Int) := ⟨n.natAbs, by omega⟩
    have hp := pm_dig (dd_isD m) (by intro e; have := dd_pos m; rw [e] at this; simp at this) (by rw [numU_dd]; omega)
    rw [numU_dd] at hp
    have e : Lib.itoa n = 45 :: decDigits m := by
      unfold Lib.itoa
      rw [if_pos hn, hm]
      simp
    rw [e]
    unfold atR Lib.atoiAll
    simp only []
    rw [if_pos (by decide), hp]
    simp only []
    rw [if_neg (by simp), if_neg (by omega), if_pos (by decide), hm]
  · obtain ⟨m, rfl⟩ : ∃ m : Nat, n = (m : Int) := ⟨n.toNat, by omega⟩
    rw [itoa_nat, ← dgs_one]
    exact atR_dgs (by omega) (by omega)
/-- the text of a date -/
def dateT (x : CA.Date) : Bs := dgs x.y.toNat 4 ++ 45 :: (dgs x.m 2 ++ 45 :: dgs x.d.toNat 2)
theorem dgs_not {n k : Nat} {x : UInt8} (h : isD x = false) : x ∉ dgs n k := CT.dgs_no h
theorem dateT_wrd (x : CA.Date) : SW.wrd 45 (dateT x) = [dgs x.y.toNat 4, dgs x.m 2, dgs x.d.toNat 2] := by
  unfold dateT
  rw [SW.wrd_app 45 _ _ (dgs_not (by decide)), SW.wrd_app 45 _ _ (dgs_not (by decide)), SW.wrd_one 45 _ (dgs_not (by decide))]
theorem dm_le (y : Int) (m : Nat) : CA.dm y m ≤ 31 := (CA.dm_pos y m).2
theorem dateT_len {x : CA.Date} (h : CA.vld x) : (dateT x).length = 10 := by
  obtain ⟨h1, h2, h3, h4, h5, h6⟩ := h
  have := dm_le x.y x.m
  unfold dateT
  rw [List.length_append, List.length_cons, List.length_append, List.length_cons, dgs_len 4 _ (by omega), dgs_len 2 _ (by omega), dgs_len 2 _ (by omega)]
theorem dateT_no (x : CA.Date) {c : UInt8} (h : isD c = false) (h2 : c ≠ 45) : c ∉ dateT x := by
  unfold dateT
  simp only [List.mem_append, List.mem_cons, not_or]
  exact ⟨dgs_not h, h2, dgs_not h, h2, dgs_not h⟩
theorem dgs_inj {n m k : Nat} (h : dgs n k = dgs m k) : n = m := by rw [← numU_dgs n k, h, numU_dgs]
theorem dateT_inj {x x' : CA.Date} (h : CA.vld x) (h' : CA.vld x') (e : dateT x = dateT x') : x = x' := by
  have q := dateT_wrd x
  rw [e, dateT_wrd] at q
  simp only [List.cons.injEq, and_true] at q
  have q1 := dgs_inj q.1
  have q2 := dgs_inj q.2.1
  have q3 := dgs_inj q.2.2
  obtain ⟨y, m, d⟩ := x
  obtain ⟨y', m', d'⟩ := x'
  obtain ⟨h1, h2, h3, h4, h5, h6⟩ := h
  obtain ⟨h1', h2', h3', h4', h5', h6'⟩ := h'
  simp only [] at *
  obtain rfl : y = y' := by omega
  obtain rfl : m = m' := by omega
  obtain rfl : d = d' := by omega
  rfl
/-- the text of an instant -/
def IsInst (t : Int) (s : Bs) : Prop := ∃ x, CA.vld x ∧ CA.num x = t / 86400000 ∧ s = dateT x ++ 32 :: CT.clockT (t % 86400000).toNat
theorem inst_text {t : Int} {s s' : Bs} (h : IsInst t s) (h' : IsInst t s') : s = s' := by
  obtain ⟨x, h1, h2, rfl⟩ := h
  obtain ⟨x', h1', h2', rfl⟩ := h'
  obtain rfl := CA.num_inj h1 h1' (h2.trans h2'.symm)
  rfl
theorem cut_date (x : CA.Date) (R : Bs) : Lib.cut (dateT x ++ 32 :: R) [32] = (dateT x, R, true) := cut_one fun c hc e => by
  subst e
  exact dateT_no x (by decide) (by decide) hc
theorem inst_num {t t' : Int} {s : Bs} (h : IsInst t s) (h' : IsInst t' s) : t = t' := by
  obtain ⟨x, h1, h2, rfl⟩ := h
  obtain ⟨x', h1', h2', e⟩ := h'
  have q := cut_date x (CT.clockT (t % 86400000).toNat)
  rw [e, cut_date] at q
  simp only [Prod.mk.injEq, and_true] at q
  obtain rfl := dateT_inj h1' h1 q.1
  have q2 := CT.clockP_T (ms := (t % 86400000).toNat) (by omega)
  rw [← q.2, CT.clockP_T (by omega)] at q2
  simp only [Prod.mk.injEq, and_true] at q2
  omega
end Go.Proofs.YtbpnacacnncopaaGreatDoor
namespace Go.Proofs.YtbpnacacnncopaaGreatDoor
open Go.RowKit
/-- a world that left what was there alone -/
structure BQ (w0 : World) where
  w : World
  hb : Below w0.heap.size w0 w
instance bqSome (w0 : World) : Nonempty (BQ w0) := ⟨⟨w0, Below.refl _ _⟩⟩
/-- a region whose calls leave alone what was there is walked once -/
theorem wp_region_bq {P : Program} {id : Nat} {Q : Exit → Act → World → Prop} {a : Act} {w : World} {l : List Oper} (w0 : World) (hm : P.follows .mixedOrders = true) (hB : Region.lexB .any l.toArray = true) (h0 : Below w0.heap.size w0 w)
    (h : wpQuiet P l.toArray (fun w' => ∃ s : BQ w0, w' = s.w) (fun a' => ∀ w9, Below w0.heap.size w0 w9 → Q .normal a' w9) l a) : (Code.region id l.toArray true).wp P Q a w := by
  have e : (fun a' => ∀ w9, Below w0.heap.size w0 w9 → Q .normal a' w9) = (fun a' : Act => ∀ w', (∃ s : BQ w0, w' = s.w) → Q .normal a' w') :=
    funext fun a' => propext ⟨fun h w' ⟨s, hs⟩ => hs ▸ h s.w s.hb, fun h w9 hb => h w9 ⟨⟨w9, hb⟩, rfl⟩⟩
  rw [e] at h
  exact wp_region_quiet (C := fun w' => ∃ s : BQ w0, w' = s.w) hm hB ⟨⟨_, bl_drew h0⟩, rfl⟩ (by simpa using h)
theorem quiet_bq {P : Program} {f : FuncId} {args : Array Value} {w0 : World} {s : BQ w0} {v : Value} (h : Calls P f args s.w fun e w' => e = .returned v ∧ Below s.w.heap.size s.w w') :
    Calls P f args s.w fun e w'' => e = .returned v ∧ ∃ s' : BQ w0, w'' = s'.w :=
  h.mono fun _ w' ⟨he, hb⟩ => ⟨he, ⟨w', s.hb.trans (hb.mono s.hb.size)⟩, rfl⟩
theorem quiet_bq0 {P : Program} {f : FuncId} {args : Array Value} {w0 : World} {s : BQ w0} {v : Value} (h : Calls P f args s.w fun e w' => e = .returned v ∧ w' = s.w) :
    Calls P f args s.w fun e w'' => e = .returned v ∧ ∃ s' : BQ w0, w'' = s'.w :=
  h.mono fun _ w' ⟨he, hb⟩ => ⟨he, s, hb⟩
end Go.Proofs.YtbpnacacnncopaaGreatDoor
namespace Go.Proofs.YtbpnacacnncopaaGreatDoor
open Go.RowKit
theorem ret_bo {a b : Bool} (h : a = b) : Ending.returned (.bool a) = .returned (.bool b) := by rw [h]
theorem ret_in {a b : Int} (h : a = b) : Ending.returned (.int .i64 a) = .returned (.int .i64 b) := by rw [h]
theorem Leap_any (y : Int) (w : World) (h : 0 ≤ y) : Calls Tryz.prog 196 #[.int .i64 y] w fun e w' => e = .returned (.bool (CA.leap y)) ∧ w' = w := by
  unfold CA.leap
  go_enter Tryz.func196, Tryz.ntmps196
  go_wp2
  all_goals
    go_ret
    exact ⟨ret_bo (by by_cases k4 : y % 4 = 0 <;> by_cases k1 : y % 100 = 0 <;> by_cases k0 : y % 400 = 0 <;> simp_all), rfl⟩
theorem right_any (y m : Int) (w : World) : Calls Tryz.prog 159 #[.int .i64 y, .int .i64 m] w fun e w' => e = .returned (.bool (decide (1 ≤ y ∧ y ≤ 9999 ∧ 1 ≤ m ∧ m ≤ 12))) ∧ w' = w := by
  go_enter Tryz.func159, Tryz.ntmps159
  go_wp2
  all_goals
    go_ret
    exact ⟨ret_bo (by first | rfl | (simp_all; done) | (simp_all; omega)), rfl⟩
theorem lengths_any (w : World) : Calls Tryz.prog 197 #[] w fun e w' => e = .returned (.agg #[.int .i64 31, .int .i64 28, .int .i64 31, .int .i64 30, .int .i64 31, .int .i64 30, .int .i64 31, .int .i64 31, .int .i64 30, .int .i64 31, .int .i64 30, .int .i64 31]) ∧ Below w.heap.size w w' := by
  go_enter Tryz.func197, Tryz.ntmps197
  go_wp2
  refine bodyPost_ret (v := .agg #[.int .i64 31, .int .i64 28, .int .i64 31, .int .i64 30, .int .i64 31, .int .i64 30, .int .i64 31, .int .i64 31, .int .i64 30, .int .i64 31, .int .i64 30, .int .i64 31]) (by simp [results, Tryz.results197, go_sem, *]; done) rfl ⟨rfl, ?_⟩
  repeat (first | exact Below.refl _ _ | assumption | refine bl_drew ?_ | refine bl_drewN ?_ _ | refine Below.setCell ?_ (by first | assumption | omega | (simp; done) | (simp; omega)) _ | refine Below.alloc ?_ (by first | assumption | omega | (simp; done) | (simp; omega)) _)
theorem before_any (y : Int) (w : World) (h : 1 ≤ y) (h1 : y ≤ 1000000) : Calls Tryz.prog 155 #[.int .i64 y] w fun e w' => e = .returned (.int .i64 (CA.bef y)) ∧ w' = w := by
  have e4 : (y - 1).tdiv 4 = (y - 1) / 4 := Int.tdiv_eq_ediv_of_nonneg (by omega)
  have e1 : (y - 1).tdiv 100 = (y - 1) / 100 := Int.tdiv_eq_ediv_of_nonneg (by omega)
  have e0 : (y - 1).tdiv 400 = (y - 1) / 400 := Int.tdiv_eq_ediv_of_nonneg (by omega)
  go_enter Tryz.func155, Tryz.ntmps155
  go_wp2
  go_ret
  exact ⟨ret_in (by unfold CA.bef; first | rfl | (simp_all; done) | (simp_all; omega) | omega), rfl⟩
theorem feb_len {y : Int} (h : CA.leap y = true) : CA.dm y 2 = 29 := by unfold CA.dm; simp [h]
set_option maxRecDepth 100000 in
theorem days_any (y : Int) (m : Nat) (w : World) (h : 0 ≤ y) (m1 : 1 ≤ m) (m2 : m ≤ 12) : Calls Tryz.prog 158 #[.int .i64 y, .int .i64 (m : Int)] w fun e w' => e = .returned (.int .i64 (CA.dm y m)) ∧ Below w.heap.size w w' := by
  have KL := Lib.hid (fun W => Leap_any y W h)
  have KN := Lib.hid lengths_any
  have ix0 : ∀ w, (Instr.index 200 (.agg #[.int .i64 31, .int .i64 28, .int .i64 31, .int .i64 30, .int .i64 31, .int .i64 30, .int .i64 31, .int .i64 31, .int .i64 30, .int .i64 31, .int .i64 30, .int .i64 31]) (.int .i64 0)).run Tryz.prog w = .ok (.int .i64 31) w := fun _ => by kernel_rfl
  have ix1 : ∀ w, (Instr.index 200 (.agg #[.int .i64 31, .int .i64 28, .int .i64 31, .int .i64 30, .int .i64 31, .int .i64 30, .int .i64 31, .int .i64 31, .int .i64 30, .int .i64 31, .int .i64 30, .int .i64 31]) (.int .i64 1)).run Tryz.prog w = .ok (.int .i64 28) w := fun _ => by kernel_rfl
  have ix2 : ∀ w, (Instr.index 200 (.agg #[.int .i64 31, .int .i64 28, .int .i64 31, .int .i64 30, .int .i64 31, .int .i64 30, .int .i64 31, .int .i64 31, .int .i64 30, .int .i64 31, .int .i64 30, .int .i64 31]) (.int .i64 2)).run Tryz.prog w = .ok (.int .i64 31) w := fun _ => by kernel_rfl
  have ix3 : ∀ w, (Instr.index 200 (.agg #[.int .i64 31, .int .i64 28, .int .i64 31, .int .i64 30, .int .i64 31, .int .i64 30, .int .i64 31, .int .i64 31, .int .i64 30, .int .i64 31, .int .i64 30, .int .i64 31]) (.int .i64 3)).run Tryz.prog w = .ok (.int .i64 30) w := fun _ => by kernel_rfl
  have ix4 : ∀ w, (Instr.index 200 (.agg #[.int .i64 31, .int .i64 28, .int .i64 31, .int .i64 30, .int .i64 31, .int .i64 30, .int .i64 31, .int .i64 31, .int .i64 30, .int .i64 31, .int .i64 30, .int .i64 31]) (.int .i64 4)).run Tryz.prog w = .ok (.int .i64 31) w := fun _ => by kernel_rfl
  have ix5 : ∀ w, (Instr.index 200 (.agg #[.int .i64 31, .int .i64 28, .int .i64 31, .int .i64 30, .int .i64 31, .int .i64 30, .int .i64 31, .int .i64 31, .int .i64 30, .int .i64 31, .int .i64 30, .int .i64 31]) (.int .i64 5)).run Tryz.prog w = .ok (.int .i64 30) w := fun _ => by kernel_rfl
  have ix6 : ∀ w, (Instr.index 200 (.agg #[.int .i64 31, .int .i64 28, .int .i64 31, .int .i64 30, .int .i64 31, .int .i64 30, .int .i64 31, .int .i64 31, .int .i64 30, .int .i64 31, .int .i64 30, .int .i64 31]) (.int .i64 6)).run Tryz.prog w = .ok (.int .i64 31) w := fun _ => by kernel_rfl
  have ix7 : ∀ w, (Instr.index 200 (.agg #[.int .i64 31, .int .i64 28, .int .i64 31, .int .i64 30, .int .i64 31, .int .i64 30, .int .i64 31, .int .i64 31, .int .i64 30, .int .i64 31, .int .i64 30, .int .i64 31]) (.int .i64 7)).run Tryz.prog w = .ok (.int .i64 31) w := fun _ => by kernel_rfl
  have ix8 : ∀ w, (Instr.index 200 (.agg #[.int .i64 31, .int .i64 28, .int .i64 31, .int .i64 30, .int .i64 31, .int .i64 30, .int .i64 31, .int .i64 31, .int .i64 30, .int .i64 31, .int .i64 30, .int .i64 31]) (.int .i64 8)).run Tryz.prog w = .ok (.int .i64 30) w := fun _ => by kernel_rfl
  have ix9 : ∀ w, (Instr.index 200 (.agg #[.int .i64 31, .int .i64 28, .int .i64 31, .int .i64 30, .int .i64 31, .int .i64 30, .int .i64 31, .int .i64 31, .int .i64 30, .int .i64 31, .int .i64 30, .int .i64 31]) (.int .i64 9)).run Tryz.prog w = .ok (.int .i64 31) w := fun _ => by kernel_rfl
  have ix10 : ∀ w, (Instr.index 200 (.agg #[.int .i64 31, .int .i64 28, .int .i64 31, .int .i64 30, .int .i64 31, .int .i64 30, .int .i64 31, .int .i64 31, .int .i64 30, .int .i64 31, .int .i64 30, .int .i64 31]) (.int .i64 10)).run Tryz.prog w = .ok (.int .i64 30) w := fun _ => by kernel_rfl
  have ix11 : ∀ w, (Instr.index 200 (.agg #[.int .i64 31, .int .i64 28, .int .i64 31, .int .i64 30, .int .i64 31, .int .i64 30, .int .i64 31, .int .i64 31, .int .i64 30, .int .i64 31, .int .i64 30, .int .i64 31]) (.int .i64 11)).run Tryz.prog w = .ok (.int .i64 31) w := fun _ => by kernel_rfl
  by_cases h2 : m = 2 ∧ CA.leap y = true
  · obtain ⟨rfl, hl⟩ := h2
    rw [hl] at KL
    rw [feb_len hl]
    go_enter Tryz.func158, Tryz.ntmps158
    go_wp2_with (go_at_call 196; (with_reducible refine (KL.out _).mono ?_); rintro e w1 ⟨rfl, rfl⟩)
    go_ret
    exact ⟨rfl, Below.refl _ _⟩
  · have hm : m = 1 ∨ m = 2 ∨ m = 3 ∨ m = 4 ∨ m = 5 ∨ m = 6 ∨ m = 7 ∨ m = 8 ∨ m = 9 ∨ m = 10 ∨ m = 11 ∨ m = 12 := by omega
    rcases hm with rfl | rfl | rfl | rfl | rfl | rfl | rfl | rfl | rfl | rfl | rfl | rfl
    case inr.inl =>
      have hl : CA.leap y = false := by simpa using h2
      rw [hl] at KL
      rw [show CA.dm y 2 = 28 by unfold CA.dm; simp [hl]]
      clear h2 hl
      go_enter Tryz.func158, Tryz.ntmps158
      go_wp2_with (first | (go_at_call 196; (with_reducible refine (KL.out _).mono ?_); rintro e w1 ⟨rfl, rfl⟩) | (go_at_call 197; (with_reducible refine (KN.out _).mono ?_); rintro e w1 ⟨rfl, hb⟩))
      go_ret
      exact ⟨rfl, hb⟩
    all_goals
      clear h2
      go_enter Tryz.func158, Tryz.ntmps158
      go_wp2_with (go_at_call 197; (with_reducible refine (KN.out _).mono ?_); rintro e w1 ⟨rfl, hb⟩)
      go_ret
      exact ⟨rfl, hb⟩
end Go.Proofs.YtbpnacacnncopaaGreatDoor
namespace Go.Proofs.YtbpnacacnncopaaGreatDoor
open Go.RowKit
def dtv (y m d : Int) : Array Value := #[.int .i64 y, .int .i64 m, .int .i64 d]
/-- which dates are valid -/
def vdB (y m d : Int) : Bool := decide (1 ≤ y ∧ y ≤ 9999 ∧ 1 ≤ m ∧ m ≤ 12) && (decide (1 ≤ d) && decide (d ≤ CA.dm y m.toNat))
set_option maxHeartbeats 1000000 in
set_option maxRecDepth 100000 in
theorem dValid_any (y m d : Int) (w : World) : Calls Tryz.prog 106 #[.agg (dtv y m d)] w fun e w' => e = .returned (.bool (vdB y m d)) ∧ Below w.heap.size w w' := by
  have KR := Lib.hid (fun W => right_any y m W)
  have b0 := bl_alloc w (.cells (dtv y m d) 100)
  have G0 := Blk.new w 100 (dtv y m d)
  unfold vdB
  by_cases hr : 1 ≤ y ∧ y ≤ 9999 ∧ 1 ≤ m ∧ m ≤ 12
  · obtain ⟨k, hk⟩ : ∃ k : Nat, m = k := ⟨m.toNat, by omega⟩
    have KD := Lib.hid (fun W => days_any y k W (by omega) (by omega) (by omega))
    rw [← hk] at KD
    rw [decide_eq_true hr] at KR ⊢
    rw [show m.toNat = k by omega]
    clear hr hk
    generalize CA.dm y k = D at *
    by_cases h1 : 1 ≤ d
    · have d1 : decide (1 ≤ d) = true := decide_eq_true h1
      rw [d1]
      clear h1
      go_enter Tryz.func106, Tryz.ntmps106
      go_upto_region 1 with fail
      generalize w.alloc (.cells (dtv y m d) 100) = w0 at *
      have y0 : ∀ s : BQ w0, s.w.cell? ⟨w.heap.size, 0, none⟩ = some (.int .i64 y) := fun s => (G0.below s.hb G0.lt).cell 0
      have y1 : ∀ s : BQ w0, s.w.cell? ⟨w.heap.size, 1, none⟩ = some (.int .i64 m) := fun s => (G0.below s.hb G0.lt).cell 1
      have y2 : ∀ s : BQ w0, s.w.cell? ⟨w.heap.size, 2, none⟩ = some (.int .i64 d) := fun s => (G0.below s.hb G0.lt).cell 2
      refine wp_region_bq w0 (by kernel_rfl) (by kernel_rfl) (Below.refl _ _) ?_
      repeat (go_big_quiet_step (first | (go_at_call 159; with_reducible exact quiet_bq0 (KR.out _)) | (go_at_call 158; with_reducible exact quiet_bq (KD.out _)) | fail))
      refine wpQuiet_nil ?_
      intro w9 hb9
      go_wp2
      go_ret
      exact ⟨ret_bo (by simp), b0.trans (hb9.mono b0.size)⟩
    · have d1 : decide (1 ≤ d) = false := decide_eq_false h1
      rw [d1]
      clear h1
      go_enter Tryz.func106, Tryz.ntmps106
      go_upto_region 1 with fail
      generalize w.alloc (.cells (dtv y m d) 100) = w0 at *
      have y0 : ∀ s : BQ w0, s.w.cell? ⟨w.heap.size, 0, none⟩ = some (.int .i64 y) := fun s => (G0.below s.hb G0.lt).cell 0
      have y1 : ∀ s : BQ w0, s.w.cell? ⟨w.heap.size, 1, none⟩ = some (.int .i64 m) := fun s => (G0.below s.hb G0.lt).cell 1
      have y2 : ∀ s : BQ w0, s.w.cell? ⟨w.heap.size, 2, none⟩ = some (.int .i64 d) := fun s => (G0.below s.hb G0.lt).cell 2
      refine wp_region_bq w0 (by kernel_rfl) (by kernel_rfl) (Below.refl _ _) ?_
      repeat (go_big_quiet_step (first | (go_at_call 159; with_reducible exact quiet_bq0 (KR.out _)) | fail))
      refine wpQuiet_nil ?_
      intro w9 hb9
      go_wp2
      go_ret
      exact ⟨ret_bo (by simp), b0.trans (hb9.mono b0.size)⟩
  · rw [decide_eq_false hr] at KR ⊢
    clear hr
    go_enter Tryz.func106, Tryz.ntmps106
    go_upto_region 1 with fail
    generalize w.alloc (.cells (dtv y m d) 100) = w0 at *
    have y0 : ∀ s : BQ w0, s.w.cell? ⟨w.heap.size, 0, none⟩ = some (.int .i64 y) := fun s => (G0.below s.hb G0.lt).cell 0
    have y1 : ∀ s : BQ w0, s.w.cell? ⟨w.heap.size, 1, none⟩ = some (.int .i64 m) := fun s => (G0.below s.hb G0.lt).cell 1
    refine wp_region_bq w0 (by kernel_rfl) (by kernel_rfl) (Below.refl _ _) ?_
    repeat (go_big_quiet_step (first | (go_at_call 159; with_reducible exact quiet_bq0 (KR.out _)) | fail))
    refine wpQuiet_nil ?_
    intro w9 hb9
    go_wp2
    go_ret
    exact ⟨ret_bo (by simp), b0.trans (hb9.mono b0.size)⟩
set_option maxRecDepth 100000 in
theorem dayOf_any (y d : Int) (m : Nat) (w : World) (h : 0 ≤ y) (m1 : 1 ≤ m) (m2 : m ≤ 12) (d0 : 0 ≤ d) (d1 : d ≤ 100) : Calls Tryz.prog 233 #[.agg (dtv y m d)] w fun e w' => e = .returned (.int .i64 (CA.cum y m + d)) ∧ Below w.heap.size w w' := by
  have KD := Lib.hid (fun (k : Nat) (W : World) (k1 : 1 ≤ k) (k2 : k ≤ 12) => days_any y k W h k1 k2)
  have G0 := Lib.hid (Blk.new w 100 (dtv y m d))
  have b0 := Lib.hid (bl_alloc w (.cells (dtv y m d) 100))
  go_enter Tryz.func233, Tryz.ntmps233
  go_upto_region 1 with fail
  generalize w.alloc (.cells (dtv y m d) 100) = w0 at *
  have y2 : w0.cell? ⟨w.heap.size, 2, none⟩ = some (.int .i64 d) := G0.out.cell 2
  go_wp2_with fail
  go_loopw [3, 4] (fun s3 s4 wr => ∃ k : Nat, 1 ≤ k ∧ k ≤ m ∧ s4 = .int .i64 k ∧ s3 = .int .i64 (CA.cum y k + d) ∧ Blk wr w.heap.size 100 (dtv y m d) ∧ Below w.heap.size w wr) (fun _ s4 _ => m - (intOf s4).toNat)
  case atStart => exact ⟨1, Nat.le_refl _, m1, rfl, by show Value.int .i64 d = .int .i64 (0 + d); rw [Int.zero_add], G0.out, b0.out⟩
  case round =>
    obtain ⟨k, k1, k2, rfl, rfl, hG, hB⟩ := hrel
    have y0 : wr.cell? ⟨w.heap.size, 0, none⟩ = some (.int .i64 y) := hG.cell 0
    have y1 : wr.cell? ⟨w.heap.size, 1, none⟩ = some (.int .i64 (m : Int)) := hG.cell 1
    have GG := Lib.hid hG
    have BB := Lib.hid hB
    clear hG hB y2
    by_cases hk : k < m
    · have dk : decide ((k : Int) < (m : Int)) = true := decide_eq_true (by omega)
      have K := Lib.hid (KD.out k wr k1 (by omega))
      have hc := CA.cum_succ y k1
      have hb := CA.cum_bd y k
      have hd := CA.dm_pos y k
      go_wp2_with fail
      (with_reducible refine (K.out).mono ?_)
      rintro e w1 ⟨rfl, hb1⟩
      have G1 := Lib.hid (GG.out.below hb1 GG.out.lt)
      have B1 := Lib.hid (BB.out.trans (hb1.mono BB.out.size))
      clear hb1 GG BB y0 y1
      go_wp2
      go_roundw
      case rel => exact ⟨k + 1, by omega, by omega, by go_num, by rw [hc]; go_num, G1.out, B1.out⟩
      case measure => simp [intOf]; omega
    · have dk : decide ((k : Int) < (m : Int)) = false := decide_eq_false (by omega)
      obtain rfl : k = m := by omega
      go_wp2
      go_ret
      exact ⟨rfl, BB.out⟩
end Go.Proofs.YtbpnacacnncopaaGreatDoor
namespace Go.Proofs.YtbpnacacnncopaaGreatDoor
open Go.RowKit
theorem bef_bd {y : Int} (h : 1 ≤ y) (h1 : y ≤ 10000) : 0 ≤ CA.bef y ∧ CA.bef y ≤ 3652059 := by
  have a := CA.bef_mono h
  have b := CA.bef_mono h1
  rw [CA.bef_1] at a
  rw [CA.bef_10000] at b
  exact ⟨a, b⟩
set_option maxHeartbeats 1000000 in
set_option maxRecDepth 100000 in
theorem number_any (y d : Int) (m : Nat) (w : World) (h : 1 ≤ y) (h1 : y ≤ 9999) (m1 : 1 ≤ m) (m2 : m ≤ 12) (d0 : 0 ≤ d) (d1 : d ≤ 31) : Calls Tryz.prog 214 #[.agg (dtv y m d)] w fun e w' => e = .returned (.int .i64 (CA.num ⟨y, m, d⟩)) ∧ Below w.heap.size w w' := by
  have KB := Lib.hid (fun W => before_any y W h (by omega))
  have KZ := Lib.hid (fun W => before_any 2000 W (by omega) (by omega))
  rw [CA.bef_2000] at KZ
  have KD := Lib.hid (fun W => dayOf_any y d m W (by omega) m1 m2 d0 (by omega))
  have hb := bef_bd h (show y ≤ 10000 by omega)
  have hc := CA.cum_bd y m
  unfold CA.num
  simp only []
  have hC : 0 ≤ CA.cum y m + d ∧ CA.cum y m + d ≤ 1000 := by omega
  generalize CA.cum y m + d = C at *
  generalize CA.bef y = B at *
  have b0 := bl_alloc w (.cells (dtv y m d) 100)
  have G0 := Blk.new w 100 (dtv y m d)
  clear hc h h1 m1 m2 d0 d1
  obtain ⟨hb0, hb1⟩ := hb
  obtain ⟨hC0, hC1⟩ := hC
  go_enter Tryz.func214, Tryz.ntmps214
  go_upto_region 1 with fail
  generalize w.alloc (.cells (dtv y m d) 100) = w0 at *
  have y0 : ∀ s : BQ w0, s.w.cell? ⟨w.heap.size, 0, none⟩ = some (.int .i64 y) := fun s => (G0.below s.hb G0.lt).cell 0
  have y1 : ∀ s : BQ w0, s.w.cell? ⟨w.heap.size, 1, none⟩ = some (.int .i64 m) := fun s => (G0.below s.hb G0.lt).cell 1
  have y2 : ∀ s : BQ w0, s.w.cell? ⟨w.heap.size, 2, none⟩ = some (.int .i64 d) := fun s => (G0.below s.hb G0.lt).cell 2
  refine wp_region_bq w0 (by kernel_rfl) (by kernel_rfl) (Below.refl _ _) ?_
  repeat (go_big_quiet_step (first | (go_at_call 155; first | with_reducible exact quiet_bq0 (KB.out _) | with_reducible exact quiet_bq0 (KZ.out _)) | (go_at_call 233; exact quiet_bq (KD.out _)) | fail))
  refine wpQuiet_nil ?_
  intro w9 hb9
  go_wp2
  go_ret
  exact ⟨ret_in (by first | rfl | (simp_all; done) | omega), b0.trans (hb9.mono b0.size)⟩
set_option maxRecDepth 100000 in
theorem Number_any (y m d : Int) (w : World) : Calls Tryz.prog 177 #[.agg (dtv y m d)] w fun e w' => e = .returned (if vdB y m d = true then .tuple #[.int .i64 (CA.num ⟨y, m.toNat, d⟩), .int .i64 0] else .tuple #[.int .i64 0, .int .i64 1]) ∧ Below w.heap.size w w' := by
  have KV := Lib.hid (fun W => dValid_any y m d W)
  have b0 := bl_alloc w (.cells (dtv y m d) 100)
  have G0 := Blk.new w 100 (dtv y m d)
  cases hv : vdB y m d with
  | false =>
    rw [hv] at KV
    rw [if_neg (by simp)]
    clear hv
    go_enter Tryz.func177, Tryz.ntmps177
    go_upto_region 1 with fail
    generalize w.alloc (.cells (dtv y m d) 100) = w0 at *
    have y0 : w0.cell? ⟨w.heap.size, 0, none⟩ = some (.int .i64 y) := G0.cell 0
    have y1 : w0.cell? ⟨w.heap.size, 1, none⟩ = some (.int .i64 m) := G0.cell 1
    have y2 : w0.cell? ⟨w.heap.size, 2, none⟩ = some (.int .i64 d) := G0.cell 2
    go_wp2_with fail
    (refine (KV.out _).mono ?_)
    rintro e w1 ⟨rfl, hb⟩
    go_wp2
    go_ret2
    exact ⟨rfl, b0.trans (hb.mono b0.size)⟩
  | true =>
    rw [if_pos rfl]
    have hv' := hv
    unfold vdB at hv'
    simp only [Bool.and_eq_true, decide_eq_true_eq] at hv'
    obtain ⟨⟨a, b, c, c'⟩, e1, e2⟩ := hv'
    have hdm := CA.dm_pos y m.toNat
    have KN := Lib.hid (fun W => number_any y d m.toNat W a b (by omega) (by omega) (by omega) (by omega))
    rw [show ((m.toNat : Nat) : Int) = m by omega] at KN
    rw [hv] at KV
    generalize CA.num ⟨y, m.toNat, d⟩ = N at *
    clear hv a b c c' e1 e2 hdm
    go_enter Tryz.func177, Tryz.ntmps177
    go_upto_region 1 with fail
    generalize w.alloc (.cells (dtv y m d) 100) = w0 at *
    have y0 : w0.cell? ⟨w.heap.size, 0, none⟩ = some (.int .i64 y) := G0.cell 0
    have y1 : w0.cell? ⟨w.heap.size, 1, none⟩ = some (.int .i64 m) := G0.cell 1
    have y2 : w0.cell? ⟨w.heap.size, 2, none⟩ = some (.int .i64 d) := G0.cell 2
    go_wp2_with fail
    (refine (KV.out _).mono ?_)
    rintro e w1 ⟨rfl, hb⟩
    have G1 := G0.below hb G0.lt
    have b1 := b0.trans (hb.mono b0.size)
    clear hb y0 y1 y2 G0 b0
    have y0 : w1.cell? ⟨w.heap.size, 0, none⟩ = some (.int .i64 y) := G1.cell 0
    have y1 : w1.cell? ⟨w.heap.size, 1, none⟩ = some (.int .i64 m) := G1.cell 1
    have y2 : w1.cell? ⟨w.heap.size, 2, none⟩ = some (.int .i64 d) := G1.cell 2
    go_wp2_with fail
    (refine (KN.out _).mono ?_)
    rintro e w2 ⟨rfl, hb⟩
    go_wp2
    go_ret2
    exact ⟨rfl, b1.trans (hb.mono b1.size)⟩
end Go.Proofs.YtbpnacacnncopaaGreatDoor
