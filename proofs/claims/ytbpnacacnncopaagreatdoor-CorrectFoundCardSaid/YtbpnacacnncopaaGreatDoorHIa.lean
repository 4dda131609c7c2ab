/- Words for memory: slices that read as lists of cells; append onto a row of the call's own. -/
import Derived.Test.YtbpnacacnncopaaGreatDoorProg
import Derived.Lib.ItoaNum
import Derived.Lib.IndexMore
import Derived.Lib.Repeat
import Derived.Lib.Strings
import Derived.Shelf.Strings.Cut
import Derived.Ground.NamesProg
import Derived.Shelf.Small.Wraps
import Derived.Shelf.Strings.Prefix
import Derived.Shelf.Strings.OnBuilder
import Derived.Shelf.Strings.Repeat
import Derived.Shelf.Strconv.Itoa3
import Derived.Shelf.Strings.Builder1
import Derived.WalkKit
import Derived.WalkSpells
import Derived.WalkLawsBesides
import Derived.Deep.QuietTactic
import Derived.BigQuiet
import Derived.Lib.Hide
import Derived.IntWalk
import Derived.Deep.AppendLies
import Derived.Maps.AppendAt
import Derived.RegionTactic
import Derived.OwnWalk
import Derived.Laws.OwnMore
import Derived.Deep.Draws
import Derived.Laws.BitsAllLaws
import Derived.Laws.BitsLemmas
import Derived.StillTailTactics
import Derived.Deep.LoopGhost
set_option linter.unusedVariables false
set_option linter.unusedSimpArgs false
namespace Go.Proofs.YtbpnacacnncopaaGreatDoor.Frm
open Go Go.Lib
abbrev Bs := List UInt8
def dB (n : Nat) : UInt8 := UInt8.ofNat (48 + n)
/-- the digits of a number, none for 0 -/
def dg0 (n : Nat) : Bs := if n = 0 then [] else decDigits n
/-- the digits of a number, at least so many -/
def dgs (n k : Nat) : Bs := List.replicate (k - (dg0 n).length) 48 ++ dg0 n
theorem dd_small {n : Nat} (h : n < 10) : decDigits n = [dB n] := by rw [decDigits, dif_pos h]; rfl
theorem dd_big {n : Nat} (h : ¬ n < 10) : decDigits n = decDigits (n / 10) ++ [dB (n % 10)] := by rw [decDigits, dif_neg h]; rfl
theorem dg0_step {n : Nat} (h : 0 < n) : dg0 n = dg0 (n / 10) ++ [dB (n % 10)] := by
  unfold dg0
  rw [if_neg (by omega)]
  by_cases h1 : n < 10
  · rw [if_pos (by omega), dd_small h1, show n % 10 = n by omega]; rfl
  · rw [if_neg (by omega), dd_big h1]
theorem dgs_zero : dgs 0 0 = [] := rfl
theorem dgs_step {n k : Nat} (h : 0 < n ∨ 0 < k) : dgs n k = dgs (n / 10) (k - 1) ++ [dB (n % 10)] := by
  by_cases h0 : n = 0
  · subst h0
    obtain ⟨j, rfl⟩ : ∃ j, k = j + 1 := ⟨k - 1, by omega⟩
    unfold dgs dg0
    simp [List.replicate_succ']
    rfl
  · have e := dg0_step (n := n) (by omega)
    unfold dgs
    rw [e, List.length_append, List.length_singleton, ← List.append_assoc]
    congr 2
    congr 1
    omega
theorem dgs_pad {n k : Nat} (h : 0 < k) : dgs n k = List.replicate (k - (decDigits n).length) 48 ++ decDigits n := by
  unfold dgs dg0
  by_cases h0 : n = 0
  · subst h0
    rw [if_pos rfl, dd_small (by decide)]
    obtain ⟨j, rfl⟩ : ∃ j, k = j + 1 := ⟨k - 1, by omega⟩
    simp [List.replicate_succ']
    rfl
  · rw [if_neg h0]
theorem dd_pos (n : Nat) : 0 < (decDigits n).length := by
  by_cases h : n < 10
  · rw [dd_small h]; simp
  · rw [dd_big h]; simp
theorem dgs_one (n : Nat) : dgs n 1 = decDigits n := by
  have := dd_pos n
  rw [dgs_pad (by decide), show 1 - (decDigits n).length = 0 by omega]
  rfl
/-- the text of an integer of units -/
def textL (n : Int) : Bs :=
  (if n < 0 then [45] else []) ++ (decDigits (n.natAbs / 60000) ++ 45 :: (dgs (n.natAbs % 60000 / 1000) 2 ++ 46 :: (if n.natAbs % 1000 % 100 = 0 then decDigits (n.natAbs % 1000 / 100) else dgs (n.natAbs % 1000) 3)))
/-- a byte that is a digit -/
def isD (c : UInt8) : Bool := decide (48 ≤ c.toNat) && decide (c.toNat ≤ 57)
/-- the number of some digits, as the program makes it -/
def numV (l : Bs) : Nat := l.foldl (fun n c => min (10 * n + (c.toNat - 48)) 1125899906842624) 0
/-- the number of some digits, without a limit -/
def numU (l : Bs) : Nat := l.foldl (fun n c => 10 * n + (c.toNat - 48)) 0
theorem isD_dB {n : Nat} (h : n < 10) : isD (dB n) = true ∧ (dB n).toNat - 48 = n := by
  have : ∀ n : Fin 10, isD (dB n) = true ∧ (dB n).toNat - 48 = n := by decide
  exact this ⟨n, h⟩
theorem dd_isD (n : Nat) : ∀ c ∈ decDigits n, isD c = true := by
  induction n using Nat.strongRecOn with
  | _ n ih =>
    by_cases h : n < 10
    · rw [dd_small h]; intro c hc; simp at hc; subst hc; exact (isD_dB h).1
    · rw [dd_big h]
      intro c hc
      rcases List.mem_append.1 hc with h1 | h1
      · exact ih _ (by omega) c h1
      · simp at h1; subst h1; exact (isD_dB (Nat.mod_lt _ (by decide))).1
theorem dgs_isD (n k : Nat) : ∀ c ∈ dgs n k, isD c = true := by
  intro c hc
  unfold dgs dg0 at hc
  rcases List.mem_append.1 hc with h1 | h1
  · rw [List.mem_replicate] at h1; rw [h1.2]; decide
  · split at h1
    · cases h1
    · exact dd_isD n c h1
theorem numU_app (l _m : Bs) (c : UInt8) : numU (l ++ [c]) = 10 * numU l + (c.toNat - 48) := by unfold numU; rw [List.foldl_append]; rfl
theorem numU_dd (n : Nat) : numU (decDigits n) = n := by
  induction n using Nat.strongRecOn with
  | _ n ih =>
    by_cases h : n < 10
    · rw [dd_small h]; show 10 * 0 + ((dB n).toNat - 48) = n; rw [(isD_dB h).2]; omega
    · rw [dd_big h, numU_app _ [], ih _ (by omega), (isD_dB (Nat.mod_lt _ (by decide))).2]; omega
theorem numU_rep (k : Nat) (l : Bs) : numU (List.replicate k 48 ++ l) = numU l := by
  unfold numU
  rw [List.foldl_append]
  have : ∀ k, (List.replicate k (48 : UInt8)).foldl (fun n c => 10 * n + (c.toNat - 48)) 0 = 0 := by
    intro k
    induction k with
    | zero => rfl
    | succ k ih => rw [List.replicate_succ, List.foldl_cons]; exact ih
  rw [this]
theorem numU_dgs (n k : Nat) : numU (dgs n k) = n := by
  unfold dgs
  rw [numU_rep]
  unfold dg0
  split
  · subst_vars; rfl
  · exact numU_dd n
theorem fold_min : ∀ (l : Bs) (a : Nat), l.foldl (fun n c => min (10 * n + (c.toNat - 48)) 1125899906842624) (min a 1125899906842624) = min (l.foldl (fun n c => 10 * n + (c.toNat - 48)) a) 1125899906842624
  | [], a => rfl
  | c :: l, a => by
    rw [List.foldl_cons, List.foldl_cons, ← fold_min l, show min (10 * min a 1125899906842624 + (c.toNat - 48)) 1125899906842624 = min (10 * a + (c.toNat - 48)) 1125899906842624 by omega]
/-- with a limit or without: the same below it -/
theorem numV_min (l : Bs) : numV l = min (numU l) 1125899906842624 := by
  have := fold_min l 0
  rw [show min 0 1125899906842624 = 0 by omega] at this
  exact this
theorem numV_app (l : Bs) (c : UInt8) : numV (l ++ [c]) = min (10 * numV l + (c.toNat - 48)) 1125899906842624 := by unfold numV; rw [List.foldl_append]; rfl
theorem numV_le (l : Bs) : numV l ≤ 1125899906842624 := by rw [numV_min]; omega
theorem numU_dg3 {l : Bs} (h : ∀ c ∈ l, isD c = true) : numU l < 10 ^ l.length := by
  have : ∀ (l : Bs) (a : Nat), (∀ c ∈ l, isD c = true) → l.foldl (fun n c => 10 * n + (c.toNat - 48)) a < (a + 1) * 10 ^ l.length := by
    intro l
    induction l with
    | nil => intro a _; simp
    | cons c l ih =>
      intro a h
      rw [List.foldl_cons, List.length_cons, Nat.pow_succ]
      have h1 := ih (10 * a + (c.toNat - 48)) (fun x hx => h x (by simp [hx]))
      have h2 := h c (by simp)
      unfold isD at h2
      rw [Bool.and_eq_true, decide_eq_true_eq, decide_eq_true_eq] at h2
      refine Nat.lt_of_lt_of_le h1 ?_
      rw [Nat.mul_comm (10 ^ l.length) 10, ← Nat.mul_assoc]
      exact Nat.mul_le_mul_right _ (by omega)
  have := this l 0 h
  rw [show (0 + 1) * 10 ^ l.length = 10 ^ l.length by simp] at this
  exact this
def digP (l : Bs) : Nat × Bool := if l.all isD then (numV l, !l.isEmpty) else (0, false)
theorem digP_le (l : Bs) : (digP l).1 ≤ 1125899906842624 := by
  unfold digP
  split
  · exact numV_le l
  · exact Nat.zero_le _
theorem digP_of {l : Bs} (h : ∀ c ∈ l, isD c = true) (h0 : l ≠ []) (h1 : numU l ≤ 1125899906842624) : digP l = (numU l, true) := by
  unfold digP
  rw [if_pos (List.all_eq_true.2 h), numV_min, show min (numU l) 1125899906842624 = numU l by omega]
  cases l with
  | nil => exact absurd rfl h0
  | cons => rfl
theorem index_one (x : UInt8) : ∀ (D R : Bs), (∀ c ∈ D, c ≠ x) → index (D ++ x :: R) [x] = D.length
  | [], R, _ => by
    show index (x :: R) [x] = 0
    unfold index
    rw [if_pos (by simp)]
  | c :: D, R, h => by
    have hc : c ≠ x := h c (by simp)
    have ih := index_one x D R (fun y hy => h y (by simp [hy]))
    show index (c :: (D ++ x :: R)) [x] = _
    unfold index
    rw [if_neg (by simp; exact hc ∘ Eq.symm), ih, if_neg (by simp)]
    simp
theorem cut_one {x : UInt8} {D R : Bs} (h : ∀ c ∈ D, c ≠ x) : cut (D ++ x :: R) [x] = (D, R, true) := by
  unfold cut
  rw [index_one x D R h, if_pos (by omega)]
  simp
theorem dgs_len : ∀ (k n : Nat), n < 10 ^ k → (dgs n k).length = k
  | 0, n, h => by
    have : n = 0 := by simpa using h
    subst this
    rfl
  | k + 1, n, h => by
    rw [dgs_step (.inr (by omega)), List.length_append, Nat.add_sub_cancel, dgs_len k (n / 10) (by rw [Nat.pow_succ] at h; omega)]
    rfl
theorem dd_head : ∀ (n : Nat), 0 < n → (decDigits n).head? ≠ some 48 := by
  intro n
  induction n using Nat.strongRecOn with
  | _ n ih =>
    intro h0
    by_cases h : n < 10
    · rw [dd_small h]
      have : ∀ n : Fin 10, 0 < n.val → [dB n].head? ≠ some 48 := by decide
      exact this ⟨n, h⟩ h0
    · rw [dd_big h, List.head?_append]
      have := ih (n / 10) (by omega) (by omega)
      have hp := dd_pos (n / 10)
      cases hd : decDigits (n / 10) with
      | nil => rw [hd] at hp; simp at hp
      | cons a l => rw [hd] at this; simpa using this
theorem dd_lead (n : Nat) : ¬ (1 < (decDigits n).length ∧ (decDigits n).head? = some 48) := by
  rintro ⟨h1, h2⟩
  by_cases h : 0 < n
  · exact dd_head n h h2
  · rw [show n = 0 by omega, dd_small (by decide)] at h1
    simp at h1
theorem isD_ne {c : UInt8} (h : isD c = true) : c ≠ 45 ∧ c ≠ 46 ∧ c ≠ 32 := by
  refine ⟨?_, ?_, ?_⟩ <;> (rintro rfl; revert h; decide)
def endP (neg : Bool) (d m t : Nat) : Int × Int :=
  if 1099511627776 < d then (0, 5) else if 1099511627776 < d * 60000 + m * 1000 + t then (0, 5) else (if neg = true then -((d * 60000 + m * 1000 + t : Nat) : Int) else ((d * 60000 + m * 1000 + t : Nat) : Int), 0)
theorem endP_bd (neg : Bool) (d m t : Nat) : -1099511627776 ≤ (endP neg d m t).1 ∧ (endP neg d m t).1 ≤ 1099511627776 := by
  unfold endP
  split
  · simp
  · split
    · simp
    · rename_i h
      generalize d * 60000 + m * 1000 + t = z at h ⊢
      split <;> (simp only []; omega)
/-- what the program's Parse returns -/
def parseP (s : Bs) : Int × Int :=
  let c1 := cut (trimPrefix s [45]) [45]
  let c2 := cut c1.2.1 [46]
  let d := digP c1.1
  let m := digP c2.1
  let p := digP c2.2.1
  if c2.2.2 = true ∧ (p.2 = false ∨ 3 < c2.2.1.length) then (0, 7)
  else if c1.2.2 = false ∨ d.2 = false ∨ m.2 = false ∨ (1 < c1.1.length ∧ c1.1.head? = some 48) ∨ c2.1.length ≠ 2 ∨ 60 ≤ m.1 then (0, 7)
  else endP (hasPrefix s [45]) d.1 m.1 (if c2.2.2 = true then p.1 * 10 ^ (3 - c2.2.1.length) else 0)
theorem parseP_bd (s : Bs) : -1099511627776 ≤ (parseP s).1 ∧ (parseP s).1 ≤ 1099511627776 := by
  unfold parseP
  simp only []
  split
  · simp
  · split
    · simp
    · exact endP_bd _ _ _ _
/-- the text behind the sign -/
def bodyL (a : Nat) : Bs := decDigits (a / 60000) ++ 45 :: (dgs (a % 60000 / 1000) 2 ++ 46 :: (if a % 1000 % 100 = 0 then decDigits (a % 1000 / 100) else dgs (a % 1000) 3))
theorem textL_eq (n : Int) : textL n = (if n < 0 then [45] else []) ++ bodyL n.natAbs := rfl
theorem body_head (a : Nat) : ∃ c l, bodyL a = c :: l ∧ isD c = true := by
  have hp := dd_pos (a / 60000)
  have hd := dd_isD (a / 60000)
  unfold bodyL
  cases h : decDigits (a / 60000) with
  | nil => rw [h] at hp; simp at hp
  | cons c l => exact ⟨c, _, rfl, hd c (by rw [h]; simp)⟩
theorem trim_text (n : Int) : trimPrefix (textL n) [45] = bodyL n.natAbs ∧ (hasPrefix (textL n) [45] = true ↔ n < 0) := by
  rw [textL_eq]
  by_cases h : n < 0
  · rw [if_pos h]
    unfold trimPrefix hasPrefix
    simp [h]
  · rw [if_neg h]
    obtain ⟨c, l, he, hc⟩ := body_head n.natAbs
    have hne := (isD_ne hc).1
    unfold trimPrefix hasPrefix
    rw [he]
    have : (List.isPrefixOf [45] (c :: l)) = false := by
      have hx : ((45 : UInt8) == c) = false := by simpa using hne ∘ Eq.symm
      unfold List.isPrefixOf
      rw [hx]
      rfl
    simp only [List.nil_append, this]
    simp [h]
/-- the digits behind the point -/
def fracL (a : Nat) : Bs := if a % 1000 % 100 = 0 then decDigits (a % 1000 / 100) else dgs (a % 1000) 3
theorem frac_facts (a : Nat) : (∀ c ∈ fracL a, isD c = true) ∧ fracL a ≠ [] ∧ (fracL a).length ≤ 3 ∧ numU (fracL a) * 10 ^ (3 - (fracL a).length) = a % 1000 := by
  unfold fracL
  split
  · rename_i h
    have h1 : a % 1000 / 100 < 10 := by omega
    refine ⟨dd_isD _, ?_, ?_, ?_⟩
    · rw [dd_small h1]; simp
    · rw [dd_small h1]; simp
    · rw [numU_dd, dd_small h1]; simp; omega
  · have hl : (dgs (a % 1000) 3).length = 3 := dgs_len 3 _ (by omega)
    refine ⟨dgs_isD _ _, ?_, by omega, ?_⟩
    · intro h; rw [h] at hl; simp at hl
    · rw [hl, numU_dgs]; simp
theorem cut_body (a : Nat) : cut (bodyL a) [45] = (decDigits (a / 60000), dgs (a % 60000 / 1000) 2 ++ 46 :: fracL a, true) ∧ cut (dgs (a % 60000 / 1000) 2 ++ 46 :: fracL a) [46] = (dgs (a % 60000 / 1000) 2, fracL a, true) :=
  ⟨cut_one fun c hc => (isD_ne (dd_isD _ c hc)).1, cut_one fun c hc => (isD_ne (dgs_isD _ _ c hc)).2.1⟩
theorem parseP_text {n : Int} (h : n.natAbs ≤ 1099511627776) : parseP (textL n) = (n, 0) := by
  obtain ⟨h1, h2⟩ := trim_text n
  obtain ⟨c1, c2⟩ := cut_body n.natAbs
  obtain ⟨f1, f2, f3, f4⟩ := frac_facts n.natAbs
  have hl : (dgs (n.natAbs % 60000 / 1000) 2).length = 2 := dgs_len 2 _ (by omega)
  have hle := numU_dg3 f1
  have hpw : 10 ^ (fracL n.natAbs).length ≤ 10 ^ 3 := Nat.pow_le_pow_right (by decide) f3
  have d1 := digP_of (dd_isD (n.natAbs / 60000)) (by intro h; have := dd_pos (n.natAbs / 60000); rw [h] at this; simp at this) (by rw [numU_dd]; omega)
  have d2 := digP_of (dgs_isD (n.natAbs % 60000 / 1000) 2) (by intro h; rw [h] at hl; simp at hl) (by rw [numU_dgs]; omega)
  have d3 := digP_of f1 f2 (by omega)
  rw [numU_dd] at d1
  rw [numU_dgs] at d2
  unfold parseP
  simp only [h1, c1, c2, d1, d2, d3, hl, f4]
  rw [if_neg (by simp; omega), if_neg (by simp only [Bool.true_eq_false, false_or, ne_eq, not_true]; have := dd_lead (n.natAbs / 60000); rintro (h | h); exact this h; omega)]
  unfold endP
  simp only [if_true]
  rw [if_neg (by omega), if_neg (by omega)]
  by_cases hn : n < 0
  · rw [if_pos (h2.2 hn)]
    congr 1
    omega
  · rw [if_neg (fun h => hn (h2.1 h))]
    congr 1
    omega
theorem dd_len : ∀ (k n : Nat), n < 10 ^ (k + 1) → (decDigits n).length ≤ k + 1
  | 0, n, h => by rw [dd_small (by simpa using h)]; simp
  | k + 1, n, h => by
    by_cases h1 : n < 10
    · rw [dd_small h1]; simp
    · rw [dd_big h1, List.length_append]
      have := dd_len k (n / 10) (by rw [Nat.pow_succ] at h; omega)
      simp only [List.length_singleton]
      omega
theorem itoa_nat (n : Nat) : itoa (n : Int) = decDigits n := by
  unfold itoa
  rw [if_neg (by omega)]
  rfl
theorem text_len {n : Int} (h : n.natAbs ≤ 1099511627776) : (textL n).length ≤ 40 := by
  have h1 := dd_len 7 (n.natAbs / 60000) (by omega)
  have h2 : (dgs (n.natAbs % 60000 / 1000) 2).length = 2 := dgs_len 2 _ (by omega)
  have h3 := (frac_facts n.natAbs).2.2.1
  have hs : (if n < 0 then [45] else ([] : Bs)).length ≤ 1 := by split <;> simp
  unfold fracL at h3
  unfold textL
  rw [List.length_append, List.length_append, List.length_cons, List.length_append, List.length_cons]
  omega
end Go.Proofs.YtbpnacacnncopaaGreatDoor.Frm
namespace Go.Proofs.YtbpnacacnncopaaGreatDoor.Frm
open Go Go.Lib
theorem text_sp (n : Int) : ∀ c ∈ textL n, c ≠ 32 := by
  intro c hc
  unfold textL at hc
  rcases List.mem_append.1 hc with h | h
  · split at h
    · simp at h; subst h; decide
    · cases h
  rcases List.mem_append.1 h with h | h
  · exact (isD_ne (dd_isD _ c h)).2.2
  rcases List.mem_cons.1 h with h | h
  · subst h; decide
  rcases List.mem_append.1 h with h | h
  · exact (isD_ne (dgs_isD _ _ c h)).2.2
  rcases List.mem_cons.1 h with h | h
  · subst h; decide
  split at h
  · exact (isD_ne (dd_isD _ c h)).2.2
  · exact (isD_ne (dgs_isD _ _ c h)).2.2
end Go.Proofs.YtbpnacacnncopaaGreatDoor.Frm
namespace Go.Proofs
open Go.Shelf
def Tryz.lays145_ren : Go.Shelf.Ren := ⟨fun | 145 => 122 | 220 => 175 | 219 => 174 | 217 => 210 | 225 => 211 | 224 => 212 | 267 => 213 | 266 => 231 | 314 => 232 | n => n, fun | 9 => 9 | 4 => 4 | 59 => 147 | 3 => 3 | 5 => 5 | 46 => 90 | 146 => 219 | 51 => 207 | n => n, fun | 1 => 1 | n => n⟩
theorem Tryz.lays145 : Go.Proofs.Lays.n145 Tryz.prog Tryz.lays145_ren := {
  mixed := by kernel_rfl
  f145 := Tryz.func122.trans (congrArg some (by kernel_rfl))
  f217 := Tryz.func210.trans (congrArg some (by kernel_rfl))
  f219 := Tryz.func174.trans (congrArg some (by kernel_rfl))
  f220 := Tryz.func175.trans (congrArg some (by kernel_rfl))
  f224 := Tryz.func212.trans (congrArg some (by kernel_rfl))
  f225 := Tryz.func211.trans (congrArg some (by kernel_rfl))
  f266 := Tryz.func231.trans (congrArg some (by kernel_rfl))
  f267 := Tryz.func213.trans (congrArg some (by kernel_rfl))
  f314 := Tryz.func232.trans (congrArg some (by kernel_rfl))
  t3 := Tryz.underlying3
  a3 := Tryz.isAgg3
  z3 := Tryz.sizeOf3
  v3 := Tryz.zeroValue3
  t4 := Tryz.underlying4
  a4 := Tryz.isAgg4
  z4 := Tryz.sizeOf4
  v4 := Tryz.zeroValue4
  t5 := Tryz.underlying5
  a5 := Tryz.isAgg5
  z5 := Tryz.sizeOf5
  v5 := Tryz.zeroValue5
  t9 := Tryz.underlying9
  a9 := Tryz.isAgg9
  z9 := Tryz.sizeOf9
  v9 := Tryz.zeroValue9
  t46 := Tryz.underlying90
  a46 := Tryz.isAgg90
  z46 := Tryz.sizeOf90
  v46 := Tryz.zeroValue90
  t51 := Tryz.underlying207
  a51 := Tryz.isAgg207
  z51 := Tryz.sizeOf207
  v51 := Tryz.zeroValue207
  t59 := Tryz.underlying147
  a59 := Tryz.isAgg147
  z59 := Tryz.sizeOf147
  v59 := Tryz.zeroValue147
  t146 := Tryz.underlying219
  a146 := Tryz.isAgg219
  z146 := Tryz.sizeOf219
  v146 := Tryz.zeroValue219
  g1 := by kernel_rfl }
def Tryz.lays103_ren : Go.Shelf.Ren := ⟨fun | 103 => 126 | 210 => 178 | 206 => 215 | n => n, fun | 9 => 9 | 4 => 4 | 24 => 151 | 3 => 3 | n => n, fun | n => n⟩
theorem Tryz.lays103 : Go.Proofs.Lays.n103 Tryz.prog Tryz.lays103_ren := {
  mixed := by kernel_rfl
  f103 := Tryz.func126.trans (congrArg some (by kernel_rfl))
  f206 := Tryz.func215.trans (congrArg some (by kernel_rfl))
  f210 := Tryz.func178.trans (congrArg some (by kernel_rfl))
  t3 := Tryz.underlying3
  a3 := Tryz.isAgg3
  z3 := Tryz.sizeOf3
  v3 := Tryz.zeroValue3
  t4 := Tryz.underlying4
  a4 := Tryz.isAgg4
  z4 := Tryz.sizeOf4
  v4 := Tryz.zeroValue4
  t9 := Tryz.underlying9
  a9 := Tryz.isAgg9
  z9 := Tryz.sizeOf9
  v9 := Tryz.zeroValue9
  t24 := Tryz.underlying151
  a24 := Tryz.isAgg151
  z24 := Tryz.sizeOf151
  v24 := Tryz.zeroValue151 }
def Tryz.lays156_ren : Go.Shelf.Ren := ⟨fun | 156 => 26 | 165 => 70 | 166 => 71 | 169 => 72 | 240 => 111 | 241 => 112 | 276 => 166 | 277 => 167 | n => n, fun | 31 => 61 | 9 => 9 | 3 => 3 | 4 => 4 | 0 => 0 | 20 => 20 | 72 => 108 | 76 => 112 | 70 => 105 | 37 => 106 | 75 => 111 | 127 => 142 | 164 => 180 | 5 => 5 | 80 => 75 | n => n, fun | n => n⟩
theorem Tryz.lays156 : Go.Proofs.Lays.n156 Tryz.prog Tryz.lays156_ren := {
  mixed := by kernel_rfl
  f156 := Tryz.func26.trans (congrArg some (by kernel_rfl))
  f165 := Tryz.func70.trans (congrArg some (by kernel_rfl))
  f166 := Tryz.func71.trans (congrArg some (by kernel_rfl))
  f169 := Tryz.func72.trans (congrArg some (by kernel_rfl))
  f240 := Tryz.func111.trans (congrArg some (by kernel_rfl))
  f241 := Tryz.func112.trans (congrArg some (by kernel_rfl))
  f276 := Tryz.func166.trans (congrArg some (by kernel_rfl))
  f277 := Tryz.func167.trans (congrArg some (by kernel_rfl))
  t0 := Tryz.underlying0
  a0 := Tryz.isAgg0
  z0 := Tryz.sizeOf0
  v0 := Tryz.zeroValue0
  t3 := Tryz.underlying3
  a3 := Tryz.isAgg3
  z3 := Tryz.sizeOf3
  v3 := Tryz.zeroValue3
  t4 := Tryz.underlying4
  a4 := Tryz.isAgg4
  z4 := Tryz.sizeOf4
  v4 := Tryz.zeroValue4
  t9 := Tryz.underlying9
  a9 := Tryz.isAgg9
  z9 := Tryz.sizeOf9
  v9 := Tryz.zeroValue9
  t20 := Tryz.underlying20
  a20 := Tryz.isAgg20
  z20 := Tryz.sizeOf20
  v20 := Tryz.zeroValue20
  t31 := Tryz.underlying61
  a31 := Tryz.isAgg61
  z31 := Tryz.sizeOf61
  v31 := Tryz.zeroValue61
  t37 := Tryz.underlying106
  a37 := Tryz.isAgg106
  z37 := Tryz.sizeOf106
  v37 := Tryz.zeroValue106
  t70 := Tryz.underlying105
  a70 := Tryz.isAgg105
  z70 := Tryz.sizeOf105
  v70 := Tryz.zeroValue105
  t72 := Tryz.underlying108
  a72 := Tryz.isAgg108
  z72 := Tryz.sizeOf108
  v72 := Tryz.zeroValue108
  t75 := Tryz.underlying111
  a75 := Tryz.isAgg111
  z75 := Tryz.sizeOf111
  v75 := Tryz.zeroValue111
  t76 := Tryz.underlying112
  a76 := Tryz.isAgg112
  z76 := Tryz.sizeOf112
  v76 := Tryz.zeroValue112
  t127 := Tryz.underlying142
  a127 := Tryz.isAgg142
  z127 := Tryz.sizeOf142
  v127 := Tryz.zeroValue142
  t164 := Tryz.underlying180
  a164 := Tryz.isAgg180
  z164 := Tryz.sizeOf180
  v164 := Tryz.zeroValue180 }
theorem Tryz.Builder_Extra_156 : Builder.Extra Tryz.prog Tryz.lays156_ren := {
  sizeBuilder := by kernel_rfl
  liesBuilder := by kernel_rfl
  t5 := Tryz.underlying5
  a5 := Tryz.isAgg5
  z5 := Tryz.sizeOf5
  v5 := Tryz.zeroValue5
  infoByte := by kernel_rfl
  cellsByte := by kernel_rfl
  sizeByte := by kernel_rfl
  neB5 := by decide }
def Tryz.lays105_ren : Go.Shelf.Ren := ⟨fun | 105 => 161 | 212 => 198 | 99 => 199 | 165 => 70 | 166 => 71 | 170 => 200 | 169 => 72 | 263 => 227 | 264 => 228 | 206 => 215 | 240 => 111 | 241 => 112 | 276 => 166 | 277 => 167 | n => n, fun | 9 => 9 | 3 => 3 | 4 => 4 | 20 => 20 | 0 => 0 | 46 => 90 | 109 => 202 | 5 => 5 | 72 => 108 | 76 => 112 | 51 => 207 | 146 => 219 | 53 => 175 | 148 => 221 | 70 => 105 | 37 => 106 | 75 => 111 | 127 => 142 | 164 => 180 | 80 => 75 | n => n, fun | n => n⟩
theorem Tryz.lays105 : Go.Proofs.Lays.n105 Tryz.prog Tryz.lays105_ren := {
  mixed := by kernel_rfl
  f99 := Tryz.func199.trans (congrArg some (by kernel_rfl))
  f105 := Tryz.func161.trans (congrArg some (by kernel_rfl))
  f165 := Tryz.func70.trans (congrArg some (by kernel_rfl))
  f166 := Tryz.func71.trans (congrArg some (by kernel_rfl))
  f169 := Tryz.func72.trans (congrArg some (by kernel_rfl))
  f170 := Tryz.func200.trans (congrArg some (by kernel_rfl))
  f206 := Tryz.func215.trans (congrArg some (by kernel_rfl))
  f212 := Tryz.func198.trans (congrArg some (by kernel_rfl))
  f240 := Tryz.func111.trans (congrArg some (by kernel_rfl))
  f241 := Tryz.func112.trans (congrArg some (by kernel_rfl))
  f263 := Tryz.func227.trans (congrArg some (by kernel_rfl))
  f264 := Tryz.func228.trans (congrArg some (by kernel_rfl))
  f276 := Tryz.func166.trans (congrArg some (by kernel_rfl))
  f277 := Tryz.func167.trans (congrArg some (by kernel_rfl))
  t0 := Tryz.underlying0
  a0 := Tryz.isAgg0
  z0 := Tryz.sizeOf0
  v0 := Tryz.zeroValue0
  t3 := Tryz.underlying3
  a3 := Tryz.isAgg3
  z3 := Tryz.sizeOf3
  v3 := Tryz.zeroValue3
  t4 := Tryz.underlying4
  a4 := Tryz.isAgg4
  z4 := Tryz.sizeOf4
  v4 := Tryz.zeroValue4
  t5 := Tryz.underlying5
  a5 := Tryz.isAgg5
  z5 := Tryz.sizeOf5
  v5 := Tryz.zeroValue5
  t9 := Tryz.underlying9
  a9 := Tryz.isAgg9
  z9 := Tryz.sizeOf9
  v9 := Tryz.zeroValue9
  t20 := Tryz.underlying20
  a20 := Tryz.isAgg20
  z20 := Tryz.sizeOf20
  v20 := Tryz.zeroValue20
  t37 := Tryz.underlying106
  a37 := Tryz.isAgg106
  z37 := Tryz.sizeOf106
  v37 := Tryz.zeroValue106
  t46 := Tryz.underlying90
  a46 := Tryz.isAgg90
  z46 := Tryz.sizeOf90
  v46 := Tryz.zeroValue90
  t51 := Tryz.underlying207
  a51 := Tryz.isAgg207
  z51 := Tryz.sizeOf207
  v51 := Tryz.zeroValue207
  t53 := Tryz.underlying175
  a53 := Tryz.isAgg175
  z53 := Tryz.sizeOf175
  v53 := Tryz.zeroValue175
  t70 := Tryz.underlying105
  a70 := Tryz.isAgg105
  z70 := Tryz.sizeOf105
  v70 := Tryz.zeroValue105
  t72 := Tryz.underlying108
  a72 := Tryz.isAgg108
  z72 := Tryz.sizeOf108
  v72 := Tryz.zeroValue108
  t75 := Tryz.underlying111
  a75 := Tryz.isAgg111
  z75 := Tryz.sizeOf111
  v75 := Tryz.zeroValue111
  t76 := Tryz.underlying112
  a76 := Tryz.isAgg112
  z76 := Tryz.sizeOf112
  v76 := Tryz.zeroValue112
  t109 := Tryz.underlying202
  a109 := Tryz.isAgg202
  z109 := Tryz.sizeOf202
  v109 := Tryz.zeroValue202
  t127 := Tryz.underlying142
  a127 := Tryz.isAgg142
  z127 := Tryz.sizeOf142
  v127 := Tryz.zeroValue142
  t146 := Tryz.underlying219
  a146 := Tryz.isAgg219
  z146 := Tryz.sizeOf219
  v146 := Tryz.zeroValue219
  t148 := Tryz.underlying221
  a148 := Tryz.isAgg221
  z148 := Tryz.sizeOf221
  v148 := Tryz.zeroValue221
  t164 := Tryz.underlying180
  a164 := Tryz.isAgg180
  z164 := Tryz.sizeOf180
  v164 := Tryz.zeroValue180 }
theorem Tryz.Builder_Extra_105 : Builder.Extra Tryz.prog Tryz.lays105_ren := {
  sizeBuilder := by kernel_rfl
  liesBuilder := by kernel_rfl
  t5 := Tryz.underlying5
  a5 := Tryz.isAgg5
  z5 := Tryz.sizeOf5
  v5 := Tryz.zeroValue5
  infoByte := by kernel_rfl
  cellsByte := by kernel_rfl
  sizeByte := by kernel_rfl
  neB5 := by decide }
def Tryz.lays171_ren : Go.Shelf.Ren := ⟨fun | 171 => 25 | 243 => 69 | 246 => 110 | 283 => 162 | 284 => 163 | 285 => 164 | 286 => 165 | 129 => 202 | 317 => 201 | 318 => 203 | 319 => 204 | 320 => 205 | 337 => 229 | 338 => 230 | n => n, fun | 3 => 3 | 9 => 9 | 2 => 2 | 4 => 4 | 171 => 174 | 0 => 0 | 53 => 175 | 37 => 106 | 5 => 5 | 173 => 178 | 212 => 206 | 51 => 207 | 20 => 20 | 213 => 208 | 46 => 90 | 232 => 242 | 233 => 243 | n => n, fun | 17 => 0 | 18 => 6 | 19 => 7 | n => n⟩
theorem Tryz.lays171 : Go.Proofs.LaysM.n171 Tryz.prog Tryz.lays171_ren := {
  mixed := by kernel_rfl
  f129 := Tryz.func202.trans (congrArg some (by kernel_rfl))
  f171 := Tryz.func25.trans (congrArg some (by kernel_rfl))
  f243 := Tryz.func69.trans (congrArg some (by kernel_rfl))
  f246 := Tryz.func110.trans (congrArg some (by kernel_rfl))
  f283 := Tryz.func162.trans (congrArg some (by kernel_rfl))
  f284 := Tryz.func163.trans (congrArg some (by kernel_rfl))
  f285 := Tryz.func164.trans (congrArg some (by kernel_rfl))
  f286 := Tryz.func165.trans (congrArg some (by kernel_rfl))
  f317 := Tryz.func201.trans (congrArg some (by kernel_rfl))
  f318 := Tryz.func203.trans (congrArg some (by kernel_rfl))
  f319 := Tryz.func204.trans (congrArg some (by kernel_rfl))
  f320 := Tryz.func205.trans (congrArg some (by kernel_rfl))
  f337 := Tryz.func229.trans (congrArg some (by kernel_rfl))
  f338 := Tryz.func230.trans (congrArg some (by kernel_rfl))
  t0 := Tryz.underlying0
  a0 := Tryz.isAgg0
  z0 := Tryz.sizeOf0
  v0 := Tryz.zeroValue0
  t2 := Tryz.underlying2
  a2 := Tryz.isAgg2
  z2 := Tryz.sizeOf2
  v2 := Tryz.zeroValue2
  t3 := Tryz.underlying3
  a3 := Tryz.isAgg3
  z3 := Tryz.sizeOf3
  v3 := Tryz.zeroValue3
  t4 := Tryz.underlying4
  a4 := Tryz.isAgg4
  z4 := Tryz.sizeOf4
  v4 := Tryz.zeroValue4
  t5 := Tryz.underlying5
  a5 := Tryz.isAgg5
  z5 := Tryz.sizeOf5
  v5 := Tryz.zeroValue5
  t9 := Tryz.underlying9
  a9 := Tryz.isAgg9
  z9 := Tryz.sizeOf9
  v9 := Tryz.zeroValue9
  t20 := Tryz.underlying20
  a20 := Tryz.isAgg20
  z20 := Tryz.sizeOf20
  v20 := Tryz.zeroValue20
  t37 := Tryz.underlying106
  a37 := Tryz.isAgg106
  z37 := Tryz.sizeOf106
  v37 := Tryz.zeroValue106
  t46 := Tryz.underlying90
  a46 := Tryz.isAgg90
  z46 := Tryz.sizeOf90
  v46 := Tryz.zeroValue90
  t51 := Tryz.underlying207
  a51 := Tryz.isAgg207
  z51 := Tryz.sizeOf207
  v51 := Tryz.zeroValue207
  t53 := Tryz.underlying175
  a53 := Tryz.isAgg175
  z53 := Tryz.sizeOf175
  v53 := Tryz.zeroValue175
  t171 := Tryz.underlying174
  a171 := Tryz.isAgg174
  z171 := Tryz.sizeOf174
  v171 := Tryz.zeroValue174
  t173 := Tryz.underlying178
  a173 := Tryz.isAgg178
  z173 := Tryz.sizeOf178
  v173 := Tryz.zeroValue178
  t212 := Tryz.underlying206
  a212 := Tryz.isAgg206
  z212 := Tryz.sizeOf206
  v212 := Tryz.zeroValue206
  t213 := Tryz.underlying208
  a213 := Tryz.isAgg208
  z213 := Tryz.sizeOf208
  t232 := Tryz.underlying242
  a232 := Tryz.isAgg242
  z232 := Tryz.sizeOf242
  v232 := Tryz.zeroValue242
  t233 := Tryz.underlying243
  a233 := Tryz.isAgg243
  z233 := Tryz.sizeOf243
  v233 := Tryz.zeroValue243
  g17 := by kernel_rfl
  g18 := by kernel_rfl
  g19 := by kernel_rfl
  i0 := by kernel_rfl
  i2 := by kernel_rfl
  i3 := by kernel_rfl
  i4 := by kernel_rfl
  i5 := by kernel_rfl
  i9 := by kernel_rfl
  i20 := by kernel_rfl
  i37 := by kernel_rfl
  i46 := by kernel_rfl
  i51 := by kernel_rfl
  i53 := by kernel_rfl
  i171 := by kernel_rfl
  i173 := by kernel_rfl
  i212 := by kernel_rfl
  i232 := by kernel_rfl
  i233 := by kernel_rfl
  m17 := by kernel_rfl
  m18 := by kernel_rfl
  m19 := by kernel_rfl }
def Tryz.lays169_ren : Go.Shelf.Ren := ⟨fun | 169 => 72 | n => n, fun | 70 => 105 | 9 => 9 | 0 => 0 | 72 => 108 | 37 => 106 | 127 => 142 | 3 => 3 | 5 => 5 | n => n, fun | n => n⟩
theorem Tryz.lays169 : Go.Proofs.Lays.n169 Tryz.prog Tryz.lays169_ren := {
  mixed := by kernel_rfl
  f169 := Tryz.func72.trans (congrArg some (by kernel_rfl))
  t0 := Tryz.underlying0
  a0 := Tryz.isAgg0
  z0 := Tryz.sizeOf0
  v0 := Tryz.zeroValue0
  t3 := Tryz.underlying3
  a3 := Tryz.isAgg3
  z3 := Tryz.sizeOf3
  v3 := Tryz.zeroValue3
  t9 := Tryz.underlying9
  a9 := Tryz.isAgg9
  z9 := Tryz.sizeOf9
  v9 := Tryz.zeroValue9
  t37 := Tryz.underlying106
  a37 := Tryz.isAgg106
  z37 := Tryz.sizeOf106
  v37 := Tryz.zeroValue106
  t70 := Tryz.underlying105
  a70 := Tryz.isAgg105
  z70 := Tryz.sizeOf105
  v70 := Tryz.zeroValue105
  t72 := Tryz.underlying108
  a72 := Tryz.isAgg108
  z72 := Tryz.sizeOf108
  v72 := Tryz.zeroValue108
  t127 := Tryz.underlying142
  a127 := Tryz.isAgg142
  z127 := Tryz.sizeOf142
  v127 := Tryz.zeroValue142 }
theorem Tryz.Builder_Extra_169 : Builder.Extra Tryz.prog Tryz.lays169_ren := {
  sizeBuilder := by kernel_rfl
  liesBuilder := by kernel_rfl
  t5 := Tryz.underlying5
  a5 := Tryz.isAgg5
  z5 := Tryz.sizeOf5
  v5 := Tryz.zeroValue5
  infoByte := by kernel_rfl
  cellsByte := by kernel_rfl
  sizeByte := by kernel_rfl
  neB5 := by decide }
end Go.Proofs
namespace Go.Proofs
open Go.Shelf
def Tryz.lays167_ren : Go.Shelf.Ren := ⟨fun | 167 => 108 | 240 => 111 | 276 => 166 | n => n, fun | 0 => 0 | 4 => 4 | 5 => 5 | 9 => 9 | 20 => 20 | 37 => 106 | 70 => 105 | 72 => 108 | 75 => 111 | 80 => 75 | 164 => 180 | n => n, fun | n => n⟩
theorem Tryz.lays167 : Go.Proofs.Lays.n167 Tryz.prog Tryz.lays167_ren := {
  mixed := by kernel_rfl
  f167 := Tryz.func108.trans (congrArg some (by kernel_rfl))
  f240 := Tryz.func111.trans (congrArg some (by kernel_rfl))
  f276 := Tryz.func166.trans (congrArg some (by kernel_rfl))
  t0 := Tryz.underlying0
  a0 := Tryz.isAgg0
  z0 := Tryz.sizeOf0
  v0 := Tryz.zeroValue0
  t4 := Tryz.underlying4
  a4 := Tryz.isAgg4
  z4 := Tryz.sizeOf4
  v4 := Tryz.zeroValue4
  t5 := Tryz.underlying5
  a5 := Tryz.isAgg5
  z5 := Tryz.sizeOf5
  v5 := Tryz.zeroValue5
  t9 := Tryz.underlying9
  a9 := Tryz.isAgg9
  z9 := Tryz.sizeOf9
  v9 := Tryz.zeroValue9
  t20 := Tryz.underlying20
  a20 := Tryz.isAgg20
  z20 := Tryz.sizeOf20
  v20 := Tryz.zeroValue20
  t37 := Tryz.underlying106
  a37 := Tryz.isAgg106
  z37 := Tryz.sizeOf106
  v37 := Tryz.zeroValue106
  t70 := Tryz.underlying105
  a70 := Tryz.isAgg105
  z70 := Tryz.sizeOf105
  v70 := Tryz.zeroValue105
  t72 := Tryz.underlying108
  a72 := Tryz.isAgg108
  z72 := Tryz.sizeOf108
  v72 := Tryz.zeroValue108
  t75 := Tryz.underlying111
  a75 := Tryz.isAgg111
  z75 := Tryz.sizeOf111
  v75 := Tryz.zeroValue111
  t164 := Tryz.underlying180
  a164 := Tryz.isAgg180
  z164 := Tryz.sizeOf180
  v164 := Tryz.zeroValue180 }
theorem Tryz.Builder_Extra_167 : Builder.Extra Tryz.prog Tryz.lays167_ren where
  sizeBuilder := by kernel_rfl
  liesBuilder := by kernel_rfl
  t5 := Tryz.underlying5
  a5 := Tryz.isAgg5
  z5 := Tryz.sizeOf5
  v5 := Tryz.zeroValue5
  infoByte := by kernel_rfl
  cellsByte := by kernel_rfl
  sizeByte := by kernel_rfl
  neB5 := by decide
def Tryz.lays166_ren : Go.Shelf.Ren := ⟨fun | 166 => 71 | 240 => 111 | 276 => 166 | n => n, fun | 0 => 0 | 3 => 3 | 4 => 4 | 5 => 5 | 9 => 9 | 20 => 20 | 37 => 106 | 70 => 105 | 72 => 108 | 75 => 111 | 80 => 75 | 164 => 180 | n => n, fun | n => n⟩
theorem Tryz.lays166 : Go.Proofs.Lays.n166 Tryz.prog Tryz.lays166_ren := {
  mixed := by kernel_rfl
  f166 := Tryz.func71.trans (congrArg some (by kernel_rfl))
  f240 := Tryz.func111.trans (congrArg some (by kernel_rfl))
  f276 := Tryz.func166.trans (congrArg some (by kernel_rfl))
  t0 := Tryz.underlying0
  a0 := Tryz.isAgg0
  z0 := Tryz.sizeOf0
  v0 := Tryz.zeroValue0
  t3 := Tryz.underlying3
  a3 := Tryz.isAgg3
  z3 := Tryz.sizeOf3
  v3 := Tryz.zeroValue3
  t4 := Tryz.underlying4
  a4 := Tryz.isAgg4
  z4 := Tryz.sizeOf4
  v4 := Tryz.zeroValue4
  t9 := Tryz.underlying9
  a9 := Tryz.isAgg9
  z9 := Tryz.sizeOf9
  v9 := Tryz.zeroValue9
  t20 := Tryz.underlying20
  a20 := Tryz.isAgg20
  z20 := Tryz.sizeOf20
  v20 := Tryz.zeroValue20
  t37 := Tryz.underlying106
  a37 := Tryz.isAgg106
  z37 := Tryz.sizeOf106
  v37 := Tryz.zeroValue106
  t70 := Tryz.underlying105
  a70 := Tryz.isAgg105
  z70 := Tryz.sizeOf105
  v70 := Tryz.zeroValue105
  t72 := Tryz.underlying108
  a72 := Tryz.isAgg108
  z72 := Tryz.sizeOf108
  v72 := Tryz.zeroValue108
  t75 := Tryz.underlying111
  a75 := Tryz.isAgg111
  z75 := Tryz.sizeOf111
  v75 := Tryz.zeroValue111
  t164 := Tryz.underlying180
  a164 := Tryz.isAgg180
  z164 := Tryz.sizeOf180
  v164 := Tryz.zeroValue180 }
theorem Tryz.Builder_Extra_166 : Builder.Extra Tryz.prog Tryz.lays166_ren where
  sizeBuilder := by kernel_rfl
  liesBuilder := by kernel_rfl
  t5 := Tryz.underlying5
  a5 := Tryz.isAgg5
  z5 := Tryz.sizeOf5
  v5 := Tryz.zeroValue5
  infoByte := by kernel_rfl
  cellsByte := by kernel_rfl
  sizeByte := by kernel_rfl
  neB5 := by decide
end Go.Proofs
namespace Go.Proofs.YtbpnacacnncopaaGreatDoor
open Go.RowKit
theorem bl_drewN {B : Nat} {a w : World} (h : Below B a w) (n : Nat) : Below B a (w.drewN n) := ⟨h.os, h.tape, h.output, h.size, h.block⟩
theorem bl_drew {B : Nat} {a w : World} (h : Below B a w) : Below B a w.drew := ⟨h.os, h.tape, h.output, h.size, h.block⟩
theorem bl_alloc (w : World) (o : Obj) : Below w.heap.size w (w.alloc o) := (Below.refl _ _).alloc (Nat.le_refl _) _

end Go.Proofs.YtbpnacacnncopaaGreatDoor
namespace Go.Proofs.YtbpnacacnncopaaGreatDoor
open Go.RowKit
theorem ret_int {k : IntKind} {a b : Int} (h : a = b) : Ending.returned (.int k a) = .returned (.int k b) := by rw [h]
end Go.Proofs.YtbpnacacnncopaaGreatDoor
namespace Go.Proofs.YtbpnacacnncopaaGreatDoor
open Go.RowKit
/-- what the caller's two first blocks keep -/
theorem two_lt {w w1 : World} {o1 o2 : Obj} (hb : Below ((w.alloc o1).alloc o2).heap.size ((w.alloc o1).alloc o2) w1) : w.heap.size < w1.heap.size ∧ w.heap.size + 1 < w1.heap.size := by
  have := hb.size
  simp at this
  omega
theorem two_bl {w w1 : World} {o1 o2 : Obj} (hb : Below ((w.alloc o1).alloc o2).heap.size ((w.alloc o1).alloc o2) w1) : Below w.heap.size w w1 :=
  (((Below.refl _ _).alloc (Nat.le_refl _) _).alloc (by simp) _).trans (hb.mono (by simp; omega))

theorem one_lt {w w1 : World} {o1 : Obj} (hb : Below (w.alloc o1).heap.size (w.alloc o1) w1) : w.heap.size < w1.heap.size := by
  have := hb.size
  simp at this
  omega
theorem one_bl {w w1 : World} {o1 : Obj} (hb : Below (w.alloc o1).heap.size (w.alloc o1) w1) : Below w.heap.size w w1 :=
  ((Below.refl _ _).alloc (Nat.le_refl _) _).trans (hb.mono (by simp))
end Go.Proofs.YtbpnacacnncopaaGreatDoor
namespace Go.Proofs.YtbpnacacnncopaaGreatDoor
open Go.RowKit
def Reads (w : World) (B size : Nat) (A : Option Addr) (n : Nat) (xs : List Value) : Prop :=
  xs.length = n * size ∧ (0 < n → ∃ ad, A = some ad ∧ ad.block < B ∧ ∀ j u, xs[j]? = some u → w.cell? (ad.add j) = some u)

section
variable {w w' : World} {B B' size n : Nat} {A : Option Addr} {xs : List Value}
theorem Reads.of_own {base : Nat} {e : TypeId} {c : Nat} (h : w.ownsRow base e size (.slice A n c) n xs) : Reads w w.heap.size size A n xs := by
  refine ⟨h.1, fun hn => ?_⟩
  obtain ⟨g, cap, hv, _, hlt⟩ := h.form hn
  have hA : A = some ⟨g, 0, none⟩ := by injection hv
  subst hA
  exact ⟨_, rfl, hlt, h.cells (g := g) rfl⟩
end

section
variable {P : Program} (w : World)
theorem run_append_of_nil (base : Nat) (t ty e : TypeId) (i : TypeInfo) (size : Nat) (ht : P.underlying t = some (.slice e)) (hi : P.info? e = some i)
    (v : Value) (n : Nat) (xs : List Value) (hown : w.ownsRow base e size v n xs) (c : Nat) : (Builtin.append_ #[t, t] ty #[v, .slice none 0 c]).run P w = .ok v w := by
  rcases hown.2 with ⟨rfl, rfl⟩ | ⟨g, cap, cur, rfl, _, _, hnc, _⟩
  · simp [Builtin.append_, run_underlying ht, sizeOf, typeInfo, hi, Builtin.lenOf, Builtin.firstCells]
  · simp [Builtin.append_, run_underlying ht, sizeOf, typeInfo, hi, Builtin.lenOf, Builtin.firstCells, hnc, storeCells]

theorem run_append_any (base : Nat) (t ty e : TypeId) (i : TypeInfo) (z : Value) (size bytes : Nat) (ht : P.underlying t = some (.slice e)) (hi : P.info? e = some i) (hz : i.zero = some z)
    (hsize : i.size = size) (hby : i.bytes = bytes) (hzs : z.cells.size = size) (hsz : 0 < size)
    (v : Value) (n : Nat) (xs : List Value) (hown : w.ownsRow base e size v n xs)
    (B : Nat) (A : Option Addr) (m c : Nat) (news : List Value) (hr : Reads w B size A m news) (h1 : ∀ u ∈ news, u.oneCell' = true)
    (h63 : n + m ≤ maxLen) (hbytes : (n + m) * bytes ≤ 140737488355328) (hbase : base ≤ w.heap.size) :
    ∃ v' w', (Builtin.append_ #[t, t] ty #[v, .slice A m c]).run P w = .ok v' w' ∧ w'.ownsRow base e size v' (n + m) (xs ++ news) ∧ w.grownBy w' v.ownBlock ∧
      (v'.ownBlock = v.ownBlock ∨ v'.ownBlock = some w.heap.size) := by
  rcases A with _ | ad
  · have hm : m = 0 := by
      rcases Nat.eq_zero_or_pos m with h0 | h0
      · exact h0
      · obtain ⟨ad, h, _⟩ := hr.2 h0
        cases h
    subst hm
    have hn : news = [] := List.eq_nil_of_length_eq_zero (by simpa using hr.1)
    subst hn
    exact ⟨v, w, run_append_of_nil w base t ty e i size ht hi v n xs hown c, by simpa using hown, World.grownBy.refl w _, .inl rfl⟩
  · have hcells : ∀ j u, news[j]? = some u → w.cell? (ad.add j) = some u := by
      intro j u hu
      rcases Nat.eq_zero_or_pos m with h0 | h0
      · subst h0
        have hn : news = [] := List.eq_nil_of_length_eq_zero (by simpa using hr.1)
        subst hn
        simp at hu
      · obtain ⟨ad', h, _, hc⟩ := hr.2 h0
        injection h with h
        subst h
        exact hc j u hu
    obtain ⟨v', w', hrun, h2, h3, _, h5⟩ := run_append_own_at (P := P) w base t ty e i z size bytes ht hi hz hsize hby hzs hsz v n xs hown ad m c news hr.1 hcells h1 h63 hbytes hbase
    exact ⟨v', w', hrun, h2, h3, h5⟩

theorem wp_append_any {o : Oper} {a : Act} {K : Act → World → Prop} {Q : Exit → Act → World → Prop} (s x : Operand) (t : TypeId)
    (ho : o.op = .call { callee := .builtin .append, args := #[s, x], argTypes := #[t, t] })
    (base : Nat) (e : TypeId) (i : TypeInfo) (z : Value) (size bytes : Nat) (ht : P.underlying t = some (.slice e)) (hi : P.info? e = some i) (hz : i.zero = some z)
    (hsize : i.size = size) (hby : i.bytes = bytes) (hzs : z.cells.size = size) (hsz : 0 < size)
    (v : Value) (n : Nat) (xs : List Value) (hs : a.eval s = v) (hown : w.ownsRow base e size v n xs)
    (B : Nat) (A : Option Addr) (m c : Nat) (news : List Value) (hx : a.eval x = .slice A m c) (hr : Reads w B size A m news) (h1 : ∀ u ∈ news, u.oneCell' = true)
    (h63 : n + m ≤ maxLen) (hbytes : (n + m) * bytes ≤ 140737488355328) (hbase : base ≤ w.heap.size)
    (h : ∀ v' w', w'.ownsRow base e size v' (n + m) (xs ++ news) → w.grownBy w' v.ownBlock → (v'.ownBlock = v.ownBlock ∨ v'.ownBlock = some w.heap.size) → K (a.put o.dst v') w') : o.wp P a w K Q := by
  obtain ⟨v', w', hrun, h2, h3, h4⟩ := run_append_any (P := P) w base t o.type e i z size bytes ht hi hz hsize hby hzs hsz v n xs hown B A m c news hr h1 h63 hbytes hbase
  unfold Oper.wp execOp
  simp only [ho, resolve, invoke, builtin, Sem.run_bind, Sem.run_pure, Result.andThen_ok, List.map_toArray, List.map_cons, List.map_nil, hs, hx, hrun]
  exact h v' w' h2 h3 h4

theorem wpList_append_any {ops : Array Oper} {rest : List Oper} {o : Oper} {a : Act} {Q : Exit → Act → World → Prop} (hgd : o.guard = none) (s x : Operand) (t : TypeId)
    (ho : o.op = .call { callee := .builtin .append, args := #[s, x], argTypes := #[t, t] })
    (base : Nat) (e : TypeId) (i : TypeInfo) (z : Value) (size bytes : Nat) (ht : P.underlying t = some (.slice e)) (hi : P.info? e = some i) (hz : i.zero = some z)
    (hsize : i.size = size) (hby : i.bytes = bytes) (hzs : z.cells.size = size) (hsz : 0 < size)
    (v : Value) (n : Nat) (xs : List Value) (hs : a.eval s = v) (hown : w.ownsRow base e size v n xs)
    (B : Nat) (A : Option Addr) (m c : Nat) (news : List Value) (hx : a.eval x = .slice A m c) (hr : Reads w B size A m news) (h1 : ∀ u ∈ news, u.oneCell' = true)
    (h63 : n + m ≤ maxLen) (hbytes : (n + m) * bytes ≤ 140737488355328) (hbase : base ≤ w.heap.size)
    (h : ∀ v' w', w'.ownsRow base e size v' (n + m) (xs ++ news) → w.grownBy w' v.ownBlock → (v'.ownBlock = v.ownBlock ∨ v'.ownBlock = some w.heap.size) → wpList P ops Q rest (a.put o.dst v') w') : wpList P ops Q (o :: rest) a w :=
  wpList_plain hgd fun _ hK => wp_append_any w s x t ho base e i z size bytes ht hi hz hsize hby hzs hsz v n xs hs hown B A m c news hx hr h1 h63 hbytes hbase fun v' w' h2 h3 h4 => hK _ _ (h v' w' h2 h3 h4)
end

theorem own_base {w : World} {base : Nat} {e : TypeId} {size n : Nat} {v : Value} {xs : List Value} (h : w.ownsRow base e size v n xs) (k : Nat) (hk : v.ownBlock = some k) : base ≤ k := by
  rcases h.2 with ⟨rfl, _⟩ | ⟨g, cap, cur, rfl, hg, _⟩
  · simp [Value.ownBlock] at hk
  · simp [Value.ownBlock] at hk; omega
theorem own_form {w : World} {base : Nat} {e : TypeId} {size n : Nat} {v : Value} {xs : List Value} (h : w.ownsRow base e size v n xs) : ∃ A c, v = .slice A n c ∧ Reads w w.heap.size size A n xs ∧ n ≤ c ∧ c ≤ maxLen := by
  rcases h.2 with ⟨rfl, rfl⟩ | ⟨g, cap, cur, rfl, hg, h1, h2, h3, _⟩
  · exact ⟨_, _, rfl, Reads.of_own h, by omega, by simp [maxLen]⟩
  · exact ⟨_, _, rfl, Reads.of_own h, h2, h3⟩

/-- a block that is known whole -/
def Blk (w : World) (g : Nat) (t : TypeId) (cs : Array Value) : Prop := w.heap[g]? = some (.cells cs t (0, 0))
section
variable {w w' : World} {g : Nat} {t : TypeId} {cs : Array Value}
theorem Blk.lt (h : Blk w g t cs) : g < w.heap.size := by
  rcases Nat.lt_or_ge g w.heap.size with hlt | hge
  · exact hlt
  · unfold Blk at h; rw [Array.getElem?_eq_none hge] at h; cases h
theorem Blk.cell (h : Blk w g t cs) (i : Nat) : w.cell? ⟨g, i, none⟩ = cs[i]? := by
  unfold Blk at h
  simp [World.cell?, h]
theorem Blk.frozen (h : Blk w g t cs) (i : Nat) : w.frozen? ⟨g, i, none⟩ = false := by
  unfold Blk at h
  simp [World.frozen?, h]
theorem Blk.new (w : World) (t : TypeId) (cs : Array Value) : Blk (w.alloc (.cells cs t)) w.heap.size t cs := heap_alloc_new w _
theorem Blk.drew (h : Blk w g t cs) : Blk w.drew g t cs := h
theorem Blk.alloc (h : Blk w g t cs) (o : Obj) : Blk (w.alloc o) g t cs := (Below.heap_alloc w o g h.lt).trans h
theorem Blk.set_ (h : Blk w g t cs) (i : Nat) (u : Value) : Blk (w.setCell ⟨g, i, none⟩ u) g t (cs.setIfInBounds i u) := by
  unfold Blk at h ⊢
  simp [World.setCell, Array.getElem?_modify, h]
theorem Blk.far (h : Blk w g t cs) {p : Addr} (hp : g ≠ p.block) (u : Value) : Blk (w.setCell p u) g t cs := (Below.heap_setCell w p u g hp).trans h
theorem Blk.below {B : Nat} (h : Blk w g t cs) (hb : Below B w w') (hg : g < B) : Blk w' g t cs := (hb.block g hg).trans h
end

theorem own_bl {w w' : World} {base B : Nat} {e : TypeId} {size n : Nat} {v : Value} {xs : List Value} (h : w.ownsRow base e size v n xs) (hb : Below B w w') (hB : w.heap.size ≤ B) : w'.ownsRow base e size v n xs := by
  refine ⟨h.1, ?_⟩
  rcases h.2 with h1 | ⟨g, cap, cur, hv, hg, hh, hr⟩
  · exact .inl h1
  · have hlt : g < w.heap.size := by
      rcases Nat.lt_or_ge g w.heap.size with hlt | hge
      · exact hlt
      · rw [Array.getElem?_eq_none hge] at hh; cases hh
    exact .inr ⟨g, cap, cur, hv, hg, (hb.block g (by omega)).trans hh, hr⟩
end Go.Proofs.YtbpnacacnncopaaGreatDoor
