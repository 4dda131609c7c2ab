/- Plain: the enclosures of the sine at one angle lie within 1. No program in sight. -/
import Derived.Test.YtnbbemlchchmoaaGreatHJc
import Derived.Test.YtnbbemlchchmoaaGreatHWd
import Derived.Test.YtnbbemlchchmoaaGreatHWn
import Derived.Test.YtnbbemlchchmoaaGreatHZa
import Derived.Test.YtnbbemlchchmoaaGreatHUk
import Derived.Test.YtnbbemlchchmoaaGreatHUg
set_option linter.unusedVariables false
set_option linter.unusedSimpArgs false
namespace Go.Proofs.YtnbbemlchchmoaaGreat
open Canon
/-! ### regions as sets -/
theorem cov_app (A B : List Blk2) (q : Nat) : covB (A ++ B) q = (covB A q || covB B q) := by simp [covB]
theorem cov_canon (S : Nat → Prop) : ∀ (h n q : Nat), n * 4 ^ h ≤ q → q < (n + 1) * 4 ^ h → (covB (canon S h n) q = true ↔ S q)
  | h, n, q, h1, h2 => by
    constructor
    · intro hc
      obtain ⟨b, hb, b1, b2⟩ := covS.1 hc
      exact ((mem_canon S h n b.1 b.2).1 hb).2.2.1 q b1 b2
    · intro hS
      by_cases hf : full S h n
      · rw [canon_full hf]
        exact covS.2 ⟨(h, n), by simp, h1, h2⟩
      · match h, h1, h2, hf with
        | 0, h1, h2, hf =>
          exfalso
          simp at h1 h2
          have : q = n := by omega
          exact hf ((full_zero S n).2 (this ▸ hS))
        | h + 1, h1, h2, hf =>
          simp only [canon, hf, if_false, cov_app, Bool.or_eq_true]
          have e : ∀ m : Nat, m * 4 ^ (h + 1) = 4 * m * 4 ^ h := fun m => by rw [Nat.pow_succ]; rw [Nat.mul_comm 4 m, Nat.mul_assoc, Nat.mul_comm 4]
          rw [e] at h1 h2
          have e1 : (4 * n + 1) * 4 ^ h = 4 * n * 4 ^ h + 4 ^ h := by rw [Nat.add_mul]; omega
          have e2 : (4 * n + 2) * 4 ^ h = 4 * n * 4 ^ h + 2 * 4 ^ h := by rw [Nat.add_mul]
          have e3 : (4 * n + 3) * 4 ^ h = 4 * n * 4 ^ h + 3 * 4 ^ h := by rw [Nat.add_mul]
          have e4 : (4 * n + 1 + 1) * 4 ^ h = 4 * n * 4 ^ h + 2 * 4 ^ h := by rw [show 4 * n + 1 + 1 = 4 * n + 2 by omega, e2]
          have e5 : (4 * n + 2 + 1) * 4 ^ h = 4 * n * 4 ^ h + 3 * 4 ^ h := by rw [show 4 * n + 2 + 1 = 4 * n + 3 by omega, e3]
          have e6 : (4 * n + 3 + 1) * 4 ^ h = 4 * n * 4 ^ h + 4 * 4 ^ h := by rw [show 4 * n + 3 + 1 = 4 * n + 4 by omega, Nat.add_mul]
          have e7 : 4 * (n + 1) * 4 ^ h = 4 * n * 4 ^ h + 4 * 4 ^ h := by rw [show 4 * (n + 1) = 4 * n + 4 by omega, Nat.add_mul]
          by_cases c0 : q < (4 * n + 1) * 4 ^ h
          · exact .inl ((cov_canon S h (4 * n) q h1 c0).2 hS)
          · by_cases c1 : q < (4 * n + 1 + 1) * 4 ^ h
            · exact .inr (.inl ((cov_canon S h (4 * n + 1) q (by omega) c1).2 hS))
            · by_cases c2 : q < (4 * n + 2 + 1) * 4 ^ h
              · exact .inr (.inr (.inl ((cov_canon S h (4 * n + 2) q (by omega) c2).2 hS)))
              · exact .inr (.inr (.inr ((cov_canon S h (4 * n + 3) q (by omega) (by omega)).2 hS)))
theorem cov_canon_out (S : Nat → Prop) (h n q : Nat) (hq : ¬ (n * 4 ^ h ≤ q ∧ q < (n + 1) * 4 ^ h)) : covB (canon S h n) q = false := by
  rw [Bool.eq_false_iff]
  intro hc
  obtain ⟨b, hb, b1, b2⟩ := covS.1 hc
  obtain ⟨g1, g2⟩ := canon_in S h n b hb
  exact hq ⟨by omega, by omega⟩
/-- the region of a set -/
noncomputable def regB (s : Nat → Bool) : List Cl := canonC fun q => s q = true
theorem cov_reg (s : Nat → Bool) (q : Nat) : covB ((regB s).map blkOf) q = (decide (q < 2 * 4 ^ 16) && s q) := by
  unfold regB
  rw [canonC_blk, cov_app]
  by_cases h0 : q < 4 ^ 16
  · have c0 := cov_canon (fun q => s q = true) 16 0 q (by omega) (by omega)
    have c1 := cov_canon_out (fun q => s q = true) 16 1 q (by omega)
    rw [c1, Bool.or_false, decide_eq_true (by omega), Bool.true_and, Bool.eq_iff_iff]
    exact c0
  · have c0 := cov_canon_out (fun q => s q = true) 16 0 q (by omega)
    rw [c0, Bool.false_or]
    by_cases h1 : q < 2 * 4 ^ 16
    · have c1 := cov_canon (fun q => s q = true) 16 1 q (by omega) (by omega)
      rw [decide_eq_true h1, Bool.true_and, Bool.eq_iff_iff]
      exact c1
    · have c1 := cov_canon_out (fun q => s q = true) 16 1 q (by omega)
      rw [c1, decide_eq_false h1, Bool.false_and]
theorem reg_congr {s t : Nat → Bool} (h : ∀ q, q < 2 * 4 ^ 16 → s q = t q) : regB s = regB t := by
  unfold regB canonC
  rw [canon_congr 16 0 (T := fun q => t q = true) (fun q _ h2 => by rw [h q (by omega)]), canon_congr 16 1 (T := fun q => t q = true) (fun q _ h2 => by rw [h q (by omega)])]
theorem reg_v (s : Nat → Bool) : AllV (regB s) := by
  intro x hx
  obtain ⟨b, hb, rfl⟩ := List.mem_map.1 hx
  have key : ∀ n, n < 2 → b ∈ canon (fun q => s q = true) 16 n → Vl (cellB b) := by
    intro n hn hb
    obtain ⟨g1, g2, _⟩ := (mem_canon _ 16 n b.1 b.2).1 hb
    refine cellB_vl b g1 ?_
    have hp : 0 < 4 ^ (16 - b.1) := Nat.pow_pos (by omega)
    rw [← Nat.div_lt_iff_lt_mul hp]
    omega
  rcases List.mem_append.1 hb with hb | hb
  · exact key 0 (by omega) hb
  · exact key 1 (by omega) hb
theorem reg_made (op : Int) (s t : Nat → Bool) : madeL op (regB s) (regB t) = regB fun q => opB op (s q) (t q) := by
  rw [madeL_canon op _ _ (reg_v s) (reg_v t)]
  show regB (fun q => opB op (covB ((regB s).map blkOf) q) (covB ((regB t).map blkOf) q)) = _
  refine reg_congr fun q hq => ?_
  rw [cov_reg, cov_reg, decide_eq_true hq, Bool.true_and, Bool.true_and]
/-- no two regions of sets are the same unless the sets are -/
theorem reg_inj {s t : Nat → Bool} (h : regB s = regB t) (q : Nat) (hq : q < 2 * 4 ^ 16) : s q = t q := by
  have h1 := cov_reg s q
  have h2 := cov_reg t q
  rw [h, h2, decide_eq_true hq, Bool.true_and, Bool.true_and] at h1
  exact h1.symm
theorem reg_nil {s : Nat → Bool} (h : ∀ q, q < 2 * 4 ^ 16 → s q = false) : regB s = [] := by
  unfold regB canonC
  rw [canon_none (fun q _ h2 => by rw [h q (by omega)]; simp), canon_none (fun q _ h2 => by rw [h q (by omega)]; simp)]
  rfl
/-! ### how long a region is that is made of few cells -/
/-- s changes only inside of blocks that have one of A strictly inside -/
def Homog (A : List Blk2) (s : Nat → Bool) : Prop := ∀ h n, (∀ b ∈ A, ¬ (b.1 < h ∧ insB b h n = true)) → ∀ q q', n * 4 ^ h ≤ q → q < (n + 1) * 4 ^ h → n * 4 ^ h ≤ q' → q' < (n + 1) * 4 ^ h → s q = s q'
/-! ### what made returns -/
def mkR (op : Int) (a b : List Cl) : List Cl := if vrB a = true then if vrB b = true then if (madeL op a b).length ≤ 4000 then madeL op a b else [] else [] else []
def mkE (op : Int) (a b : List Cl) : Int := if vrB a = true then if vrB b = true then if (madeL op a b).length ≤ 4000 then 0 else 4 else 1 else 1
end Go.Proofs.YtnbbemlchchmoaaGreat
namespace Go.Proofs.YtnbbemlchchmoaaGreat
open Canon
/-! ### points in boxes of cells -/
def lonIn (lo hi b : Int) : Bool := decide ((b - lo) % 21600000 ≤ hi - lo)
/-- whether a valid point is in the box of a cell -/
def ptB (x : Cl) (a b : Int) : Bool :=
  decide (edg x.2.1 x.1 - 5400000 ≤ a ∧ a ≤ edg (x.2.1 + 1) x.1 - 5400000) && (decide (a = 5400000) || decide (a = -5400000) || lonIn (edg x.2.2 x.1 - 10800000) (edg (x.2.2 + 1) x.1 - 10800000) b)
theorem pw_nat (l : Nat) : pw (l : Int) = ((2 ^ l : Nat) : Int) := by simp [pw]
theorem pw_pos (l : Int) : 0 < pw l := by unfold pw; exact Int.pow_pos (by omega)
theorem pw_succ (l : Nat) : pw ((l + 1 : Nat) : Int) = 2 * pw (l : Int) := by
  rw [pw_nat, pw_nat, Nat.pow_succ]
  omega
theorem edg_even (i : Int) (l : Nat) : edg (2 * i) ((l + 1 : Nat) : Int) = edg i (l : Int) := by
  unfold edg
  rw [pw_succ, Int.mul_assoc, Int.mul_ediv_mul_of_pos _ _ (by omega)]
theorem edg_mono {i j : Int} (l : Int) (h : i ≤ j) : edg i l ≤ edg j l := by
  unfold edg
  exact Int.ediv_le_ediv (pw_pos l) (by omega)
def fin (a b : Int) (q : Nat) : Bool := ptB (cellB (0, q)) a b
/-! ### one cell -/
theorem one_vr {x : Cl} (hx : Vl x) : vrB [x] = true := by
  have hL : AllV [x] := fun y hy => by rw [List.mem_singleton] at hy; rw [hy]; exact hx
  refine (vrB_iff _).2 ⟨by simp, hL, (tidy_iff hL).2 ⟨?_, ?_⟩⟩
  · intro i hi
    simp at hi
  · intro i hi
    simp at hi
/-- whether all of a is in b -/
def insL (a b : List Cl) : Bool := decide (madeL 3 a b = [])
theorem ins_reg (s t : Nat → Bool) : insL (regB s) (regB t) = true ↔ ∀ q, q < 2 * 4 ^ 16 → s q = true → t q = true := by
  unfold insL
  rw [decide_eq_true_eq, reg_made]
  have e : ∀ x y : Bool, opB 3 x y = (x && !y) := by intro x y; simp [opB]
  constructor
  · intro h q hq hs
    have h0 : (regB fun _ => false) = [] := reg_nil fun _ _ => rfl
    have := reg_inj (h.trans h0.symm) q hq
    rw [e, hs, Bool.true_and] at this
    cases ht : t q with
    | true => rfl
    | false => rw [ht] at this; exact absurd this (by decide)
  · intro h
    refine reg_nil fun q hq => ?_
    rw [e]
    cases hs : s q with
    | false => rfl
    | true => rw [h q hq hs]; rfl
/-! ### the cell of a point -/
theorem idx_in {l N m : Int} (h1 : l ≤ 16) (h2 : 0 ≤ N) (hm : 0 ≤ m) : 0 ≤ idx N l m ∧ idx N l m ≤ m ∧ edg (idx N l m) l ≤ N ∧ (idx N l m = m ∨ N < edg (idx N l m + 1) l) := by
  have hp := pw_pos l
  have e : (pn N l + 10799999) / 10800000 - 1 = (pn N l - 1) / 10800000 := by omega
  have h3 : 1 ≤ pn N l := by
    unfold pn
    have : 1 * 1 ≤ (N + 1) * pw l := Int.mul_le_mul (by omega) (by omega) (by omega) (by omega)
    omega
  have h4 : 0 ≤ (pn N l - 1) / 10800000 := Int.ediv_nonneg (by omega) (by omega)
  unfold idx
  rw [e, edg_le_iff h1]
  have h5 : N < edg (min ((pn N l - 1) / 10800000) m + 1) l ↔ ¬ min ((pn N l - 1) / 10800000) m + 1 ≤ (pn N l - 1) / 10800000 := by
    rw [← edg_le_iff h1]
    omega
  rw [h5]
  generalize (pn N l - 1) / 10800000 = z at *
  omega
/-- the cell of a level with a point -/
def ofC (a b l : Int) : Cl := (l, idx (a + 5400000) l (pw l - 1), idx (b + 10800000) l (2 * pw l - 1))
theorem edg_all (l : Int) : edg (pw l) l = 10800000 := by
  unfold edg
  rw [Int.mul_comm, Int.mul_ediv_cancel _ (by have := pw_pos l; omega)]
theorem edg_two (l : Int) : edg (2 * pw l) l = 21600000 := by
  unfold edg
  rw [show 2 * pw l * 10800000 = 21600000 * pw l by omega, Int.mul_ediv_cancel _ (by have := pw_pos l; omega)]
theorem of_in {a b l : Int} (hv : vptB a b = true) (h0 : 0 ≤ l) (h1 : l ≤ 16) :
    Vl (ofC a b l) ∧ edg (ofC a b l).2.1 l - 5400000 ≤ a ∧ a ≤ edg ((ofC a b l).2.1 + 1) l - 5400000 ∧ edg (ofC a b l).2.2 l - 10800000 ≤ b ∧ b < edg ((ofC a b l).2.2 + 1) l - 10800000 := by
  obtain ⟨a1, a2, b1, b2⟩ := vptB_true.1 hv
  have hp := pw_pos l
  have i1 := idx_in (l := l) (N := a + 5400000) (m := pw l - 1) h1 (by omega) (by omega)
  have i2 := idx_in (l := l) (N := b + 10800000) (m := 2 * pw l - 1) h1 (by omega) (by omega)
  have e1 := edg_all l
  have e2 := edg_two l
  refine ⟨(vl_iff _).1 (vldB_true.2 ?_), ?_⟩
  · unfold ofC
    simp only []
    omega
  · unfold ofC
    simp only []
    obtain ⟨x1, x2, x3, x4⟩ := i1
    obtain ⟨y1, y2, y3, y4⟩ := i2
    refine ⟨by omega, ?_, by omega, ?_⟩
    · rcases x4 with h | h
      · rw [h, show pw l - 1 + 1 = pw l by omega, e1]; omega
      · omega
    · rcases y4 with h | h
      · rw [h, show 2 * pw l - 1 + 1 = 2 * pw l by omega, e2]; omega
      · omega
end Go.Proofs.YtnbbemlchchmoaaGreat
namespace Go.Proofs.YtnbbemlchchmoaaGreat
open Canon
/-! ### no spans, no cells -/
theorem cov_canonC (S : Nat → Prop) (q : Nat) (hq : q < 2 * 4 ^ 16) : covB ((canonC S).map blkOf) q = true ↔ S q := by
  rw [canonC_blk, cov_app, Bool.or_eq_true]
  by_cases h0 : q < 4 ^ 16
  · have c0 := cov_canon S 16 0 q (by omega) (by omega)
    have c1 := cov_canon_out S 16 1 q (by omega)
    rw [c0, c1]
    simp
  · have c0 := cov_canon_out S 16 0 q (by omega)
    have c1 := cov_canon S 16 1 q (by omega) (by omega)
    rw [c0, c1]
    simp
theorem tidyL_nil {D : List Sp} (hA : ApartI D) (hk : SpOk D) : tidyL D = [] ↔ D = [] := by
  constructor
  · intro h
    rw [tidyL_canon hA hk] at h
    match D, hA, hk, h with
    | [], _, _, _ => rfl
    | s :: r, hA, hk, h =>
      exfalso
      have hs := hk s (by simp)
      have := (cov_canonC (fun q => inI (s :: r) q) s.1.toNat (by omega)).2 ⟨s, by simp, by omega, by omega⟩
      rw [h] at this
      exact Bool.noConfusion this
  · rintro rfl
    rfl
theorem comb_empty (E : List Int) (a b : List Cl) (ha : AllV a) (hb : AllV b) (hE : E.Pairwise (· < ·)) (hm : ∀ x, x ∈ E ↔ (x ∈ endsS (coverL a) ∨ x ∈ endsS (coverL b))) :
    combE (opB 3) E (coverL a) (coverL b) = [] ↔ madeL 3 a b = [] := by
  obtain ⟨h1, h2⟩ := comb_made 3 E a b ha hb hE hm
  have hr : opB 3 false false = false := by simp [opB]
  have va : ∀ x ∈ a, vldB x.1 x.2.1 x.2.2 = true := fun x hx => (vl_iff x).2 (ha x hx)
  have vb : ∀ x ∈ b, vldB x.1 x.2.1 x.2.2 = true := fun x hx => (vl_iff x).2 (hb x hx)
  have h3 := (comb_good (opB 3) hr E (coverL a) (coverL b) hE hm (cover_good a va).1 (cover_good b vb).1).1
  rw [← h1]
  exact (tidyL_nil h3 h2).symm
/-! ### every other cell of a row -/
theorem mort_mono (l : Nat) : ∀ r c c' : Nat, c < c' → mort l r c < mort l r c' := by
  induction l with
  | zero => intro r c c' h; exact h
  | succ l ih =>
    intro r c c' h
    have e1 := mort_step l r c 0
    have e2 := mort_step l r c' 0
    simp only [Nat.pow_zero, Nat.div_one, Nat.zero_add, Nat.pow_one] at e1 e2
    rw [e1, e2]
    by_cases hh : c / 2 < c' / 2
    · have := ih (r / 2) _ _ hh
      omega
    · have : c / 2 = c' / 2 := by omega
      rw [this]
      omega
end Go.Proofs.YtnbbemlchchmoaaGreat
namespace Go.Proofs.YtnbbemlchchmoaaGreat
open Canon
/-! ### parents and children -/
theorem idx_half {l : Nat} {N m : Int} (h1 : (l : Int) + 1 ≤ 16) (h2 : 0 ≤ N) (hm : 0 ≤ m) : idx N ((l + 1 : Nat) : Int) (2 * m + 1) / 2 = idx N (l : Int) m := by
  obtain ⟨g1, g2, g3, g4⟩ := idx_in (l := ((l + 1 : Nat) : Int)) (N := N) (m := 2 * m + 1) (by omega) h2 (by omega)
  generalize idx N ((l + 1 : Nat) : Int) (2 * m + 1) = k at *
  symm
  refine idx_char (by omega) (by omega) ?_ ?_
  · rw [← edg_even]
    exact Int.le_trans (edg_mono _ (by omega)) g3
  · rcases g4 with g4 | g4
    · left; omega
    · right
      rw [← edg_even]
      exact Int.lt_of_lt_of_le g4 (edg_mono _ (by omega))
/-- the edges of the boxes of a cell and of its children -/
theorem box_nums {x : Cl} (hx : Vl x) : -5400000 ≤ edg x.2.1 x.1 - 5400000 ∧ edg x.2.1 x.1 ≤ edg (x.2.1 + 1) x.1 ∧ edg (x.2.1 + 1) x.1 - 5400000 ≤ 5400000 ∧ 0 ≤ edg x.2.2 x.1 ∧ edg x.2.2 x.1 < 21600000 ∧ edg x.2.2 x.1 ≤ edg (x.2.2 + 1) x.1 ∧ edg (x.2.2 + 1) x.1 ≤ 21600000 ∧ edg (x.2.2 + 1) x.1 - edg x.2.2 x.1 ≤ 10800001 := by
  obtain ⟨h0, h1, h2, h3, h4, h5⟩ := vldB_true.1 ((vl_iff x).2 hx)
  have hp := pw_pos x.1
  have hb := pw_bd h1
  have r0 := edg_bd (i := x.2.1) h1 h2 (by omega)
  have c0 := edg_bd (i := x.2.2) h1 h4 (by omega)
  have c1 := edg_bd (i := x.2.2 + 1) h1 (by omega) (by omega)
  have rm := edg_mono x.1 (show x.2.1 ≤ x.2.1 + 1 by omega)
  have cm := edg_mono x.1 (show x.2.2 ≤ x.2.2 + 1 by omega)
  have rt := edg_mono x.1 (show x.2.1 + 1 ≤ pw x.1 by omega)
  rw [edg_all] at rt
  have ct : edg x.2.2 x.1 < 21600000 := by
    unfold edg
    rw [Int.ediv_lt_iff_lt_mul hp]
    omega
  have cw : edg (x.2.2 + 1) x.1 - edg x.2.2 x.1 ≤ 10800001 := by
    unfold edg
    have : (x.2.2 + 1) * 10800000 / pw x.1 ≤ x.2.2 * 10800000 / pw x.1 + 10800001 := by
      rw [← Int.add_mul_ediv_right _ _ (show pw x.1 ≠ 0 by omega)]
      refine Int.ediv_le_ediv hp ?_
      omega
    omega
  omega
end Go.Proofs.YtnbbemlchchmoaaGreat
namespace Go.Proofs.YtnbbemlchchmoaaGreat
open Go.RowKit
def aeq (a b a' b' : Int) : Bool := decide (a = a' ∧ b = b')
theorem equalInArc (a b a' b' : Int) (w : World) : (Op.equalIn 10000 32 (.agg #[.int .i64 a, .int .i64 b]) (.agg #[.int .i64 a', .int .i64 b'])).run Tryz.prog w = .ok (aeq a b a' b') w := by
  have u3 := Tryz.underlying3
  have a3 := Tryz.isAgg3
  have z3 := Tryz.sizeOf3
  have hS : Tryz.prog.underlying 32 = some (.struct (Tryz.prog.fieldsOf 32)) := by kernel_rfl
  have hp : Tryz.prog.stoodInHeld 32 = false := by kernel_rfl
  rw [show (10000 : Nat) = 9999 + 1 from rfl, run_equalIn_agg w 9999 32 _ _ hS hp]
  simp only [Program.fieldsOf, Tryz.underlying32]
  go_simp
  by_cases h1 : a = a' <;> by_cases h2 : b = b' <;> simp [aeq, h1, h2]
theorem eqlArc (a b a' b' : Int) (w : World) : (binOp .eql 32 (.agg #[.int .i64 a, .int .i64 b]) (.agg #[.int .i64 a', .int .i64 b'])).run Tryz.prog w = .ok (.bool (aeq a b a' b')) w := by
  rw [run_eql_struct, equalInArc]; rfl
theorem tmod_cases (n : Int) : (0 ≤ n ∧ n.tmod 21600000 = n % 21600000) ∨ (n < 0 ∧ n.tmod 21600000 = -((-n) % 21600000)) := by
  by_cases h : 0 ≤ n
  · exact .inl ⟨h, Int.tmod_eq_emod_of_nonneg h⟩
  · refine .inr ⟨by omega, ?_⟩
    have h1 : (-n).tmod 21600000 = (-n) % 21600000 := Int.tmod_eq_emod_of_nonneg (by omega)
    rw [Int.neg_tmod] at h1
    omega
theorem tmod_pos {n : Int} (h : 0 ≤ n.tmod 21600000) : n.tmod 21600000 = n % 21600000 := by
  rcases tmod_cases n with ⟨h1, h2⟩ | ⟨h1, h2⟩ <;> omega
theorem tmod_neg {n : Int} (h : n.tmod 21600000 < 0) : n.tmod 21600000 + 21600000 = n % 21600000 := by
  rcases tmod_cases n with ⟨h1, h2⟩ | ⟨h1, h2⟩ <;> omega
theorem everywhere_any (w : World) : Calls Tryz.prog 133 #[] w fun e w' => e = .returned (.agg #[.int .i64 (-10800000), .int .i64 10800000]) ∧ Below w.heap.size w w' := by
  go_enter Tryz.func133, Tryz.ntmps133
  go_wp2
  refine bodyPost_ret (v := .agg #[.int .i64 (-10800000), .int .i64 10800000]) (by simp [results, Tryz.results133, go_sem]) rfl ⟨rfl, ?_⟩
  repeat (first | exact Below.refl _ _ | assumption | refine bl_drew ?_ | refine bl_drewN ?_ _ | refine Below.setCell ?_ (by first | assumption | omega | (simp; done) | (simp; omega)) _ | refine Below.alloc ?_ (by first | assumption | omega | (simp; done) | (simp; omega)) _)
/-- a world that left what was there alone -/
structure BV (w0 : World) where
  w : World
  hb : Below w0.heap.size w0 w
instance bvSome (w0 : World) : Nonempty (BV w0) := ⟨⟨w0, Below.refl _ _⟩⟩
theorem wp_region_bv {P : Program} {id : Nat} {Q : Exit → Act → World → Prop} {a : Act} {w : World} {l : List Oper} (w0 : World) (hm : P.follows .mixedOrders = true) (hB : Region.lexB .any l.toArray = true) (h0 : Below w0.heap.size w0 w)
    (h : wpQuiet P l.toArray (fun w' => ∃ s : BV w0, w' = s.w) (fun a' => ∀ w9, Below w0.heap.size w0 w9 → Q .normal a' w9) l a) : (Code.region id l.toArray true).wp P Q a w := by
  have e : (fun a' => ∀ w9, Below w0.heap.size w0 w9 → Q .normal a' w9) = (fun a' : Act => ∀ w', (∃ s : BV w0, w' = s.w) → Q .normal a' w') :=
    funext fun a' => propext ⟨fun h w' ⟨s, hs⟩ => hs ▸ h s.w s.hb, fun h w9 hb => h w9 ⟨⟨w9, hb⟩, rfl⟩⟩
  rw [e] at h
  exact wp_region_quiet (C := fun w' => ∃ s : BV w0, w' = s.w) hm hB ⟨⟨_, bl_drew h0⟩, rfl⟩ (by simpa using h)
theorem quiet_bv {P : Program} {f : FuncId} {args : Array Value} {w0 : World} {s : BV w0} {v : Value} (h : Calls P f args s.w fun e w' => e = .returned v ∧ Below s.w.heap.size s.w w') :
    Calls P f args s.w fun e w'' => e = .returned v ∧ ∃ s' : BV w0, w'' = s'.w :=
  h.mono fun _ w' ⟨he, hb⟩ => ⟨he, ⟨w', s.hb.trans (hb.mono s.hb.size)⟩, rfl⟩
set_option maxHeartbeats 400000 in
theorem all_any (x y : Int) (w : World) : Calls Tryz.prog 130 #[.agg #[.int .i64 x, .int .i64 y]] w fun e w' => e = .returned (.bool (aeq x y (-10800000) 10800000)) ∧ Below w.heap.size w w' := by
  have K := Lib.hid everywhere_any
  have hq := eqlArc
  go_enter Tryz.func130, Tryz.ntmps130
  go_upto_region 1 with fail
  have b0 := bl_alloc w (.cells #[.int .i64 x, .int .i64 y] 32)
  have x1 : ∀ s : BV (w.alloc (.cells #[.int .i64 x, .int .i64 y] 32)), s.w.cell? ⟨w.heap.size, 0, none⟩ = some (.int .i64 x) := fun s => (s.hb.cell (p := ⟨w.heap.size, 0, none⟩) (by simp)).trans (by simp)
  have x2 : ∀ s : BV (w.alloc (.cells #[.int .i64 x, .int .i64 y] 32)), s.w.cell? ⟨w.heap.size, 1, none⟩ = some (.int .i64 y) := fun s => (s.hb.cell (p := ⟨w.heap.size, 1, none⟩) (by simp)).trans (by simp)
  refine wp_region_bv (w.alloc (.cells #[.int .i64 x, .int .i64 y] 32)) (by kernel_rfl) (by kernel_rfl) (Below.refl _ _) ?_
  (repeat (go_big_quiet_step (first | (go_at_call 133; with_reducible exact quiet_bv (K.out _)) | fail)))
  refine wpQuiet_nil ?_
  intro w9 hb9
  clear x1 x2
  go_wp2
  go_ret
  exact ⟨rfl, b0.trans (hb9.mono (by simp))⟩
set_option maxHeartbeats 400000 in
theorem Wrap_any (n : Int) (w : World) (h0 : -1000000000000 ≤ n) (h1 : n ≤ 1000000000000) : Calls Tryz.prog 180 #[.int .i64 n] w fun e w' => e = .returned (.int .i64 (n % 21600000)) ∧ Below w.heap.size w w' := by
  go_enter Tryz.func180, Tryz.ntmps180
  go_wp2
  all_goals
    go_ret
    refine ⟨ret_int ?_, ?_⟩
    · first | (exact tmod_pos (by assumption)) | (rw [IntWalk.wrap64_in _ (by have := tmod_neg (n := n) (by assumption); omega)]; exact tmod_neg (by assumption))
    · repeat (first | exact Below.refl _ _ | assumption | refine bl_drew ?_ | refine bl_drewN ?_ _ | refine Below.setCell ?_ (by first | assumption | omega | (simp; done) | (simp; omega)) _ | refine Below.alloc ?_ (by first | assumption | omega | (simp; done) | (simp; omega)) _)
set_option maxHeartbeats 400000 in
theorem beyond_any (x y n : Int) (w : World) (h0 : -100000000 ≤ n) (h1 : n ≤ 100000000) (h2 : -100000000 ≤ x) (h3 : x ≤ 100000000) : Calls Tryz.prog 131 #[.agg #[.int .i64 x, .int .i64 y], .int .i64 n] w fun e w' => e = .returned (.int .i64 ((n - x) % 21600000)) ∧ Below w.heap.size w w' := by
  have K := Lib.hid (fun W => Wrap_any (n - x) W (by omega) (by omega))
  go_enter Tryz.func131, Tryz.ntmps131
  go_wp2_with (go_at_call 180; (with_reducible refine (K.out _).mono ?_); rintro e w1 ⟨rfl, hb1⟩)
  go_ret
  exact ⟨rfl, one_bl hb1⟩
end Go.Proofs.YtnbbemlchchmoaaGreat
namespace Go.Proofs.YtnbbemlchchmoaaGreat
open Go.RowKit
theorem fits_any (n : Int) (w : World) : Calls Tryz.prog 146 #[.int .i64 n] w fun e w' => e = .returned (.bool (rchB n)) ∧ w' = w := by
  unfold rchB
  go_enter Tryz.func146, Tryz.ntmps146
  go_wp2
  all_goals
    go_ret
    exact ⟨ret_bool (by first | rfl | (simp_all; done) | (simp_all; omega)), rfl⟩
theorem av_parts (lo hi : Int) : avB lo hi = (decide (lo ≤ hi) && rchB lo && rchB hi) := by
  unfold avB rchB
  rw [Bool.eq_iff_iff]
  simp only [Bool.and_eq_true, decide_eq_true_eq]
  omega
set_option maxHeartbeats 400000 in
theorem aValid_any (lo hi : Int) (w : World) : Calls Tryz.prog 90 #[.agg #[.int .i64 lo, .int .i64 hi]] w fun e w' => e = .returned (.bool (avB lo hi)) ∧ Below w.heap.size w w' := by
  have KL := Lib.hid (fun W => fits_any lo W)
  have KH := Lib.hid (fun W => fits_any hi W)
  rw [av_parts]
  generalize rchB lo = s at *
  generalize rchB hi = t at *
  by_cases h : lo ≤ hi
  · have d : decide (lo ≤ hi) = true := decide_eq_true h
    rw [d]
    cases s
    · go_enter Tryz.func90, Tryz.ntmps90
      go_wp2_with (go_at_call 146; (with_reducible refine (KL.out _).mono ?_); rintro e w9 ⟨rfl, rfl⟩)
      go_ret
      refine ⟨rfl, ?_⟩
      repeat (first | exact Below.refl _ _ | assumption | refine bl_drew ?_ | refine bl_drewN ?_ _ | refine Below.setCell ?_ (by first | assumption | omega | (simp; done) | (simp; omega)) _ | refine Below.alloc ?_ (by first | assumption | omega | (simp; done) | (simp; omega)) _)
    · cases t
      all_goals
        go_enter Tryz.func90, Tryz.ntmps90
        go_wp2_with (go_at_call 146; (first | (with_reducible refine (KL.out _).mono ?_) | (with_reducible refine (KH.out _).mono ?_)); rintro e w9 ⟨rfl, rfl⟩)
        go_ret
        refine ⟨rfl, ?_⟩
        repeat (first | exact Below.refl _ _ | assumption | refine bl_drew ?_ | refine bl_drewN ?_ _ | refine Below.setCell ?_ (by first | assumption | omega | (simp; done) | (simp; omega)) _ | refine Below.alloc ?_ (by first | assumption | omega | (simp; done) | (simp; omega)) _)
  · have d : decide (lo ≤ hi) = false := decide_eq_false h
    rw [d]
    go_enter Tryz.func90, Tryz.ntmps90
    go_wp2
    go_ret
    refine ⟨rfl, ?_⟩
    repeat (first | exact Below.refl _ _ | assumption | refine bl_drew ?_ | refine bl_drewN ?_ _ | refine Below.setCell ?_ (by first | assumption | omega | (simp; done) | (simp; omega)) _ | refine Below.alloc ?_ (by first | assumption | omega | (simp; done) | (simp; omega)) _)
/-- whether an arc is from -HalfTurn to HalfTurn -/
def smB (lo hi : Int) : Bool := decide (-10800000 ≤ lo ∧ lo ≤ hi ∧ hi ≤ 10800000)
theorem sm_iff {lo hi : Int} : smB lo hi = true ↔ (-10800000 ≤ lo ∧ lo ≤ hi ∧ hi ≤ 10800000) := by unfold smB; exact decide_eq_true_iff
theorem sm_av {lo hi : Int} (h : smB lo hi = true) : avB lo hi = true := by
  rw [sm_iff] at h
  rw [avB_true]
  omega
theorem sm_parts (lo hi : Int) : smB lo hi = (avB lo hi && decide (-10800000 ≤ lo) && decide (hi ≤ 10800000)) := by
  unfold avB smB
  rw [Bool.eq_iff_iff]
  simp only [Bool.and_eq_true, decide_eq_true_eq]
  omega
theorem one_D2 {w w1 : World} {a b : Int} {t : TypeId} (hb : Below (w.alloc (.cells #[.int .i64 a, .int .i64 b] t)).heap.size (w.alloc (.cells #[.int .i64 a, .int .i64 b] t)) w1) : Below w.heap.size w w1 ∧ D2 w1 w.heap.size a b :=
  ⟨one_bl hb, (D2.new w a b t).below hb (by simp)⟩
set_option maxHeartbeats 400000 in
theorem small_any (lo hi : Int) (w : World) : Calls Tryz.prog 141 #[.agg #[.int .i64 lo, .int .i64 hi]] w fun e w' => e = .returned (.bool (smB lo hi)) ∧ Below w.heap.size w w' := by
  have KV := Lib.hid (fun W => aValid_any lo hi W)
  rw [sm_parts]
  generalize avB lo hi = s at *
  cases s
  · go_enter Tryz.func141, Tryz.ntmps141
    go_wp2_with fail
    (with_reducible refine (KV.out _).mono ?_)
    rintro e w1 ⟨rfl, hb1⟩
    have hb1' := one_bl hb1
    go_wp2
    go_ret
    exact ⟨rfl, hb1'⟩
  · by_cases h : -10800000 ≤ lo
    · have d : decide (-10800000 ≤ lo) = true := decide_eq_true h
      rw [d]
      cases d2 : decide (hi ≤ 10800000)
      all_goals
        go_enter Tryz.func141, Tryz.ntmps141
        go_wp2_with fail
        (with_reducible refine (KV.out _).mono ?_)
        rintro e w1 ⟨rfl, hb1⟩
        obtain ⟨hb1', D1⟩ := one_D2 hb1
        obtain ⟨dt, d0, d1, df0, df1⟩ := D1
        clear hb1
        go_wp2
        go_ret
        exact ⟨rfl, hb1'⟩
    · have d : decide (-10800000 ≤ lo) = false := decide_eq_false h
      rw [d]
      go_enter Tryz.func141, Tryz.ntmps141
      go_wp2_with fail
      (with_reducible refine (KV.out _).mono ?_)
      rintro e w1 ⟨rfl, hb1⟩
      obtain ⟨hb1', D1⟩ := one_D2 hb1
      obtain ⟨dt, d0, d1, df0, df1⟩ := D1
      clear hb1
      go_wp2
      go_ret
      exact ⟨rfl, hb1'⟩
set_option maxHeartbeats 400000 in
theorem movement_any (a b c d : Int) (w : World) : Calls Tryz.prog 81 #[.agg #[.int .i64 a, .int .i64 b], .agg #[.int .i64 c, .int .i64 d]] w fun e w' => e = .returned (.bool (smB a b && smB c d)) ∧ Below w.heap.size w w' := by
  have KA := Lib.hid (fun W => small_any a b W)
  have KC := Lib.hid (fun W => small_any c d W)
  generalize smB a b = s at *
  generalize smB c d = t at *
  cases s
  · go_enter Tryz.func81, Tryz.ntmps81
    go_wp2_with fail
    (with_reducible refine (KA.out _).mono ?_)
    rintro e w1 ⟨rfl, hb1⟩
    have hb1' := two_bl hb1
    go_wp2
    go_ret
    exact ⟨rfl, hb1'⟩
  · go_enter Tryz.func81, Tryz.ntmps81
    go_wp2_with fail
    (with_reducible refine (KA.out _).mono ?_)
    rintro e w1 ⟨rfl, hb1⟩
    have hb1' := two_bl hb1
    have D1 : Hid (D2 w1 (w.heap.size + 1) c d) := Lib.hid (by
      have := (D2.new (w.alloc (.cells #[.int .i64 a, .int .i64 b] 32)) c d 32).below hb1 (by simp)
      simpa using this)
    obtain ⟨dt, d0, d1, df0, df1⟩ := D1.out
    clear hb1
    go_wp2_with fail
    (with_reducible refine (KC.out _).mono ?_)
    rintro e w2 ⟨rfl, hb2⟩
    go_wp2
    go_ret
    exact ⟨by simp, hb1'.trans (hb2.mono hb1'.size)⟩
set_option maxHeartbeats 400000 in
theorem latitude_yes (lo hi : Int) (w : World) (h0 : -5400000 ≤ lo) (h1 : lo ≤ hi) (h2 : hi ≤ 5400000) : Calls Tryz.prog 186 #[.agg #[.int .i64 lo, .int .i64 hi]] w fun e w' => e = .returned (.bool true) ∧ Below w.heap.size w w' := by
  have KV := Lib.hid (fun W => aValid_any lo hi W)
  have hv : avB lo hi = true := by rw [avB_true]; omega
  rw [hv] at KV
  have d2 : decide (hi ≤ 5400000) = true := decide_eq_true h2
  clear hv
  go_enter Tryz.func186, Tryz.ntmps186
  go_wp2_with fail
  (with_reducible refine (KV.out _).mono ?_)
  rintro e w1 ⟨rfl, hb1⟩
  obtain ⟨hb1', D1⟩ := one_D2 hb1
  obtain ⟨dt, d0, d1, df0, df1⟩ := D1
  clear hb1
  go_wp2
  all_goals
    go_ret
    exact ⟨ret_bool (by first | rfl | (simp_all; done) | (simp_all; omega)), hb1'⟩
/-- a number as a longitude -/
def sgT (n : Int) : Int := if 10800000 ≤ n % 21600000 then n % 21600000 - 21600000 else n % 21600000
theorem sgT_bd (n : Int) : -10800000 ≤ sgT n ∧ sgT n < 10800000 := by unfold sgT; omega
set_option maxHeartbeats 400000 in
theorem Wrap_far (n : Int) (w : World) : Calls Tryz.prog 180 #[.int .i64 n] w fun e w' => e = .returned (.int .i64 (n % 21600000)) ∧ Below w.heap.size w w' := by
  go_enter Tryz.func180, Tryz.ntmps180
  go_wp2
  all_goals
    go_ret
    refine ⟨ret_int ?_, ?_⟩
    · first | (exact tmod_pos (by assumption)) | (rw [IntWalk.wrap64_in _ (by have := tmod_neg (n := n) (by assumption); omega)]; exact tmod_neg (by assumption))
    · repeat (first | exact Below.refl _ _ | assumption | refine bl_drew ?_ | refine bl_drewN ?_ _ | refine Below.setCell ?_ (by first | assumption | omega | (simp; done) | (simp; omega)) _ | refine Below.alloc ?_ (by first | assumption | omega | (simp; done) | (simp; omega)) _)
set_option maxHeartbeats 400000 in
theorem Signed_any (n : Int) (w : World) : Calls Tryz.prog 132 #[.int .i64 n] w fun e w' => e = .returned (.int .i64 (sgT n)) ∧ Below w.heap.size w w' := by
  have K := Lib.hid (fun W => Wrap_far n W)
  have hm : 0 ≤ n % 21600000 ∧ n % 21600000 < 21600000 := by omega
  unfold sgT
  generalize n % 21600000 = m at *
  by_cases h : 10800000 ≤ m
  all_goals
    first | rw [if_pos h] | rw [if_neg h]
    go_enter Tryz.func132, Tryz.ntmps132
    go_wp2_with fail
    (with_reducible refine (K.out _).mono ?_)
    rintro e w1 ⟨rfl, hb1⟩
    go_wp2
    go_ret
    exact ⟨rfl, hb1⟩
/-- an arc as longitudes -/
def lonA (lo hi : Int) : Int := if 21600000 ≤ hi - lo then -10800000 else sgT lo
def lonB (lo hi : Int) : Int := if 21600000 ≤ hi - lo then 10800000 else sgT lo + (hi - lo)
set_option maxHeartbeats 1000000 in
theorem longitudes_any (lo hi : Int) (w : World) (h0 : -10000000000000 ≤ lo) (h1 : lo ≤ 10000000000000) (h2 : -10000000000000 ≤ hi) (h3 : hi ≤ 10000000000000) : Calls Tryz.prog 143 #[.agg #[.int .i64 lo, .int .i64 hi]] w fun e w' => e = .returned (.agg #[.int .i64 (lonA lo hi), .int .i64 (lonB lo hi)]) ∧ Below w.heap.size w w' := by
  have K := Lib.hid (fun W => Signed_any lo W)
  have hs := sgT_bd lo
  unfold lonA lonB
  generalize sgT lo = s at *
  by_cases h : 21600000 ≤ hi - lo
  · rw [if_pos h, if_pos h]
    go_enter Tryz.func143, Tryz.ntmps143
    go_wp2
    refine bodyPost_ret (v := .agg #[.int .i64 (-10800000), .int .i64 10800000]) (by simp [results, Tryz.results143, go_sem]; done) rfl ⟨rfl, ?_⟩
    repeat (first | exact Below.refl _ _ | assumption | refine bl_drew ?_ | refine bl_drewN ?_ _ | refine Below.setCell ?_ (by first | assumption | omega | (simp; done) | (simp; omega)) _ | refine Below.alloc ?_ (by first | assumption | omega | (simp; done) | (simp; omega)) _)
  · rw [if_neg h, if_neg h]
    go_enter Tryz.func143, Tryz.ntmps143
    go_wp2_with fail
    (with_reducible refine (K.out _).mono ?_)
    rintro e w1 ⟨rfl, hb1⟩
    have hb1' := two_bl hb1
    have R1 : Hid (D2 w1 (w.heap.size + 1) 0 0) := Lib.hid (by
      have := (D2.new (w.alloc (.cells #[.int .i64 lo, .int .i64 hi] 32)) 0 0 32).below hb1 (by simp)
      simpa using this)
    obtain ⟨rt, r0, r1, rf0, rf1⟩ := R1.out
    clear hb1
    go_wp2
    refine bodyPost_ret (v := .agg #[.int .i64 s, .int .i64 (s + (hi - lo))]) (by simp [results, Tryz.results143, go_sem, *]; done) rfl ⟨rfl, ?_⟩
    exact (hb1'.setCell (by simp) _).setCell (by simp) _
end Go.Proofs.YtnbbemlchchmoaaGreat
namespace Go.Proofs.YtnbbemlchchmoaaGreat.Trig
theorem upF_le {q : Int} (h0 : 0 ≤ q) (h1 : q ≤ 5400000) : upF q ≤ 1073741824 := by
  unfold upF
  split
  · exact (sF_bd h0 h1).2
  · rename_i hx
    have hq : qrt q = q := by unfold qrt; omega
    have hr : rEx q = false := by rw [ex_same, hq]; simpa using hx
    obtain ⟨hf, hv, -⟩ := quick_far q hr
    have hs : sth q = false := by unfold sth; rw [decide_eq_false_iff_not]; omega
    have hl : loB q = sF q := by unfold loB; rw [hs, hq]; simp
    have hrq : ¬ rq q ≥ 2 := by unfold rq; omega
    have hqv : qv q = (quickN (rr q).toNat (rc q) : Int) := by unfold qv; rw [if_neg hrq]
    have hrr : (rr q).toNat ≤ 2700000 := by unfold rr; omega
    have hle := quickN_le hrr (rc q)
    rw [hl, hqv] at hv
    generalize quickN (rr q).toNat (rc q) = Q at *
    have hne : Q ≠ 4611686018427387904 := by
      intro e
      rw [e] at hf
      revert hf
      decide
    omega
theorem hi_le (n : Int) : -1073741824 ≤ loB n ∧ loB n ≤ 1073741824 ∧ -1073741824 ≤ hiB n ∧ hiB n ≤ 1073741824 ∧ loB n ≤ hiB n := by
  have hq := qrt_bd n
  have hs := sF_bd hq.1 hq.2
  have hu := upF_le hq.1 hq.2
  have hw : sF (qrt n) ≤ upF (qrt n) := by unfold upF; split <;> omega
  unfold loB hiB
  split <;> omega
end Go.Proofs.YtnbbemlchchmoaaGreat.Trig
