/- The walk of the part of an arc in AdvanceParts. -/
import Derived.BigRegion
import Derived.Test.YtnbbemlchchmoaaGreatHGd
import Derived.Test.YtnbbemlchchmoaaGreatHUo
import Derived.Test.YtnbbemlchchmoaaGreatHKg
import Derived.Test.YtnbbemlchchmoaaGreatHJs
set_option linter.unusedVariables false
set_option linter.unusedSimpArgs false
namespace Go.Proofs.YtnbbemlchchmoaaGreat
open Go.RowKit
/-- some blocks of two numbers: made by the operations from A on, written by those from S on -/
structure MJ (W2 w : World) (L : Nat → Bool) (n A S : Nat) (g : Nat → Nat) (v : Nat → Int × Int) : Prop where
  bl : Below W2.heap.size W2 w
  d : ∀ i, i < n → L (S + i) = true → L (A + i) = true
  lo : ∀ i, i < n → L (A + i) = true → W2.heap.size ≤ g i
  z : ∀ i, i < n → L (A + i) = true → L (S + i) = false → D2 w (g i) 0 0
  k : ∀ i, i < n → L (S + i) = true → D2 w (g i) (v i).1 (v i).2
  ne : ∀ i j, i < n → j < n → i ≠ j → L (A + i) = true → L (A + j) = true → g i ≠ g j
section
variable {W2 w w' : World} {L : Nat → Bool} {n A S : Nat} {g : Nat → Nat} {v : Nat → Int × Int}
theorem MJ.start (W2 : World) (n A S : Nat) (g : Nat → Nat) (v : Nat → Int × Int) : MJ W2 W2.drew (fun _ => false) n A S g v :=
  ⟨bl_drew (Below.refl _ _), fun _ _ h => (by cases h), fun _ _ h => (by cases h), fun _ _ h => (by cases h), fun _ _ h => (by cases h), fun _ _ _ _ _ h => (by cases h)⟩
theorem MJ.l (h : MJ W2 w L n A S g v) {i : Nat} (hi : i < n) (hA : L (A + i) = true) : g i < w.heap.size := by
  cases e : L (S + i) with
  | false => exact (h.z i hi hA e).lt
  | true => exact (h.k i hi e).lt
theorem MJ.call (h : MJ W2 w L n A S g v) (hb : Below w.heap.size w w') : MJ W2 w' L n A S g v :=
  ⟨h.bl.trans (hb.mono h.bl.size), h.d, h.lo, fun i hi p q => (h.z i hi p q).below hb (h.z i hi p q).lt, fun i hi p => (h.k i hi p).below hb (h.k i hi p).lt, h.ne⟩
theorem MJ.mark (h : MJ W2 w L n A S g v) (m : Nat) (hm : (m < A ∧ m < S) ∨ (A + n ≤ m ∧ m < S) ∨ (A + n ≤ m ∧ S + n ≤ m)) : MJ W2 w (mkd L m) n A S g v := by
  have e : ∀ i, i < n → mkd L m (A + i) = L (A + i) := fun i hi => mkd_ne (by omega)
  have f : ∀ i, i < n → mkd L m (S + i) = L (S + i) := fun i hi => mkd_ne (by omega)
  constructor
  · exact h.bl
  · intro i hi p; rw [f i hi] at p; rw [e i hi]; exact h.d i hi p
  · intro i hi p; rw [e i hi] at p; exact h.lo i hi p
  · intro i hi p q; rw [e i hi] at p; rw [f i hi] at q; exact h.z i hi p q
  · intro i hi p; rw [f i hi] at p; exact h.k i hi p
  · intro i j hi hj hij p q; rw [e i hi] at p; rw [e j hj] at q; exact h.ne i j hi hj hij p q
theorem MJ.al (h : MJ W2 w L n A S g v) (m : Nat) (hm : m < n) (hAS : A + n ≤ S) (hL : L (A + m) = false) (t : TypeId) : MJ W2 (w.alloc (.cells #[.int .i64 0, .int .i64 0] t)) (mkd L (A + m)) n A S (fun j => if j = m then w.heap.size else g j) v := by
  have c := h.call (bl_alloc w (.cells #[.int .i64 0, .int .i64 0] t))
  have hS : L (S + m) = false := by
    cases e : L (S + m) with
    | false => rfl
    | true => rw [h.d m hm e] at hL; cases hL
  have f : ∀ i, i < n → mkd L (A + m) (S + i) = L (S + i) := fun i hi => mkd_ne (by omega)
  have e : ∀ i, i < n → i ≠ m → mkd L (A + m) (A + i) = L (A + i) := fun i hi him => mkd_ne (by omega)
  constructor
  · exact c.bl
  · intro i hi p
    rw [f i hi] at p
    by_cases him : i = m
    · subst him; exact mkd_same _ _
    · rw [e i hi him]; exact h.d i hi p
  · intro i hi p
    by_cases him : i = m
    · simp only [him, if_true]; exact h.bl.size
    · simp only [if_neg him]; rw [e i hi him] at p; exact h.lo i hi p
  · intro i hi p q
    by_cases him : i = m
    · simp only [him, if_true]; exact D2.new w 0 0 t
    · simp only [if_neg him]; rw [e i hi him] at p; rw [f i hi] at q; exact c.z i hi p q
  · intro i hi p
    rw [f i hi] at p
    by_cases him : i = m
    · subst him; rw [hS] at p; cases p
    · simp only [if_neg him]; exact c.k i hi p
  · intro i j hi hj hij p q
    by_cases him : i = m
    · have hjm : j ≠ m := fun e => hij (him.trans e.symm)
      simp only [him, if_true, if_neg hjm]
      rw [e j hj hjm] at q
      have := h.l hj q
      omega
    · simp only [if_neg him]
      rw [e i hi him] at p
      by_cases hjm : j = m
      · simp only [hjm, if_true]
        have := h.l hi p
        omega
      · simp only [if_neg hjm]; rw [e j hj hjm] at q; exact h.ne i j hi hj hij p q
theorem MJ.st (h : MJ W2 w L n A S g v) (m : Nat) (hm : m < n) (hAS : A + n ≤ S) (hA : L (A + m) = true) (hL : L (S + m) = false) {a b : Int} (hv : v m = (a, b)) : MJ W2 ((w.setCell ⟨g m, 0, none⟩ (.int .i64 a)).setCell ⟨g m, 1, none⟩ (.int .i64 b)) (mkd L (S + m)) n A S g v := by
  have e : ∀ i, i < n → mkd L (S + m) (A + i) = L (A + i) := fun i hi => mkd_ne (by omega)
  have f : ∀ i, i < n → i ≠ m → mkd L (S + m) (S + i) = L (S + i) := fun i hi him => mkd_ne (by omega)
  have hg := h.lo m hm hA
  have z := h.z m hm hA hL
  constructor
  · exact (h.bl.setCell hg _).setCell hg _
  · intro i hi p
    rw [e i hi]
    by_cases him : i = m
    · subst him; exact hA
    · rw [f i hi him] at p; exact h.d i hi p
  · intro i hi p; rw [e i hi] at p; exact h.lo i hi p
  · intro i hi p q
    rw [e i hi] at p
    by_cases him : i = m
    · subst him; rw [mkd_same] at q; cases q
    · rw [f i hi him] at q
      have hne := h.ne i m hi hm him p hA
      exact ((h.z i hi p q).far (p := ⟨g m, 0, none⟩) hne _).far (p := ⟨g m, 1, none⟩) hne _
  · intro i hi p
    by_cases him : i = m
    · subst him; rw [hv]; exact (z.set0 a).set1 b
    · rw [f i hi him] at p
      have hne := h.ne i m hi hm him (h.d i hi p) hA
      exact ((h.k i hi p).far (p := ⟨g m, 0, none⟩) hne _).far (p := ⟨g m, 1, none⟩) hne _
  · intro i j hi hj hij p q; rw [e i hi] at p; rw [e j hj] at q; exact h.ne i j hi hj hij p q
end
end Go.Proofs.YtnbbemlchchmoaaGreat
namespace Go.Proofs.YtnbbemlchchmoaaGreat
open Go.RowKit
def pLo (a b lo : Int) : Int := a + lo % (b - a + 1)
def pHi (a b lo hi : Int) : Int := pLo a b lo + hi % (b - pLo a b lo + 1)
theorem pp_bd {a b lo hi : Int} (h : a ≤ b) : a ≤ pLo a b lo ∧ pLo a b lo ≤ pHi a b lo hi ∧ pHi a b lo hi ≤ b := by
  have h1 := Int.emod_nonneg lo (show b - a + 1 ≠ 0 by omega)
  have h2 := Int.emod_lt_of_pos lo (show 0 < b - a + 1 by omega)
  have h0 : a ≤ pLo a b lo ∧ pLo a b lo ≤ b := by unfold pLo; omega
  unfold pHi
  generalize pLo a b lo = p at *
  have h3 := Int.emod_nonneg hi (show b - p + 1 ≠ 0 by omega)
  have h4 := Int.emod_lt_of_pos hi (show 0 < b - p + 1 by omega)
  omega
set_option maxHeartbeats 4000000 in
set_option maxRecDepth 100000 in
theorem partC_any (a b lo hi : Int) (w : World) (h : smB a b = true) (l0 : 0 ≤ lo) (l1 : lo ≤ 4294967295) (h0 : 0 ≤ hi) (h1 : hi ≤ 4294967295) :
    Calls Tryz.prog 34 #[.agg #[.int .i64 a, .int .i64 b], .int .u32 lo, .int .u32 hi] w fun e w' => e = .returned (.agg #[.int .i64 (pLo a b lo), .int .i64 (pHi a b lo hi)]) ∧ Below w.heap.size w w' := by
  rw [sm_iff] at h
  have hbd := pp_bd (lo := lo) (hi := hi) h.2.1
  obtain ⟨d, hd⟩ : ∃ d : Int, b - a + 1 = d := ⟨_, rfl⟩
  obtain ⟨r, hr⟩ : ∃ r : Int, lo.tmod d = r := ⟨_, rfl⟩
  have hr2 : lo % d = r := by rw [← hr, Int.tmod_eq_emod_of_nonneg l0]
  have hp : pLo a b lo = a + r := by unfold pLo; rw [hd, hr2]
  obtain ⟨p, hpp⟩ : ∃ p : Int, a + r = p := ⟨_, rfl⟩
  rw [hpp] at hp
  obtain ⟨d2, hd2⟩ : ∃ d : Int, b - p + 1 = d := ⟨_, rfl⟩
  obtain ⟨r2, hr3⟩ : ∃ r : Int, hi.tmod d2 = r := ⟨_, rfl⟩
  have hr4 : hi % d2 = r2 := by rw [← hr3, Int.tmod_eq_emod_of_nonneg h0]
  have hq : pHi a b lo hi = p + r2 := by unfold pHi; rw [hp, hd2, hr4]
  rw [hp, hq] at hbd ⊢
  have e1 : wrap64 (b - a) = b - a := IntWalk.wrap64_in _ (by omega)
  have e2 : wrap64 (b - a + 1) = d := by rw [IntWalk.wrap64_in _ (by omega)]; omega
  have e3 : wrap64 (a + r) = p := by rw [IntWalk.wrap64_in _ (by omega)]; omega
  have e4 : wrap64 (b - p) = b - p := IntWalk.wrap64_in _ (by omega)
  have e5 : wrap64 (b - p + 1) = d2 := by rw [IntWalk.wrap64_in _ (by omega)]; omega
  have e6 : wrap64 (p + r2) = p + r2 := IntWalk.wrap64_in _ (by omega)
  have w1 : wrap64 d = d := IntWalk.wrap64_in _ (by omega)
  have w2 : wrap64 d2 = d2 := IntWalk.wrap64_in _ (by omega)
  have w3 : wrap64 p = p := IntWalk.wrap64_in _ (by omega)
  have n1 : (d == (0 : Int)) = false := by rw [beq_eq_false_iff_ne]; omega
  have n2 : (d2 == (0 : Int)) = false := by rw [beq_eq_false_iff_ne]; omega
  have n3 : d ≠ 0 := by omega
  have n4 : d2 ≠ 0 := by omega
  have b1 := (bl_alloc w (.cells #[.int .i64 a, .int .i64 b] 32))
  have B1 := Lib.hid b1
  clear b1 hbd hp hq hr2 hr4 h
  go_enter Tryz.func34, Tryz.ntmps34
  go_upto_region 1 with (fail)
  go_region
  all_goals
    go_upto_region 2 with (fail)
    go_region
  all_goals
    go_wp2
    refine bodyPost_ret (v := .agg #[.int .i64 p, .int .i64 (p + r2)]) (by simp [results, Tryz.results34, go_sem, *]; done) rfl ⟨rfl, ?_⟩
    repeat (first | exact Below.refl _ _ | assumption | refine bl_drew ?_ | refine bl_drewN ?_ _ | refine Below.setCell ?_ (by first | assumption | omega | (simp; done) | (simp; omega)) _ | refine Below.alloc ?_ (by first | assumption | omega | (simp; done) | (simp; omega)) _)
end Go.Proofs.YtnbbemlchchmoaaGreat
