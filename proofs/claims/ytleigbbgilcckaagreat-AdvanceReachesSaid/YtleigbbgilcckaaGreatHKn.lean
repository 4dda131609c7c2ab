/- Plain: where a cell is moved to, and which answers a region that is moved may have. -/
import Derived.Test.YtleigbbgilcckaaGreatHZl
import Derived.Test.YtleigbbgilcckaaGreatHGd
import Derived.Test.YtleigbbgilcckaaGreatHKz
set_option linter.unusedVariables false
set_option linter.unusedSimpArgs false
namespace Go.Proofs.YtleigbbgilcckaaGreat
open Canon
/-- the error of moving a box, and the place -/
def mvErr (q : Bx) (a b x y : Int) : Int :=
  if mvL q.1 q.2.1 a b = true then (if Trig.enLo (min q.1 (q.1 + a) + 5400000) (max q.2.1 (q.2.1 + b) + 5400000) ≤ 0 then 21 else if dlG x y (Trig.enLo (min q.1 (q.1 + a) + 5400000) (max q.2.1 (q.2.1 + b) + 5400000)) (Trig.enHi (min q.1 (q.1 + a) + 5400000) (max q.2.1 (q.2.1 + b) + 5400000)) = true then 0 else 5) else 21
def mvDA (q : Bx) (a b x y : Int) : Int := dlA x y (Trig.enLo (min q.1 (q.1 + a) + 5400000) (max q.2.1 (q.2.1 + b) + 5400000)) (Trig.enHi (min q.1 (q.1 + a) + 5400000) (max q.2.1 (q.2.1 + b) + 5400000))
def mvDB (q : Bx) (a b x y : Int) : Int := dlB x y (Trig.enLo (min q.1 (q.1 + a) + 5400000) (max q.2.1 (q.2.1 + b) + 5400000)) (Trig.enHi (min q.1 (q.1 + a) + 5400000) (max q.2.1 (q.2.1 + b) + 5400000))
def mvBox (q : Bx) (a b x y : Int) : Bx :=
  if mvErr q a b x y = 0 then (q.1 + a, q.2.1 + b, lonA (q.2.2.1 + mvDA q a b x y) (q.2.2.2 + mvDB q a b x y), lonB (q.2.2.1 + mvDA q a b x y) (q.2.2.2 + mvDB q a b x y)) else (0, 0, 0, 0)
theorem mvV_eq (q : Bx) (a b x y : Int) : mvV q.1 q.2.1 q.2.2.1 q.2.2.2 a b x y = .tuple #[.agg #[.int .i64 (mvBox q a b x y).1, .int .i64 (mvBox q a b x y).2.1, .int .i64 (mvBox q a b x y).2.2.1, .int .i64 (mvBox q a b x y).2.2.2], .int .i64 (mvErr q a b x y)] := by
  unfold mvV mvP mvBox mvErr mvDA mvDB
  split
  · split
    · simp
    · split
      · simp
      · simp
  · simp
theorem mvErr_pos (q : Bx) (a b x y : Int) : mvErr q a b x y ≠ -1 := by
  unfold mvErr
  split
  · split
    · decide
    · split <;> decide
  · decide
theorem mvErr_zero {q : Bx} {a b x y : Int} (h : mvErr q a b x y = 0) : mvL q.1 q.2.1 a b = true ∧ 0 < Trig.enLo (min q.1 (q.1 + a) + 5400000) (max q.2.1 (q.2.1 + b) + 5400000) ∧ dlG x y (Trig.enLo (min q.1 (q.1 + a) + 5400000) (max q.2.1 (q.2.1 + b) + 5400000)) (Trig.enHi (min q.1 (q.1 + a) + 5400000) (max q.2.1 (q.2.1 + b) + 5400000)) = true := by
  unfold mvErr at h
  split at h
  · rename_i h1
    split at h
    · cases h
    · rename_i h2
      split at h
      · rename_i h3; exact ⟨h1, by omega, h3⟩
      · cases h
  · cases h
theorem mvD_le {q : Bx} {a b x y : Int} (h : mvErr q a b x y = 0) : mvDA q a b x y ≤ mvDB q a b x y := by
  have hp := (mvErr_zero h).2.1
  unfold mvDA mvDB dlA dlB
  have := qt_le x (q := Trig.enHi (min q.1 (q.1 + a) + 5400000) (max q.2.1 (q.2.1 + b) + 5400000)) hp
  omega
theorem lon_vl {lo hi : Int} (h : lo ≤ hi) : VL (lonA lo hi, lonB lo hi) := by
  have := sgT_bd lo
  unfold VL lonA lonB
  by_cases hw : 21600000 ≤ hi - lo
  · rw [if_pos hw, if_pos hw]; exact .inl ⟨rfl, rfl⟩
  · rw [if_neg hw, if_neg hw]
    right
    simp only []
    omega
theorem mvBox_vp {q : Bx} {a b x y : Int} (hq : VP q) (hl : q.2.2.1 ≤ q.2.2.2) (hab : a ≤ b) (h : mvErr q a b x y = 0) : VP (mvBox q a b x y) := by
  have hd := mvD_le h
  have hm := (mvErr_zero h).1
  have h1 := hq.l1
  unfold mvL at hm
  rw [decide_eq_true_eq] at hm
  unfold mvBox
  rw [if_pos h]
  exact ⟨by simp only []; omega, by simp only []; omega, by simp only []; omega, lon_vl (by omega)⟩
/-- the cells of the level around the place to which a cell is moved -/
noncomputable def arnM (a b x y lev : Int) (c : Cl) : List Cl := arnA (mtP (mvBox (bxI c) a b x y)) lev
def okM (a b x y lev most : Int) (c : Cl) : Prop := mvErr (bxI c) a b x y = 0 ∧ ((arnM a b x y lev c).length : Int) ≤ most
/-- how a region may be moved: no error, and few cells around each place; or the first error -/
def RegOk (a b x y lev most : Int) (L : List Cl) (E : Int) : Prop :=
  ∃ k, k ≤ L.length ∧ (∀ i, i < k → okM a b x y lev most (gt L i)) ∧ ((k = L.length ∧ E = 0) ∨ (k < L.length ∧ E ≠ 0 ∧ mvErr (bxI (gt L k)) a b x y = E))
noncomputable def regX (a b x y lev : Int) (L : List Cl) (k : Nat) : List Cl := (L.take k).flatMap (arnM a b x y lev)
noncomputable def regV (a b x y lev : Int) (L : List Cl) (E : Int) : List Cl := if E = 0 then canonC (covL (regX a b x y lev L L.length)) else []
theorem regX_succ (a b x y lev : Int) (L : List Cl) (k : Nat) (hk : k < L.length) : regX a b x y lev L (k + 1) = regX a b x y lev L k ++ arnM a b x y lev (gt L k) := by
  unfold regX
  rw [take_gt L k hk, List.flatMap_append]
  simp
theorem arnM_v {a b x y lev : Int} (h0 : 0 ≤ lev) (h16 : lev ≤ 16) (c : Cl) : AllV (arnM a b x y lev c) := arnA_v h0 h16
theorem regX_v {a b x y lev : Int} (h0 : 0 ≤ lev) (h16 : lev ≤ 16) (L : List Cl) (k : Nat) : AllV (regX a b x y lev L k) := by
  intro z hz
  obtain ⟨c, -, hc⟩ := List.mem_flatMap.1 hz
  exact arnM_v h0 h16 c z hc
theorem regX_len {a b x y lev most : Int} (L : List Cl) (h0 : 0 ≤ most) : ∀ (k : Nat), k ≤ L.length → (∀ i, i < k → okM a b x y lev most (gt L i)) → ((regX a b x y lev L k).length : Int) ≤ k * most := by
  intro k
  induction k with
  | zero => intro _ _; simp [regX]
  | succ k ih =>
    intro hk h
    have h1 := ih (by omega) (fun i hi => h i (by omega))
    have h2 := (h k (by omega)).2
    rw [regX_succ _ _ _ _ _ _ _ (by omega), List.length_append, show ((k + 1 : Nat) : Int) = (k : Int) + 1 from rfl, Int.add_mul]
    omega
end Go.Proofs.YtleigbbgilcckaaGreat
