/- The walk of the reference's Of. -/
import Derived.Laws.StructEq
import Derived.Test.YtlhdneeiikemjaaGWords
import Derived.Test.YtlhdneeiikemjaaGBase
set_option linter.unusedVariables false
set_option linter.unusedSimpArgs false
/- Comparison of cells, and the walk of the reference's Same. -/
namespace Go.Proofs.Ytlhdneeiikemjaa
open Go.RowKit
theorem ret_bool {a b : Bool} (h : a = b) : Ending.returned (.bool a) = .returned (.bool b) := by rw [h]
def ceq (x y : Cl) : Bool := decide (x = y)
theorem ceq_true {x y : Cl} : ceq x y = true ↔ x = y := by simp [ceq]
theorem ceq_false {x y : Cl} : ceq x y = false ↔ x ≠ y := by simp [ceq]
abbrev cva (x : Cl) : Value := .agg #[.int .i64 x.1, .int .i64 x.2.1, .int .i64 x.2.2]
theorem guardCell : Try.prog.eqGuardType Try.prog.depth 25 = false := by kernel_rfl
theorem equalInCell (a b c a' b' c' : Int) (w : World) : (Op.equalIn 10000 25 (.agg #[.int .i64 a, .int .i64 b, .int .i64 c]) (.agg #[.int .i64 a', .int .i64 b', .int .i64 c'])).run Try.prog w = .ok (ceq (a, b, c) (a', b', c')) w := by
  have u3 := Try.underlying3
  have a3 := Try.isAgg3
  have z3 := Try.sizeOf3
  have hS : Try.prog.underlying 25 = some (.struct (Try.prog.fieldsOf 25)) := by kernel_rfl
  have hp : Try.prog.stoodInHeld 25 = false := by kernel_rfl
  rw [show (10000 : Nat) = 9999 + 1 from rfl, run_equalIn_agg w 9999 25 _ _ hS hp]
  simp only [Program.fieldsOf, Try.underlying25]
  go_simp
  by_cases h1 : a = a' <;> by_cases h2 : b = b' <;> by_cases h3 : c = c' <;> simp [ceq, h1, h2, h3]
theorem neqCell (a b c a' b' c' : Int) (w : World) : (binOp .neq 25 (.agg #[.int .i64 a, .int .i64 b, .int .i64 c]) (.agg #[.int .i64 a', .int .i64 b', .int .i64 c'])).run Try.prog w = .ok (.bool (!(ceq (a, b, c) (a', b', c')))) w := by
  rw [run_neq_struct, equalInCell]; rfl
theorem eqlCell (a b c a' b' c' : Int) (w : World) : (binOp .eql 25 (.agg #[.int .i64 a, .int .i64 b, .int .i64 c]) (.agg #[.int .i64 a', .int .i64 b', .int .i64 c'])).run Try.prog w = .ok (.bool (ceq (a, b, c) (a', b', c'))) w := by
  rw [run_eql_struct, equalInCell]; rfl

def gt (L : List Cl) (k : Nat) : Cl := L.getD k (0, 0, 0)
theorem cvs_at (L : List Cl) (k : Nat) (hk : k < L.length) : (cvs L)[k * 3]? = some (.int .i64 (gt L k).1) ∧ (cvs L)[k * 3 + 1]? = some (.int .i64 (gt L k).2.1) ∧ (cvs L)[k * 3 + 2]? = some (.int .i64 (gt L k).2.2) := by
  induction L generalizing k with
  | nil => simp at hk
  | cons x r ih =>
    have hc : cvs (x :: r) = .int .i64 x.1 :: .int .i64 x.2.1 :: .int .i64 x.2.2 :: cvs r := rfl
    rw [hc]
    match k with
    | 0 => simp [gt]
    | k + 1 =>
      have := ih k (by simpa using hk)
      have e1 : (k + 1) * 3 = k * 3 + 3 := by omega
      have e2 : (k + 1) * 3 + 1 = (k * 3 + 1) + 3 := by omega
      have e3 : (k + 1) * 3 + 2 = (k * 3 + 2) + 3 := by omega
      rw [e3, e2, e1]
      simpa [gt] using this
theorem Reads.len {w : World} {B n : Nat} {A : Option Addr} {L : List Cl} (h : Reads w B 3 A n (cvs L)) : L.length = n := by
  have := h.1
  rw [cvs_length] at this
  omega
/-- the cells of one element -/
theorem Reads.elem {w : World} {B n : Nat} {A : Option Addr} {L : List Cl} (h : Reads w B 3 A n (cvs L)) {k : Nat} (hk : k < n) :
    ∃ b off, A = some ⟨b, off, none⟩ ∧ b < B ∧ w.cell? ⟨b, off + k * 3, none⟩ = some (.int .i64 (gt L k).1) ∧ w.cell? ⟨b, off + k * 3 + 1, none⟩ = some (.int .i64 (gt L k).2.1) ∧ w.cell? ⟨b, off + k * 3 + 2, none⟩ = some (.int .i64 (gt L k).2.2) := by
  have hl := h.len
  obtain ⟨ad, rfl, hb, hc⟩ := h.2 (by omega)
  obtain ⟨b, off, spot⟩ := ad
  obtain ⟨z1, _, _⟩ := cvs_at L 0 (by omega)
  have hspot : spot = none := by simpa [Addr.add] using World.cell?_spot (hc 0 _ (by simpa using z1))
  subst hspot
  obtain ⟨y1, y2, y3⟩ := cvs_at L k (by omega)
  refine ⟨b, off, rfl, hb, ?_, ?_, ?_⟩
  · have := hc _ _ y1; rw [Go.WideShapes.add_plain] at this; exact this
  · have := hc _ _ y2; rw [Go.WideShapes.add_plain] at this; exact this
  · have := hc _ _ y3; rw [Go.WideShapes.add_plain] at this; exact this

theorem take_eq_succ {L M : List Cl} {k : Nat} (h : L.take k = M.take k) (h1 : k < L.length) (h2 : k < M.length) (he : gt L k = gt M k) : L.take (k + 1) = M.take (k + 1) := by
  rw [List.take_succ_eq_append_getElem h1, List.take_succ_eq_append_getElem h2, h]
  simp [gt, h1, h2] at he
  rw [he]
theorem ne_of_gt {L M : List Cl} {k : Nat} (he : gt L k ≠ gt M k) : L ≠ M := fun h => he (by rw [h])

set_option maxHeartbeats 1000000 in
set_option maxRecDepth 100000 in
theorem Same_any (A B : Option Addr) (n m ca cb : Nat) (L M : List Cl) (w : World) (B1 B2 : Nat) (ha : Reads w B1 3 A n (cvs L)) (hb : Reads w B2 3 B m (cvs M)) (hn : n ≤ maxLen) (hm : m ≤ maxLen) :
    Calls Try.prog 12 #[.slice A n ca, .slice B m cb] w fun e w' => e = .returned (.bool (decide (L = M))) ∧ ∃ q, w' = w.drewN q := by
  have hl := ha.len
  have hk := hb.len
  unfold maxLen at hn hm
  by_cases hnm : n = m
  · subst hnm
    have hnn : ((n : Int) != (n : Int)) = false := by simp
    have R1 := Lib.hid ha
    have R2 := Lib.hid hb
    have Hl := Lib.hid hl
    have Hk := Lib.hid hk
    clear ha hb hl hk
    have hq := neqCell
    go_enter Try.func12, Try.ntmps12
    go_wp2
    go_loopw [5] (fun i wr => ∃ k q : Nat, k ≤ n ∧ i = .int .i64 k ∧ L.take k = M.take k ∧ wr = w.drewN q) (fun i _ => n - (intOf i).toNat)
    case atStart => exact ⟨0, 0, Nat.zero_le _, rfl, by simp, rfl⟩
    case round =>
      obtain ⟨k, q, hkn, rfl, ht, rfl⟩ := hrel
      have HT := Lib.hid ht
      clear ht
      by_cases hlt : k < n
      · obtain ⟨b1, o1, rfl, hb1, x1, x2, x3⟩ := R1.out.elem hlt
        obtain ⟨b2, o2, rfl, hb2, y1, y2, y3⟩ := R2.out.elem hlt
        by_cases he : gt L k = gt M k
        · have hc := ceq_true.2 he
          clear he
          go_wp2
          go_quiet (fail)
          go_wp2

          go_roundw
          case rel => exact ⟨k + 1, _, by omega, by go_num, take_eq_succ HT.out (by rw [Hl.out]; exact hlt) (by rw [Hk.out]; exact hlt) (ceq_true.1 hc), rfl⟩
          case measure => simp [intOf]; omega
        · have hc := ceq_false.2 he
          clear he
          have hne := Lib.hid (ne_of_gt (ceq_false.1 hc))
          go_wp2
          go_quiet (fail)
          go_wp2

          go_ret
          exact ⟨ret_bool (by simp [hne.out]), _, World.drewN_drewN _ _ _⟩
      · go_wp2
        go_ret
        have hkk : k = n := by omega
        subst hkk
        have := HT.out
        rw [List.take_of_length_le (by rw [Hl.out]; omega), List.take_of_length_le (by rw [Hk.out]; omega)] at this
        exact ⟨ret_bool (by simp [this]), _, rfl⟩
  · have hnn : ((n : Int) != (m : Int)) = true := by rw [bne_iff_ne]; omega
    have hne : L ≠ M := fun h => hnm (by rw [← hl, ← hk, h])
    have hne := Lib.hid hne
    clear ha hb hl hk hnm
    go_enter Try.func12, Try.ntmps12
    go_wp2
    go_ret
    exact ⟨ret_bool (by simp [hne.out]), 0, rfl⟩
end Go.Proofs.Ytlhdneeiikemjaa
/- Walks of Parent, the reference's Parent and Valid, both ValidPoints, index. -/
namespace Go.Proofs.Ytlhdneeiikemjaa
open Go.RowKit

set_option maxHeartbeats 400000 in
theorem refParent_any (l r c : Int) (w : World) (h0 : 1 ≤ l) (h1 : l ≤ 16) (h2 : 0 ≤ r) (r1 : r ≤ 131072) (h4 : 0 ≤ c) (c1 : c ≤ 131072) :
    Calls Try.prog 78 #[.agg #[.int .i64 l, .int .i64 r, .int .i64 c]] w fun e w' => e = .returned (.agg #[.int .i64 (l - 1), .int .i64 (r / 2), .int .i64 (c / 2)]) ∧ Below w.heap.size w w' := by
  go_enter Try.func78, Try.ntmps78
  go_wp2
  refine bodyPost_ret (v := .agg #[.int .i64 (l - 1), .int .i64 (r / 2), .int .i64 (c / 2)]) (by simp [results, Try.results78, go_sem]) rfl ⟨rfl, ?_⟩
  repeat (first | exact Below.refl _ _ | assumption | refine bl_drew ?_ | refine bl_drewN ?_ _ | refine Below.setCell ?_ (by first | assumption | omega | (simp; done) | (simp; omega)) _ | refine Below.alloc ?_ (by first | assumption | omega | (simp; done) | (simp; omega)) _)

/-- which points are valid -/
def vptB (a b : Int) : Bool := decide (-5400000 ≤ a ∧ a ≤ 5400000 ∧ -10800000 ≤ b ∧ b < 10800000)
theorem vptB_true {a b : Int} : vptB a b = true ↔ (-5400000 ≤ a ∧ a ≤ 5400000 ∧ -10800000 ≤ b ∧ b < 10800000) := by simp [vptB]
set_option maxHeartbeats 400000 in
theorem vpt_any (a b : Int) (w : World) :
    Calls Try.prog 59 #[.agg #[.int .i64 a, .int .i64 b]] w fun e w' => e = .returned (.bool (vptB a b)) ∧ Below w.heap.size w w' := by
  unfold vptB
  go_enter Try.func59, Try.ntmps59
  go_wp2
  all_goals
    go_ret
    refine ⟨ret_bool (by first | (simp_all; done) | (simp_all; omega)), ?_⟩
    repeat (first | exact Below.refl _ _ | assumption | refine bl_drew ?_ | refine bl_drewN ?_ _ | refine Below.setCell ?_ (by first | assumption | omega | (simp; done) | (simp; omega)) _ | refine Below.alloc ?_ (by first | assumption | omega | (simp; done) | (simp; omega)) _)
/-- the reckoning of cells.index -/
def pn (n l : Int) : Int := (n + 1) * pw l
def idx (n l m : Int) : Int := min ((pn n l + 10799999) / 10800000 - 1) m
theorem pn_bd {n l : Int} (h1 : l ≤ 16) (h2 : 0 ≤ n) (h3 : n ≤ 21600000) : 0 ≤ pn n l ∧ pn n l ≤ 1415577665536 := by
  have hp := pw_bd h1
  unfold pn
  have h : (n + 1) * pw l ≤ 21600001 * 65536 := Int.mul_le_mul (by omega) hp.2 (by omega) (by omega)
  have h' : 0 ≤ (n + 1) * pw l := Int.mul_nonneg (by omega) (by omega)
  omega
set_option maxHeartbeats 400000 in
theorem index_any (n l m : Int) (w : World) (h0 : 0 ≤ l) (h1 : l ≤ 16) (h2 : 0 ≤ n) (h3 : n ≤ 21600000) (h4 : 0 ≤ m) (h5 : m ≤ 131072) :
    Calls Try.prog 60 #[.int .i64 n, .int .i64 l, .int .i64 m] w fun e w' => e = .returned (.int .i64 (idx n l m)) ∧ w' = w := by
  have b := pn_bd h1 h2 h3
  have e1 : wrap64 ((n + 1) * 2 ^ l.toNat) = pn n l := IntWalk.wrap64_in _ (by unfold pn pw at b; omega)
  go_enter Try.func60, Try.ntmps60
  go_wp2
  all_goals
    go_ret
    refine ⟨ret_int ?_, rfl⟩
    clear e1
    unfold idx
    omega
end Go.Proofs.Ytlhdneeiikemjaa
/- Walks of Children, and the reference's Children. -/
namespace Go.Proofs.Ytlhdneeiikemjaa
open Go.RowKit
set_option maxHeartbeats 1000000 in
set_option maxRecDepth 100000 in
theorem refChildren_any (l r c : Int) (w : World) (h0 : 0 ≤ l) (h1 : l ≤ 16) (h2 : 0 ≤ r) (r1 : r ≤ 131072) (h4 : 0 ≤ c) (c1 : c ≤ 131072) :
    Calls Try.prog 77 #[.agg #[.int .i64 l, .int .i64 r, .int .i64 c]] w (RetCells1 w (kids l r c)) := by
  have s1 : IntKind.i64.wrap (2 * r) = 2 * r := IntWalk.i64_in _ (by omega)
  have s2 : IntKind.i64.wrap (2 * c) = 2 * c := IntWalk.i64_in _ (by clear s1; omega)
  go_enter Try.func77, Try.ntmps77
  go_wp2
  go_quiet (fail)
  clear s1 s2
  go_wp2
  go_ret
  refine ⟨.slice (some ⟨w.heap.size + 1, 0, none⟩) 4 4, rfl, own_new _ _ _ 3 4 _ _ (by simp) (by simp) rfl (by simp [maxLen]), ?_⟩
  repeat (first | exact Below.refl _ _ | assumption | refine bl_drew ?_ | refine bl_drewN ?_ _ | refine Below.setCell ?_ (by first | assumption | omega | (simp; done) | (simp; omega)) _ | refine Below.alloc ?_ (by first | assumption | omega | (simp; done) | (simp; omega)) _)
end Go.Proofs.Ytlhdneeiikemjaa
/- Walks of Of, and the reference's Valid. -/
namespace Go.Proofs.Ytlhdneeiikemjaa
open Go.RowKit
theorem vpt_yes (a b : Int) (hv : vptB a b = true) (w : World) : Calls Try.prog 59 #[.agg #[.int .i64 a, .int .i64 b]] w fun e w' => e = .returned (.bool true) ∧ Below w.heap.size w w' := by
  rw [← hv]; exact vpt_any a b w
theorem vpt_no (a b : Int) (hv : vptB a b = false) (w : World) : Calls Try.prog 59 #[.agg #[.int .i64 a, .int .i64 b]] w fun e w' => e = .returned (.bool false) ∧ Below w.heap.size w w' := by
  rw [← hv]; exact vpt_any a b w
set_option maxHeartbeats 400000 in
theorem Of_bad (a b l : Int) (w : World) (hv : vptB a b = false) :
    Calls Try.prog 29 #[.agg #[.int .i64 a, .int .i64 b], .int .i64 l] w fun e w' => e = .returned (.tuple #[.agg #[.int .i64 0, .int .i64 0, .int .i64 0], .int .i64 1]) ∧ Below w.heap.size w w' := by
  have V := Lib.hid (vpt_no a b hv)
  clear hv
  go_enter Try.func29, Try.ntmps29
  go_wp2_with (go_at_call 59; refine (V.out _).mono ?_; rintro e w1 ⟨rfl, hb⟩; obtain ⟨hc, hf⟩ := bcell hb; obtain ⟨hz0, hz1⟩ := two_lt hb)
  refine bodyPost_ret (v := .tuple #[.agg #[.int .i64 0, .int .i64 0, .int .i64 0], .int .i64 1]) (by simp [results, Try.results29, go_sem, hc]) rfl ⟨rfl, ?_⟩
  have hb1 := two_bl hb
  repeat (first | exact Below.refl _ _ | assumption | refine bl_drew ?_ | refine bl_drewN ?_ _ | refine Below.setCell ?_ (by first | assumption | omega | (simp; done) | (simp; omega)) _ | refine Below.alloc ?_ (by first | assumption | omega | (simp; done) | (simp; omega)) _)
set_option maxHeartbeats 400000 in
theorem Of_range (a b l : Int) (w : World) (hv : vptB a b = true) (hl : l < 0 ∨ 16 < l) :
    Calls Try.prog 29 #[.agg #[.int .i64 a, .int .i64 b], .int .i64 l] w fun e w' => e = .returned (.tuple #[.agg #[.int .i64 0, .int .i64 0, .int .i64 0], .int .i64 2]) ∧ Below w.heap.size w w' := by
  have V := Lib.hid (vpt_yes a b hv)
  clear hv
  rcases hl with hl | hl
  · go_enter Try.func29, Try.ntmps29
    go_wp2_with (go_at_call 59; refine (V.out _).mono ?_; rintro e w1 ⟨rfl, hb⟩; obtain ⟨hc, hf⟩ := bcell hb; obtain ⟨hz0, hz1⟩ := two_lt hb)
    refine bodyPost_ret (v := .tuple #[.agg #[.int .i64 0, .int .i64 0, .int .i64 0], .int .i64 2]) (by simp [results, Try.results29, go_sem, hc]) rfl ⟨rfl, ?_⟩
    have hb1 := two_bl hb
    repeat (first | exact Below.refl _ _ | assumption | refine bl_drew ?_ | refine bl_drewN ?_ _ | refine Below.setCell ?_ (by first | assumption | omega | (simp; done) | (simp; omega)) _ | refine Below.alloc ?_ (by first | assumption | omega | (simp; done) | (simp; omega)) _)
  · have hl' : ¬ l < 0 := by omega
    go_enter Try.func29, Try.ntmps29
    go_wp2_with (go_at_call 59; refine (V.out _).mono ?_; rintro e w1 ⟨rfl, hb⟩; obtain ⟨hc, hf⟩ := bcell hb; obtain ⟨hz0, hz1⟩ := two_lt hb)
    refine bodyPost_ret (v := .tuple #[.agg #[.int .i64 0, .int .i64 0, .int .i64 0], .int .i64 2]) (by simp [results, Try.results29, go_sem, hc]) rfl ⟨rfl, ?_⟩
    have hb1 := two_bl hb
    repeat (first | exact Below.refl _ _ | assumption | refine bl_drew ?_ | refine bl_drewN ?_ _ | refine Below.setCell ?_ (by first | assumption | omega | (simp; done) | (simp; omega)) _ | refine Below.alloc ?_ (by first | assumption | omega | (simp; done) | (simp; omega)) _)
set_option maxHeartbeats 1000000 in
set_option maxRecDepth 100000 in
theorem Of_yes (a b l : Int) (w : World) (hv : vptB a b = true) (h0 : 0 ≤ l) (h1 : l ≤ 16) :
    Calls Try.prog 29 #[.agg #[.int .i64 a, .int .i64 b], .int .i64 l] w fun e w' => e = .returned (.tuple #[.agg #[.int .i64 l, .int .i64 (idx (a + 5400000) l (pw l - 1)), .int .i64 (idx (b + 10800000) l (2 * pw l - 1))], .int .i64 0]) ∧ Below w.heap.size w w' := by
  have V := Lib.hid (vpt_yes a b hv)
  obtain ⟨a1, a2, b1, b2⟩ := vptB_true.1 hv
  clear hv
  have hp := pw_bd h1
  have n1 : 0 ≤ a + 5400000 := by omega
  have n2 : a + 5400000 ≤ 21600000 := by omega
  have n3 : 0 ≤ b + 10800000 := by omega
  have n4 : b + 10800000 ≤ 21600000 := by omega
  have n5 : 0 ≤ pw l - 1 := by omega
  have n6 : pw l - 1 ≤ 131072 := by omega
  have n7 : 0 ≤ 2 * pw l - 1 := by omega
  have n8 : 2 * pw l - 1 ≤ 131072 := by omega
  have s1 : IntKind.i64.wrap (a + 5400000) = a + 5400000 := IntWalk.i64_in _ (by omega)
  have s2 : IntKind.i64.wrap (b + 10800000) = b + 10800000 := IntWalk.i64_in _ (by clear s1; omega)
  have s3 : IntKind.i64.wrap (pw l - 1) = pw l - 1 := IntWalk.i64_in _ (by clear s1 s2; omega)
  have s4 : IntKind.i64.wrap (2 * pw l - 1) = 2 * pw l - 1 := IntWalk.i64_in _ (by clear s1 s2 s3; omega)
  have s5 := pw_wrap h1
  have s6 := pw_wrap2 h1
  clear hp
  go_enter Try.func29, Try.ntmps29
  go_wp2_with (go_at_call 59; refine (V.out _).mono ?_; rintro e w1 ⟨rfl, hb⟩; obtain ⟨hc, hf⟩ := bcell hb; obtain ⟨hz0, hz1⟩ := two_lt hb)
  refine wp_still_tail 18 (by kernel_rfl) (by kernel_rfl) ?_
  simp only [List.take_succ_cons, List.take_zero, List.drop_succ_cons, List.drop_zero]
  repeat (first | still_step | still_call (index_any _ _ _ _ h0 h1 (by assumption) (by assumption) (by assumption) (by assumption)))
  refine wpStill_nil ?_
  clear s1 s2 s3 s4 s5 s6
  go_wp2
  refine bodyPost_ret (v := .tuple #[.agg #[.int .i64 l, .int .i64 (idx (a + 5400000) l (pw l - 1)), .int .i64 (idx (b + 10800000) l (2 * pw l - 1))], .int .i64 0]) (by simp [results, Try.results29, go_sem, hc]) rfl ⟨rfl, ?_⟩
  have hb1 := two_bl hb
  repeat (first | exact Below.refl _ _ | assumption | refine bl_drew ?_ | refine bl_drewN ?_ _ | refine Below.setCell ?_ (by first | assumption | omega | (simp; done) | (simp; omega)) _ | refine Below.alloc ?_ (by first | assumption | omega | (simp; done) | (simp; omega)) _)

set_option maxHeartbeats 1000000 in
theorem refValid_any (l r c : Int) (w : World) :
    Calls Try.prog 50 #[.agg #[.int .i64 l, .int .i64 r, .int .i64 c]] w fun e w' => e = .returned (.bool (vldB l r c)) ∧ Below w.heap.size w w' := by
  by_cases h0 : 0 ≤ l
  · by_cases h1 : l ≤ 16
    · have e1 : wrap64 (2 ^ l.toNat) = pw l := by rw [← IntWalk.i64_left]; exact pw_wrap h1
      have hp := pw_bd h1
      have hv : vldB l r c = decide (0 ≤ r ∧ r < pw l ∧ 0 ≤ c ∧ c < 2 * pw l) := by simp [vldB, h0, h1]
      rw [hv]
      clear hv
      have h0' : ¬ l < 0 := by omega
      go_enter Try.func50, Try.ntmps50
      go_wp2
      all_goals
        go_ret
        refine ⟨ret_bool (by clear e1; first | (simp_all; done) | (simp_all; omega)), ?_⟩
        repeat (first | exact Below.refl _ _ | assumption | refine bl_drew ?_ | refine bl_drewN ?_ _ | refine Below.setCell ?_ (by first | assumption | omega | (simp; done) | (simp; omega)) _ | refine Below.alloc ?_ (by first | assumption | omega | (simp; done) | (simp; omega)) _)
    · have hv : vldB l r c = false := by simp [vldB, h1]
      rw [hv]
      have h0' : ¬ l < 0 := by omega
      have h1' : 16 < l := by omega
      clear hv
      go_enter Try.func50, Try.ntmps50
      go_wp2
      go_ret
      refine ⟨rfl, ?_⟩
      repeat (first | exact Below.refl _ _ | assumption | refine bl_drew ?_ | refine bl_drewN ?_ _ | refine Below.setCell ?_ (by first | assumption | omega | (simp; done) | (simp; omega)) _ | refine Below.alloc ?_ (by first | assumption | omega | (simp; done) | (simp; omega)) _)
  · have hv : vldB l r c = false := by simp [vldB, h0]
    rw [hv]
    have h0' : l < 0 := by omega
    clear hv
    go_enter Try.func50, Try.ntmps50
    go_wp2
    go_ret
    refine ⟨rfl, ?_⟩
    repeat (first | exact Below.refl _ _ | assumption | refine bl_drew ?_ | refine bl_drewN ?_ _ | refine Below.setCell ?_ (by first | assumption | omega | (simp; done) | (simp; omega)) _ | refine Below.alloc ?_ (by first | assumption | omega | (simp; done) | (simp; omega)) _)
end Go.Proofs.Ytlhdneeiikemjaa
namespace Go.Proofs.Ytlhdneeiikemjaa
open Go.RowKit
theorem edg_zero (l : Int) : edg 0 l = 0 := by simp [edg]
theorem edg_le_iff {k l N : Int} (h1 : l ≤ 16) : edg k l ≤ N ↔ k ≤ (pn N l - 1) / 10800000 := by
  have hp := pw_bd h1
  unfold edg pn
  rw [← Int.lt_add_one_iff, Int.ediv_lt_iff_lt_mul (by omega), Int.le_ediv_iff_mul_le (by omega)]
  omega
theorem idx_char {k l N m : Int} (h1 : l ≤ 16) (hk : k ≤ m) (hle : edg k l ≤ N) (hx : k = m ∨ N < edg (k + 1) l) : idx N l m = k := by
  have a1 := (edg_le_iff h1).1 hle
  have a2 : k = m ∨ (pn N l - 1) / 10800000 < k + 1 := by
    rcases hx with hx | hx
    · exact .inl hx
    · right
      have : ¬ edg (k + 1) l ≤ N := by omega
      rw [edg_le_iff h1] at this
      omega
  unfold idx
  have e : (pn N l + 10799999) / 10800000 - 1 = (pn N l - 1) / 10800000 := by omega
  rw [e]
  generalize (pn N l - 1) / 10800000 = z at *
  omega

end Go.Proofs.Ytlhdneeiikemjaa
