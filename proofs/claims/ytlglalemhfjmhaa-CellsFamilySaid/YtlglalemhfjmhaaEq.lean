/- Comparison of cells, and the walk of the reference's Same. -/
import Derived.Test.YtlglalemhfjmhaaWords
import Derived.Laws.StructEq
namespace Go.Proofs.Ytlglalemhfjmhaa
open Go.RowKit
theorem ret_bool {a b : Bool} (h : a = b) : Ending.returned (.bool a) = .returned (.bool b) := by rw [h]
def ceq (x y : Cl) : Bool := decide (x = y)
theorem ceq_true {x y : Cl} : ceq x y = true ↔ x = y := by simp [ceq]
theorem ceq_false {x y : Cl} : ceq x y = false ↔ x ≠ y := by simp [ceq]
abbrev cva (x : Cl) : Value := .agg #[.int .i64 x.1, .int .i64 x.2.1, .int .i64 x.2.2]
theorem guardCell : Try.prog.eqGuardType Try.prog.depth 32 = false := by kernel_rfl
theorem equalInCell (a b c a' b' c' : Int) (w : World) : (Op.equalIn 10000 32 (.agg #[.int .i64 a, .int .i64 b, .int .i64 c]) (.agg #[.int .i64 a', .int .i64 b', .int .i64 c'])).run Try.prog w = .ok (ceq (a, b, c) (a', b', c')) w := by
  have u3 := Try.underlying3
  have a3 := Try.isAgg3
  have z3 := Try.sizeOf3
  have hS : Try.prog.underlying 32 = some (.struct (Try.prog.fieldsOf 32)) := by kernel_rfl
  have hp : Try.prog.stoodInHeld 32 = false := by kernel_rfl
  rw [show (10000 : Nat) = 9999 + 1 from rfl, run_equalIn_agg w 9999 32 _ _ hS hp]
  simp only [Program.fieldsOf, Try.underlying32]
  go_simp
  by_cases h1 : a = a' <;> by_cases h2 : b = b' <;> by_cases h3 : c = c' <;> simp [ceq, h1, h2, h3]
theorem neqCell (a b c a' b' c' : Int) (w : World) : (binOp .neq 32 (.agg #[.int .i64 a, .int .i64 b, .int .i64 c]) (.agg #[.int .i64 a', .int .i64 b', .int .i64 c'])).run Try.prog w = .ok (.bool (!(ceq (a, b, c) (a', b', c')))) w := by
  rw [run_neq_struct, equalInCell]; rfl
theorem eqlCell (a b c a' b' c' : Int) (w : World) : (binOp .eql 32 (.agg #[.int .i64 a, .int .i64 b, .int .i64 c]) (.agg #[.int .i64 a', .int .i64 b', .int .i64 c'])).run Try.prog w = .ok (.bool (ceq (a, b, c) (a', b', c'))) w := by
  rw [run_eql_struct, equalInCell]; rfl

def gt (L : List Cl) (k : Nat) : Cl := L.getD k (0, 0, 0)
theorem cvs_at (L : List Cl) (k : Nat) (hk : k < L.length) : (cvs L)[k * 3]? = some (.int .i64 (gt L k).1) ∧ (cvs L)[k * 3 + 1]? = some (.int .i64 (gt L k).2.1) ∧ (cvs L)[k * 3 + 2]? = some (.int .i64 (gt L k).2.2) := by
  induction L generalizing k with
  | nil => simp at hk
  | cons x r ih =>
    have hc : cvs (x :: r) = .int .i64 x.1 :: .int .i64 x.2.1 :: .int .i64 x.2.2 :: cvs r := rfl
    rw [hc]
    match k with
    | 0 => simp [gt]
    | k + 1 =>
      have := ih k (by simpa using hk)
      have e1 : (k + 1) * 3 = k * 3 + 3 := by omega
      have e2 : (k + 1) * 3 + 1 = (k * 3 + 1) + 3 := by omega
      have e3 : (k + 1) * 3 + 2 = (k * 3 + 2) + 3 := by omega
      rw [e3, e2, e1]
      simpa [gt] using this
theorem Reads.len {w : World} {B n : Nat} {A : Option Addr} {L : List Cl} (h : Reads w B 3 A n (cvs L)) : L.length = n := by
  have := h.1
  rw [cvs_length] at this
  omega
/-- the cells of one element -/
theorem Reads.elem {w : World} {B n : Nat} {A : Option Addr} {L : List Cl} (h : Reads w B 3 A n (cvs L)) {k : Nat} (hk : k < n) :
    ∃ b off, A = some ⟨b, off, none⟩ ∧ b < B ∧ w.cell? ⟨b, off + k * 3, none⟩ = some (.int .i64 (gt L k).1) ∧ w.cell? ⟨b, off + k * 3 + 1, none⟩ = some (.int .i64 (gt L k).2.1) ∧ w.cell? ⟨b, off + k * 3 + 2, none⟩ = some (.int .i64 (gt L k).2.2) := by
  have hl := h.len
  obtain ⟨ad, rfl, hb, hc⟩ := h.2 (by omega)
  obtain ⟨b, off, spot⟩ := ad
  obtain ⟨z1, _, _⟩ := cvs_at L 0 (by omega)
  have hspot : spot = none := by simpa [Addr.add] using World.cell?_spot (hc 0 _ (by simpa using z1))
  subst hspot
  obtain ⟨y1, y2, y3⟩ := cvs_at L k (by omega)
  refine ⟨b, off, rfl, hb, ?_, ?_, ?_⟩
  · have := hc _ _ y1; rw [Go.WideShapes.add_plain] at this; exact this
  · have := hc _ _ y2; rw [Go.WideShapes.add_plain] at this; exact this
  · have := hc _ _ y3; rw [Go.WideShapes.add_plain] at this; exact this

theorem take_eq_succ {L M : List Cl} {k : Nat} (h : L.take k = M.take k) (h1 : k < L.length) (h2 : k < M.length) (he : gt L k = gt M k) : L.take (k + 1) = M.take (k + 1) := by
  rw [List.take_succ_eq_append_getElem h1, List.take_succ_eq_append_getElem h2, h]
  simp [gt, h1, h2] at he
  rw [he]
theorem ne_of_gt {L M : List Cl} {k : Nat} (he : gt L k ≠ gt M k) : L ≠ M := fun h => he (by rw [h])

set_option maxHeartbeats 1000000 in
set_option maxRecDepth 100000 in
theorem Same_any (A B : Option Addr) (n m ca cb : Nat) (L M : List Cl) (w : World) (B1 B2 : Nat) (ha : Reads w B1 3 A n (cvs L)) (hb : Reads w B2 3 B m (cvs M)) (hn : n ≤ maxLen) (hm : m ≤ maxLen) :
    Calls Try.prog 17 #[.slice A n ca, .slice B m cb] w fun e w' => e = .returned (.bool (decide (L = M))) ∧ ∃ q, w' = w.drewN q := by
  have hl := ha.len
  have hk := hb.len
  unfold maxLen at hn hm
  by_cases hnm : n = m
  · subst hnm
    have hnn : ((n : Int) != (n : Int)) = false := by simp
    have R1 := Lib.hid ha
    have R2 := Lib.hid hb
    have Hl := Lib.hid hl
    have Hk := Lib.hid hk
    clear ha hb hl hk
    have hq := neqCell
    go_enter Try.func17, Try.ntmps17
    go_wp2
    go_loopw [5] (fun i wr => ∃ k q : Nat, k ≤ n ∧ i = .int .i64 k ∧ L.take k = M.take k ∧ wr = w.drewN q) (fun i _ => n - (intOf i).toNat)
    case atStart => exact ⟨0, 0, Nat.zero_le _, rfl, by simp, rfl⟩
    case round =>
      obtain ⟨k, q, hkn, rfl, ht, rfl⟩ := hrel
      have HT := Lib.hid ht
      clear ht
      by_cases hlt : k < n
      · obtain ⟨b1, o1, rfl, hb1, x1, x2, x3⟩ := R1.out.elem hlt
        obtain ⟨b2, o2, rfl, hb2, y1, y2, y3⟩ := R2.out.elem hlt
        by_cases he : gt L k = gt M k
        · have hc := ceq_true.2 he
          clear he
          go_wp2
          go_quiet (fail)
          go_wp2

          go_roundw
          case rel => exact ⟨k + 1, _, by omega, by go_num, take_eq_succ HT.out (by rw [Hl.out]; exact hlt) (by rw [Hk.out]; exact hlt) (ceq_true.1 hc), rfl⟩
          case measure => simp [intOf]; omega
        · have hc := ceq_false.2 he
          clear he
          have hne := Lib.hid (ne_of_gt (ceq_false.1 hc))
          go_wp2
          go_quiet (fail)
          go_wp2

          go_ret
          exact ⟨ret_bool (by simp [hne.out]), _, World.drewN_drewN _ _ _⟩
      · go_wp2
        go_ret
        have hkk : k = n := by omega
        subst hkk
        have := HT.out
        rw [List.take_of_length_le (by rw [Hl.out]; omega), List.take_of_length_le (by rw [Hk.out]; omega)] at this
        exact ⟨ret_bool (by simp [this]), _, rfl⟩
  · have hnn : ((n : Int) != (m : Int)) = true := by rw [bne_iff_ne]; omega
    have hne : L ≠ M := fun h => hnm (by rw [← hl, ← hk, h])
    have hne := Lib.hid hne
    clear ha hb hl hk hnm
    go_enter Try.func17, Try.ntmps17
    go_wp2
    go_ret
    exact ⟨ret_bool (by simp [hne.out]), 0, rfl⟩
end Go.Proofs.Ytlglalemhfjmhaa
