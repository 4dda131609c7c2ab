/- Walks of the reference's brothers. -/
import Derived.Test.YtlglalemhfjmhaaRd
namespace Go.Proofs.Ytlglalemhfjmhaa
open Go.RowKit
/-- whether four cells are the children of the first one's parent -/
def broB (x y z u : Cl) : Bool := if x.1 = 0 then false else
  let k := kids (x.1 - 1) (x.2.1 / 2) (x.2.2 / 2)
  ceq x (gt k 0) && ceq y (gt k 1) && ceq z (gt k 2) && ceq u (gt k 3)
theorem elem4 {w : World} {B : Nat} {A : Option Addr} {x y z u : Cl} (h : Reads w B 3 A 4 (cvs [x, y, z, u])) : ∃ b off, A = some ⟨b, off, none⟩ ∧ b < B ∧
    (w.cell? ⟨b, off, none⟩ = some (.int .i64 x.1) ∧ w.cell? ⟨b, off + 1, none⟩ = some (.int .i64 x.2.1) ∧ w.cell? ⟨b, off + 2, none⟩ = some (.int .i64 x.2.2)) ∧
    (w.cell? ⟨b, off + 3, none⟩ = some (.int .i64 y.1) ∧ w.cell? ⟨b, off + 3 + 1, none⟩ = some (.int .i64 y.2.1) ∧ w.cell? ⟨b, off + 3 + 2, none⟩ = some (.int .i64 y.2.2)) ∧
    (w.cell? ⟨b, off + 6, none⟩ = some (.int .i64 z.1) ∧ w.cell? ⟨b, off + 6 + 1, none⟩ = some (.int .i64 z.2.1) ∧ w.cell? ⟨b, off + 6 + 2, none⟩ = some (.int .i64 z.2.2)) ∧
    (w.cell? ⟨b, off + 9, none⟩ = some (.int .i64 u.1) ∧ w.cell? ⟨b, off + 9 + 1, none⟩ = some (.int .i64 u.2.1) ∧ w.cell? ⟨b, off + 9 + 2, none⟩ = some (.int .i64 u.2.2)) := by
  obtain ⟨b, off, rfl, hb, a0⟩ := h.elem (k := 0) (by omega)
  obtain ⟨b', off', e, _, a1⟩ := h.elem (k := 1) (by omega)
  cases e
  obtain ⟨b', off', e, _, a2⟩ := h.elem (k := 2) (by omega)
  cases e
  obtain ⟨b', off', e, _, a3⟩ := h.elem (k := 3) (by omega)
  cases e
  exact ⟨b, off, rfl, hb, a0, a1, a2, a3⟩
set_option maxHeartbeats 2000000 in
set_option maxRecDepth 100000 in
theorem brothers_any (A : Option Addr) (ca : Nat) (l r c : Int) (y z u : Cl) (w : World) (hr : Reads w w.heap.size 3 A 4 (cvs [(l, r, c), y, z, u])) (h0 : 0 ≤ l) (h1 : l ≤ 16) (h2 : 0 ≤ r) (r1 : r ≤ 131072) (h4 : 0 ≤ c) (c1 : c ≤ 131072) :
    Calls Try.prog 60 #[.slice A 4 ca] w fun e w' => e = .returned (.bool (broB (l, r, c) y z u)) ∧ Below w.heap.size w w' := by
  have HR := Lib.hid hr
  obtain ⟨b, off, rfl, hb, ⟨x1, x2, x3⟩, _, _, _⟩ := elem4 hr
  clear hr
  simp only [] at x1 x2 x3
  by_cases hz : l = 0
  · subst hz
    go_enter Try.func60, Try.ntmps60
    go_wp2
    go_ret
    exact ⟨ret_bool (by simp [broB]), Below.refl _ _⟩
  · have hd : (l == 0) = false := by simp [hz]
    have P := Lib.hid (fun w => refParent_any l r c w (by omega) h1 h2 r1 h4 c1)
    have K : Hid (∀ w, Calls Try.prog 29 #[.agg #[.int .i64 (l - 1), .int .i64 (r / 2), .int .i64 (c / 2)]] w fun e w' => ∃ v, e = .returned v ∧ w'.ownsRow w.heap.size 32 3 v 4 (cvs (kids (l - 1) (r / 2) (c / 2))) ∧ Below w.heap.size w w') := Lib.hid (fun w => refChildren_any (l - 1) (r / 2) (c / 2) w (by omega) (by omega) (by omega) (by omega) (by omega) (by omega))
    go_enter Try.func60, Try.ntmps60
    go_wp2_with (first | (go_at_call 28; refine (P.out _).mono ?_; rintro e w1 ⟨rfl, hb1⟩) | (go_at_call 29; refine (K.out _).mono ?_; rintro e w2 ⟨v, rfl, hown, hb2⟩; obtain ⟨A', ca', rfl, hR', hle, _⟩ := own_form hown))
    have hb3 : Below w.heap.size w w2 := hb1.trans (hb2.mono hb1.size)
    have hq := eqlCell
    have hR2 := HR.out.below hb3
    obtain ⟨_, _, e, _, ⟨x1, x2, x3⟩, ⟨y1, y2, y3⟩, ⟨z1, z2, z3⟩, ⟨u1, u2, u3⟩⟩ := elem4 hR2
    cases e
    obtain ⟨b', off', rfl, hb', ⟨p1, p2, p3⟩, ⟨q1, q2, q3⟩, ⟨s1, s2, s3⟩, ⟨t1, t2, t3⟩⟩ := elem4 hR'
    have E : broB (l, r, c) y z u = (ceq (l, r, c) (gt (kids (l - 1) (r / 2) (c / 2)) 0) && ceq y (gt (kids (l - 1) (r / 2) (c / 2)) 1) && ceq z (gt (kids (l - 1) (r / 2) (c / 2)) 2) && ceq u (gt (kids (l - 1) (r / 2) (c / 2)) 3)) := by simp [broB, hz]
    simp only [kids, gt, List.getD_cons_zero, List.getD_cons_succ] at E
    obtain ⟨ya, yb, yc⟩ := y
    obtain ⟨za, zb, zc⟩ := z
    obtain ⟨ua, ub, uc⟩ := u
    simp only [] at x1 x2 x3 y1 y2 y3 z1 z2 z3 u1 u2 u3 p1 p2 p3 q1 q2 q3 s1 s2 s3 t1 t2 t3
    have hl1 : l - 1 + 1 = l := by omega
    simp only [hl1] at E p1 q1 s1 t1
    clear hl1
    have E2 := Lib.hid E
    clear E
    clear hR2 hR' hown HR P K hd
    cases e1 : ceq (l, r, c) (l, 2 * (r / 2), 2 * (c / 2)) with
    | false =>
      go_quiet (fail)
      go_wp2
      go_ret
      exact ⟨ret_bool (by rw [E2.out]; simp [e1]), bl_drewN hb3 _⟩
    | true =>
      cases e2 : ceq (ya, yb, yc) (l, 2 * (r / 2), 2 * (c / 2) + 1) with
      | false =>
        go_quiet (fail)
        go_wp2
        go_ret
        exact ⟨ret_bool (by rw [E2.out]; simp [e1, e2]), bl_drewN hb3 _⟩
      | true =>
        cases e3 : ceq (za, zb, zc) (l, 2 * (r / 2) + 1, 2 * (c / 2)) with
        | false =>
          go_quiet (fail)
          go_wp2
          go_ret
          exact ⟨ret_bool (by rw [E2.out]; simp [e1, e2, e3]), bl_drewN hb3 _⟩
        | true =>
          go_quiet (fail)
          go_wp2
          go_ret
          exact ⟨ret_bool (by rw [E2.out]; simp [e1, e2, e3]), bl_drewN hb3 _⟩
end Go.Proofs.Ytlglalemhfjmhaa
