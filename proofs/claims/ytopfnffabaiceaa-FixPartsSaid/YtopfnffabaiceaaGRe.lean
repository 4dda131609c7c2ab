/- The walk of ValidRegion, of law38's valid. -/
import Derived.Test.YtopfnffabaiceaaGRc
import Derived.Test.YtopfnffabaiceaaGWo
set_option linter.unusedVariables false
set_option linter.unusedSimpArgs false
/- Walks of the reference's brothers. -/
namespace Go.Proofs.Ytopfnffabaiceaa
open Go.RowKit
/-- whether four cells are the children of the first one's parent -/
def broB (x y z u : Cl) : Bool := if x.1 = 0 then false else
  let k := kids (x.1 - 1) (x.2.1 / 2) (x.2.2 / 2)
  ceq x (gt k 0) && ceq y (gt k 1) && ceq z (gt k 2) && ceq u (gt k 3)
theorem elem4 {w : World} {B : Nat} {A : Option Addr} {x y z u : Cl} (h : Reads w B 3 A 4 (cvs [x, y, z, u])) : ∃ b off, A = some ⟨b, off, none⟩ ∧ b < B ∧
    (w.cell? ⟨b, off, none⟩ = some (.int .i64 x.1) ∧ w.cell? ⟨b, off + 1, none⟩ = some (.int .i64 x.2.1) ∧ w.cell? ⟨b, off + 2, none⟩ = some (.int .i64 x.2.2)) ∧
    (w.cell? ⟨b, off + 3, none⟩ = some (.int .i64 y.1) ∧ w.cell? ⟨b, off + 3 + 1, none⟩ = some (.int .i64 y.2.1) ∧ w.cell? ⟨b, off + 3 + 2, none⟩ = some (.int .i64 y.2.2)) ∧
    (w.cell? ⟨b, off + 6, none⟩ = some (.int .i64 z.1) ∧ w.cell? ⟨b, off + 6 + 1, none⟩ = some (.int .i64 z.2.1) ∧ w.cell? ⟨b, off + 6 + 2, none⟩ = some (.int .i64 z.2.2)) ∧
    (w.cell? ⟨b, off + 9, none⟩ = some (.int .i64 u.1) ∧ w.cell? ⟨b, off + 9 + 1, none⟩ = some (.int .i64 u.2.1) ∧ w.cell? ⟨b, off + 9 + 2, none⟩ = some (.int .i64 u.2.2)) := by
  obtain ⟨b, off, rfl, hb, a0⟩ := h.elem (k := 0) (by omega)
  obtain ⟨b', off', e, _, a1⟩ := h.elem (k := 1) (by omega)
  cases e
  obtain ⟨b', off', e, _, a2⟩ := h.elem (k := 2) (by omega)
  cases e
  obtain ⟨b', off', e, _, a3⟩ := h.elem (k := 3) (by omega)
  cases e
  exact ⟨b, off, rfl, hb, a0, a1, a2, a3⟩
set_option maxHeartbeats 2000000 in
set_option maxRecDepth 100000 in
theorem brothers_any (A : Option Addr) (ca : Nat) (l r c : Int) (y z u : Cl) (w : World) (hr : Reads w w.heap.size 3 A 4 (cvs [(l, r, c), y, z, u])) (h0 : 0 ≤ l) (h1 : l ≤ 16) (h2 : 0 ≤ r) (r1 : r ≤ 131072) (h4 : 0 ≤ c) (c1 : c ≤ 131072) :
    Calls Try.prog 29 #[.slice A 4 ca] w fun e w' => e = .returned (.bool (broB (l, r, c) y z u)) ∧ Below w.heap.size w w' := by
  have HR := Lib.hid hr
  obtain ⟨b, off, rfl, hb, ⟨x1, x2, x3⟩, _, _, _⟩ := elem4 hr
  clear hr
  simp only [] at x1 x2 x3
  by_cases hz : l = 0
  · subst hz
    go_enter Try.func29, Try.ntmps29
    go_wp2
    go_ret
    exact ⟨ret_bool (by simp [broB]), Below.refl _ _⟩
  · have hd : (l == 0) = false := by simp [hz]
    have P := Lib.hid (fun w => refParent_any l r c w (by omega) h1 h2 r1 h4 c1)
    have K : Hid (∀ w, Calls Try.prog 49 #[.agg #[.int .i64 (l - 1), .int .i64 (r / 2), .int .i64 (c / 2)]] w fun e w' => ∃ v, e = .returned v ∧ w'.ownsRow w.heap.size 33 3 v 4 (cvs (kids (l - 1) (r / 2) (c / 2))) ∧ Below w.heap.size w w') := Lib.hid (fun w => refChildren_any (l - 1) (r / 2) (c / 2) w (by omega) (by omega) (by omega) (by omega) (by omega) (by omega))
    go_enter Try.func29, Try.ntmps29
    go_wp2_with (first | (go_at_call 50; refine (P.out _).mono ?_; rintro e w1 ⟨rfl, hb1⟩) | (go_at_call 49; refine (K.out _).mono ?_; rintro e w2 ⟨v, rfl, hown, hb2⟩; obtain ⟨A', ca', rfl, hR', hle, _⟩ := own_form hown))
    have hb3 : Below w.heap.size w w2 := hb1.trans (hb2.mono hb1.size)
    have hq := eqlCell
    have hR2 := HR.out.below hb3
    obtain ⟨_, _, e, _, ⟨x1, x2, x3⟩, ⟨y1, y2, y3⟩, ⟨z1, z2, z3⟩, ⟨u1, u2, u3⟩⟩ := elem4 hR2
    cases e
    obtain ⟨b', off', rfl, hb', ⟨p1, p2, p3⟩, ⟨q1, q2, q3⟩, ⟨s1, s2, s3⟩, ⟨t1, t2, t3⟩⟩ := elem4 hR'
    have E : broB (l, r, c) y z u = (ceq (l, r, c) (gt (kids (l - 1) (r / 2) (c / 2)) 0) && ceq y (gt (kids (l - 1) (r / 2) (c / 2)) 1) && ceq z (gt (kids (l - 1) (r / 2) (c / 2)) 2) && ceq u (gt (kids (l - 1) (r / 2) (c / 2)) 3)) := by simp [broB, hz]
    simp only [kids, gt, List.getD_cons_zero, List.getD_cons_succ] at E
    obtain ⟨ya, yb, yc⟩ := y
    obtain ⟨za, zb, zc⟩ := z
    obtain ⟨ua, ub, uc⟩ := u
    simp only [] at x1 x2 x3 y1 y2 y3 z1 z2 z3 u1 u2 u3 p1 p2 p3 q1 q2 q3 s1 s2 s3 t1 t2 t3
    have hl1 : l - 1 + 1 = l := by omega
    simp only [hl1] at E p1 q1 s1 t1
    clear hl1
    have E2 := Lib.hid E
    clear E
    clear hR2 hR' hown HR P K hd
    cases e1 : ceq (l, r, c) (l, 2 * (r / 2), 2 * (c / 2)) with
    | false =>
      go_quiet (fail)
      go_wp2
      go_ret
      exact ⟨ret_bool (by rw [E2.out]; simp [e1]), bl_drewN hb3 _⟩
    | true =>
      cases e2 : ceq (ya, yb, yc) (l, 2 * (r / 2), 2 * (c / 2) + 1) with
      | false =>
        go_quiet (fail)
        go_wp2
        go_ret
        exact ⟨ret_bool (by rw [E2.out]; simp [e1, e2]), bl_drewN hb3 _⟩
      | true =>
        cases e3 : ceq (za, zb, zc) (l, 2 * (r / 2) + 1, 2 * (c / 2)) with
        | false =>
          go_quiet (fail)
          go_wp2
          go_ret
          exact ⟨ret_bool (by rw [E2.out]; simp [e1, e2, e3]), bl_drewN hb3 _⟩
        | true =>
          go_quiet (fail)
          go_wp2
          go_ret
          exact ⟨ret_bool (by rw [E2.out]; simp [e1, e2, e3]), bl_drewN hb3 _⟩
end Go.Proofs.Ytopfnffabaiceaa
/- The walk of slices.Equal at cells, of law38's few. -/
namespace Go.Proofs.Ytopfnffabaiceaa
open Go.RowKit
set_option maxHeartbeats 1000000 in
set_option maxRecDepth 100000 in
theorem Equal_any (A B : Option Addr) (n m ca cb : Nat) (L M : List Cl) (w : World) (B1 B2 : Nat) (ha : Reads w B1 3 A n (cvs L)) (hb : Reads w B2 3 B m (cvs M)) (hn : n ≤ maxLen) (hm : m ≤ maxLen) :
    Calls Try.prog 10 #[.slice A n ca, .slice B m cb] w fun e w' => e = .returned (.bool (decide (L = M))) ∧ ∃ q, w' = w.drewN q := by
  have hl := ha.len
  have hk := hb.len
  unfold maxLen at hn hm
  by_cases hnm : n = m
  · subst hnm
    have hnn : ((n : Int) != (n : Int)) = false := by simp
    have R1 := Lib.hid ha
    have R2 := Lib.hid hb
    have Hl := Lib.hid hl
    have Hk := Lib.hid hk
    clear ha hb hl hk
    have hq := neqCell
    go_enter Try.func10, Try.ntmps10
    go_wp2
    go_loopw [13] (fun i wr => ∃ k q : Nat, k ≤ n ∧ i = .int .i64 k ∧ L.take k = M.take k ∧ wr = w.drewN q) (fun i _ => n - (intOf i).toNat)
    case atStart => exact ⟨0, 0, Nat.zero_le _, rfl, by simp, rfl⟩
    case round =>
      obtain ⟨k, q, hkn, rfl, ht, rfl⟩ := hrel
      have HT := Lib.hid ht
      clear ht
      by_cases hlt : k < n
      · obtain ⟨b1, o1, rfl, hb1, x1, x2, x3⟩ := R1.out.elem hlt
        obtain ⟨b2, o2, rfl, hb2, y1, y2, y3⟩ := R2.out.elem hlt
        by_cases he : gt L k = gt M k
        · have hc := ceq_true.2 he
          clear he
          go_wp2
          go_quiet (fail)
          go_wp2

          go_roundw
          case rel => exact ⟨k + 1, _, by omega, by go_num, take_eq_succ HT.out (by rw [Hl.out]; exact hlt) (by rw [Hk.out]; exact hlt) (ceq_true.1 hc), rfl⟩
          case measure => simp [intOf]; omega
        · have hc := ceq_false.2 he
          clear he
          have hne := Lib.hid (ne_of_gt (ceq_false.1 hc))
          go_wp2
          go_quiet (fail)
          go_wp2

          go_ret
          exact ⟨ret_bool (by simp [hne.out]), _, World.drewN_drewN _ _ _⟩
      · go_wp2
        go_ret
        have hkk : k = n := by omega
        subst hkk
        have := HT.out
        rw [List.take_of_length_le (by rw [Hl.out]; omega), List.take_of_length_le (by rw [Hk.out]; omega)] at this
        exact ⟨ret_bool (by simp [this]), _, rfl⟩
  · have hnn : ((n : Int) != (m : Int)) = true := by rw [bne_iff_ne]; omega
    have hne : L ≠ M := fun h => hnm (by rw [← hl, ← hk, h])
    have hne := Lib.hid hne
    clear ha hb hl hk hnm
    go_enter Try.func10, Try.ntmps10
    go_wp2
    go_ret
    exact ⟨ret_bool (by simp [hne.out]), 0, rfl⟩
end Go.Proofs.Ytopfnffabaiceaa
namespace Go.Proofs.Ytopfnffabaiceaa
open Go.RowKit
/-- what ValidRegion says -/
def vrB (L : List Cl) : Bool := decide (L.length ≤ 4000) && !badL L && decide (tidyL (coverL L) = L)
set_option maxHeartbeats 1000000 in
theorem ValidRegion_any (A : Option Addr) (n c : Nat) (L : List Cl) (w : World) (hr : Reads w w.heap.size 3 A n (cvs L)) (hn : n ≤ maxLen) :
    Calls Try.prog 46 #[.slice A n c] w fun e w' => e = .returned (.bool (vrB L)) ∧ Below w.heap.size w w' := by
  have hl := hr.len
  have hbad := allValid_any A n c L w hr hn
  change Calls _ _ _ _ fun e w' => e = .returned (.bool (badL L)) ∧ _ at hbad
  have hn2 : n ≤ maxLen := hn
  unfold maxLen at hn
  by_cases hbig : 4000 < n
  · have e1 : vrB L = false := by simp [vrB, hl]; omega
    rw [e1]
    clear e1 hl hr hbad hn2
    go_enter Try.func46, Try.ntmps46
    go_wp2
    go_ret
    exact ⟨rfl, Below.refl _ _⟩
  · cases hb : badL L with
    | true =>
      have e1 : vrB L = false := by simp [vrB, hb]
      rw [e1]
      rw [hb] at hbad
      have hbad := Lib.hid hbad
      clear hb e1 hl hr hn2
      go_enter Try.func46, Try.ntmps46
      go_wp2_with (go_at_call 11; refine hbad.out.mono ?_; rintro e w1 ⟨rfl, hb1⟩)
      go_ret
      exact ⟨rfl, hb1⟩
    | false =>
      have hv := badL_false hb
      rw [hb] at hbad
      have hbad := Lib.hid hbad
      have hok := spOk_cover L hv
      have hcl := coverL_length L
      rw [hl] at hcl
      have HR := Lib.hid hr
      have HV := Lib.hid hv
      have HO := Lib.hid hok
      have HN := Lib.hid hn2
      have e1 : vrB L = decide (tidyL (coverL L) = L) := by simp [vrB, hb, hl]; omega
      rw [e1]
      have HL := Lib.hid hl
      clear hb e1 hl hr hv hok hn2
      go_enter Try.func46, Try.ntmps46
      go_wp2_with fail
      refine hbad.out.mono ?_
      rintro e w1 ⟨rfl, hb1⟩
      go_wp2_with fail
      (with_reducible refine (cover_any A n c L w1 ((HR.out.below hb1).more hb1.size) (by omega) HV.out).mono ?_)
      rintro e w2 ⟨v, rfl, hown, hb2⟩
      obtain ⟨A2, c2, hv2, hr2, -⟩ := own_form hown
      subst hv2
      have hb12 := hb1.trans (hb2.mono hb1.size)
      go_wp2_with fail
      (with_reducible refine (tidy_any A2 (coverL L).length c2 (coverL L) w2 hr2 (by omega) HO.out).mono ?_)
      rintro e w3 ⟨hb3, hcase⟩
      have hb13 := hb12.trans (hb3.mono hb12.size)
      rcases hcase with ⟨hT, v3, rfl, hown3⟩ | ⟨hx, rfl⟩
      · obtain ⟨A4, c4, hv4, hr4, hc4, hc5⟩ := own_form hown3
        subst hv4
        go_wp2_with fail
        (with_reducible refine (Equal_any A4 A _ n c4 c (tidyL (coverL L)) L w3 _ _ hr4 (HR.out.below hb13) (by unfold maxLen; omega) HN.out).mono ?_)
        rintro e w4 ⟨rfl, q, rfl⟩
        go_wp2
        go_ret
        exact ⟨rfl, bl_drewN hb13 _⟩
      · have hne : decide (tidyL (coverL L) = L) = false := decide_eq_false (fun h => by have := HL.out; rw [← h] at this; omega)
        have HE := Lib.hid hne
        clear hne
        go_wp2
        go_ret
        exact ⟨ret_bool HE.out.symm, hb13⟩
end Go.Proofs.Ytopfnffabaiceaa
