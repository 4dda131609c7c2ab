/- A region that draws its order, each operation looked at once: an invariant over the set of the operations that have been done. -/
import Derived.Orders
import Derived.Test.YtleigbbgilcckaaGreatHGb
import Derived.Test.YtleigbbgilcckaaGreatHZk
import Derived.Test.YtleigbbgilcckaaGreatHJm
import Derived.Test.YtleigbbgilcckaaGreatHShelfT
set_option linter.unusedVariables false
set_option linter.unusedSimpArgs false
namespace Go.Proofs.YtleigbbgilcckaaGreat
open Go.RowKit
theorem isAll_iff (a : Sp) : isAll a = true ↔ a.1 = -10800000 ∧ a.2 = 10800000 := by unfold isAll aeq; simp
/-- arcs of longitudes -/
def VL (a : Sp) : Prop := (a.1 = -10800000 ∧ a.2 = 10800000) ∨ (-10800000 ≤ a.1 ∧ a.1 < 10800000 ∧ a.1 ≤ a.2 ∧ a.2 - a.1 < 21600000)
/-- whether two arcs of longitudes have a direction in common -/
def lonM (a b : Sp) : Bool := decide ((b.1 - 21600000 ≤ a.2 ∧ a.1 ≤ b.2 - 21600000) ∨ (b.1 ≤ a.2 ∧ a.1 ≤ b.2) ∨ (b.1 + 21600000 ≤ a.2 ∧ a.1 ≤ b.2 + 21600000))
theorem com_lonM (a b : Sp) (ha : VL a) (hb : VL b) : (comL a b).length = 0 ↔ lonM a b = false := by
  obtain ⟨a0, a1⟩ := a
  obtain ⟨b0, b1⟩ := b
  unfold VL at ha hb
  simp only [] at ha hb
  unfold comL lonM comP
  simp only [decide_eq_false_iff_not]
  by_cases h1 : a0 = -10800000 ∧ a1 = 10800000
  · rw [if_pos ((isAll_iff _).2 h1)]
    simp only [List.length_cons]
    omega
  · by_cases h2 : b0 = -10800000 ∧ b1 = 10800000
    · rw [if_neg (fun e => h1 ((isAll_iff _).1 e)), if_pos ((isAll_iff _).2 h2)]
      simp only [List.length_cons]
      omega
    · rw [if_neg (fun e => h1 ((isAll_iff _).1 e)), if_neg (fun e => h2 ((isAll_iff _).1 e))]
      have ha' : -10800000 ≤ a0 ∧ a0 < 10800000 ∧ a0 ≤ a1 ∧ a1 - a0 < 21600000 := by omega
      have hb' : -10800000 ≤ b0 ∧ b0 < 10800000 ∧ b0 ≤ b1 ∧ b1 - b0 < 21600000 := by omega
      obtain ⟨f, hf⟩ : ∃ f, f = (b0 - a0) % 21600000 := ⟨_, rfl⟩
      rw [← hf, List.length_append]
      have hfc : f = b0 - a0 ∨ f = b0 - a0 + 21600000 := by omega
      have hf0 : 0 ≤ f ∧ f < 21600000 := by omega
      clear hf h1 h2 ha hb
      have key : ∀ g : Int, (max 0 g ≤ min (a1 - a0) (g + b1 - b0)) ↔ (0 ≤ a1 - a0 ∧ 0 ≤ g + b1 - b0 ∧ g ≤ a1 - a0 ∧ g ≤ g + b1 - b0) := fun g => by omega
      have k1 := key f
      have k2 := key (f - 21600000)
      by_cases g1 : max 0 f ≤ min (a1 - a0) (f + b1 - b0) <;> by_cases g2 : max 0 (f - 21600000) ≤ min (a1 - a0) (f - 21600000 + b1 - b0)
      all_goals
        simp only [g1, g2, if_true, if_false, List.length_cons, List.length_nil]
        first | have c1 := k1.1 g1 | have c1 := mt k1.2 g1
        first | have c2 := k2.1 g2 | have c2 := mt k2.2 g2
        clear k1 k2 key g1 g2
        rcases hfc with hfc | hfc <;> subst hfc <;> (try rw [true_iff]) <;> omega
/-- what two arcs have in common is at most two arcs -/
theorem com_ok (a b : Sp) (ha : VL a) (hb : VL b) : (comL a b).length ≤ 2 ∧ ∀ x ∈ comL a b, -10800000 ≤ x.1 ∧ x.1 ≤ 10800000 ∧ x.1 ≤ x.2 ∧ x.2 ≤ x.1 + 21600000 := by
  obtain ⟨a0, a1⟩ := a
  obtain ⟨b0, b1⟩ := b
  unfold VL at ha hb
  simp only [] at ha hb
  unfold comL
  split
  · refine ⟨by simp, fun x hx => ?_⟩
    obtain rfl : x = (b0, b1) := by simpa using hx
    simp only []; omega
  · split
    · refine ⟨by simp, fun x hx => ?_⟩
      obtain rfl : x = (a0, a1) := by simpa using hx
      simp only []; omega
    · rename_i h1 h2
      rw [isAll_iff] at h1 h2
      simp only [] at h1 h2
      have hP : ∀ f, (comP (a0, a1) (b0, b1) f).length ≤ 1 ∧ ∀ x ∈ comP (a0, a1) (b0, b1) f, -10800000 ≤ x.1 ∧ x.1 ≤ 10800000 ∧ x.1 ≤ x.2 ∧ x.2 ≤ x.1 + 21600000 := by
        intro f
        unfold comP
        split
        · rename_i hle
          refine ⟨by simp, fun x hx => ?_⟩
          have hs : -10800000 ≤ sgA (a0 + max 0 f) ∧ sgA (a0 + max 0 f) < 10800000 := by unfold sgA; omega
          simp only [List.mem_cons, List.not_mem_nil, or_false] at hx
          subst hx
          simp only [] at hle ⊢
          generalize sgA (a0 + max 0 f) = s at *
          omega
        · exact ⟨by simp, fun x hx => by simp at hx⟩
      have p1 := hP ((b0 - a0) % 21600000)
      have p2 := hP ((b0 - a0) % 21600000 - 21600000)
      refine ⟨by simp only [List.length_append]; omega, fun x hx => ?_⟩
      rcases List.mem_append.1 hx with h | h
      · exact p1.2 x h
      · exact p2.2 x h
/-- the numbers of a valid place -/
structure VP (a : Bx) : Prop where
  l1 : a.1 ≤ a.2.1
  l2 : -5400000 ≤ a.1
  l3 : a.2.1 ≤ 5400000
  o : VL (a.2.2.1, a.2.2.2)
/-- whether two places meet -/
def meetB (a b : Bx) : Bool := decide (a.1 ≤ b.2.1 ∧ b.1 ≤ a.2.1) && lonM (a.2.2.1, a.2.2.2) (b.2.2.1, b.2.2.2)
/-- four cells that are known -/
structure K4 (W : World) (g : Nat) (a b c d : Int) : Prop where
  lt : g < W.heap.size
  c0 : W.cell? ⟨g, 0, none⟩ = some (.int .i64 a)
  c1 : W.cell? ⟨g, 1, none⟩ = some (.int .i64 b)
  c2 : W.cell? ⟨g, 2, none⟩ = some (.int .i64 c)
  c3 : W.cell? ⟨g, 3, none⟩ = some (.int .i64 d)
  f0 : W.frozen? ⟨g, 0, none⟩ = false
  f1 : W.frozen? ⟨g, 1, none⟩ = false
  f2 : W.frozen? ⟨g, 2, none⟩ = false
  f3 : W.frozen? ⟨g, 3, none⟩ = false
section
variable {W W' : World} {g : Nat} {a b c d : Int}
theorem K4.below {B : Nat} (h : K4 W g a b c d) (hb : Below B W W') (hB : g < B) : K4 W' g a b c d :=
  ⟨Nat.lt_of_lt_of_le h.lt hb.size, (hb.cell (p := ⟨g, 0, none⟩) hB).trans h.c0, (hb.cell (p := ⟨g, 1, none⟩) hB).trans h.c1, (hb.cell (p := ⟨g, 2, none⟩) hB).trans h.c2, (hb.cell (p := ⟨g, 3, none⟩) hB).trans h.c3,
   (hb.frozen (p := ⟨g, 0, none⟩) hB).trans h.f0, (hb.frozen (p := ⟨g, 1, none⟩) hB).trans h.f1, (hb.frozen (p := ⟨g, 2, none⟩) hB).trans h.f2, (hb.frozen (p := ⟨g, 3, none⟩) hB).trans h.f3⟩
theorem K4.alloc (h : K4 W g a b c d) (o : Obj) : K4 (W.alloc o) g a b c d := h.below (bl_alloc W o) h.lt
theorem K4.new (W : World) (a b c d : Int) (t : TypeId) : K4 (W.alloc (.cells #[.int .i64 a, .int .i64 b, .int .i64 c, .int .i64 d] t)) W.heap.size a b c d := ⟨by simp, by simp, by simp, by simp, by simp, by simp, by simp, by simp, by simp⟩
end
theorem validLon_vl (x y : Int) (w : World) (h : VL (x, y)) : Calls Tryz.prog 97 #[.agg #[.int .i64 x, .int .i64 y]] w fun e w' => e = .returned (.bool true) ∧ Below w.heap.size w w' := by
  have h' : (x = -10800000 ∧ y = 10800000) ∨ (-10800000 ≤ x ∧ x < 10800000 ∧ x ≤ y ∧ y - x < 21600000) := h
  by_cases hc : x = -10800000 ∧ y = 10800000
  · obtain ⟨rfl, rfl⟩ := hc
    have K := Lib.hid (fun W => all_any (-10800000) 10800000 W)
    rw [show aeq (-10800000) 10800000 (-10800000) 10800000 = true by decide] at K
    clear h h'
    go_enter Tryz.func97, Tryz.ntmps97
    go_wp2_with (go_at_call 98; (with_reducible refine (K.out _).mono ?_); rintro e w1 ⟨rfl, hb⟩; have hz := one_lt hb; have hb1 := one_bl hb)
    all_goals
      go_ret
      exact ⟨ret_bool (by first | rfl | (simp_all; done) | (simp_all; omega)), hb1⟩
  · have h2 : -10800000 ≤ x ∧ x < 10800000 ∧ x ≤ y ∧ y - x < 21600000 := h'.resolve_left hc
    exact validLon_yes x y w h2.2.2.1 h2.1 h2.2.1 h2.2.2.2
set_option maxHeartbeats 400000 in
theorem placeValid_vp (b0 b1 b2 b3 : Int) (w : World) (hb : VP (b0, b1, b2, b3)) : Calls Tryz.prog 60 #[.agg #[.int .i64 b0, .int .i64 b1, .int .i64 b2, .int .i64 b3]] w fun e w' => e = .returned (.bool true) ∧ Below w.heap.size w w' := by
  have K1 := Lib.hid (fun W => validLat_yes b0 b1 W hb.l1 hb.l2 hb.l3)
  have K2 := Lib.hid (fun W => validLon_vl b2 b3 W hb.o)
  clear hb
  go_enter Tryz.func60, Tryz.ntmps60
  go_wp2_with (first | (go_at_call 96; (with_reducible refine (K1.out _).mono ?_); rintro e w1 ⟨rfl, hb⟩; have hz := one_lt hb; have hb1 := one_bl hb; have y1 := (hb.cell (p := ⟨w.heap.size, 2, none⟩) (by simp)).trans (show _ = some (.int .i64 b2) by simp); have y2 := (hb.cell (p := ⟨w.heap.size, 3, none⟩) (by simp)).trans (show _ = some (.int .i64 b3) by simp)) | (go_at_call 97; (with_reducible refine (K2.out _).mono ?_); rintro e w2 ⟨rfl, hb2⟩))
  go_ret
  exact ⟨rfl, hb1.trans (hb2.mono hb1.size)⟩
set_option maxHeartbeats 4000000 in
set_option maxRecDepth 100000 in
theorem Meet_any (a0 a1 a2 a3 b0 b1 b2 b3 : Int) (w : World) (ha : VP (a0, a1, a2, a3)) (hb : VP (b0, b1, b2, b3)) :
    Calls Tryz.prog 131 #[.agg #[.int .i64 a0, .int .i64 a1, .int .i64 a2, .int .i64 a3], .agg #[.int .i64 b0, .int .i64 b1, .int .i64 b2, .int .i64 b3]] w fun e w' => ∃ r0 r1 r2 r3 : Int, e = .returned (.tuple #[.agg #[.int .i64 r0, .int .i64 r1, .int .i64 r2, .int .i64 r3], .int .i64 (if meetB (a0, a1, a2, a3) (b0, b1, b2, b3) = true then 0 else 23)]) ∧ Below w.heap.size w w' := by
  have KV1 := Lib.hid (fun W => placeValid_vp a0 a1 a2 a3 W ha)
  have KV2 := Lib.hid (fun W => placeValid_vp b0 b1 b2 b3 W hb)
  have oa : (a2 = -10800000 ∧ a3 = 10800000) ∨ (-10800000 ≤ a2 ∧ a2 < 10800000 ∧ a2 ≤ a3 ∧ a3 - a2 < 21600000) := ha.o
  have ob : (b2 = -10800000 ∧ b3 = 10800000) ∨ (-10800000 ≤ b2 ∧ b2 < 10800000 ∧ b2 ≤ b3 ∧ b3 - b2 < 21600000) := hb.o
  have KC' := fun W => common_any a2 a3 b2 b3 W (by omega) (by omega)
  have hlen := com_lonM (a2, a3) (b2, b3) ha.o hb.o
  have hok := com_ok (a2, a3) (b2, b3) ha.o hb.o
  obtain ⟨L, hL⟩ : ∃ L, L = comL (a2, a3) (b2, b3) := ⟨_, rfl⟩
  rw [← hL] at KC' hlen hok
  have KC := Lib.hid KC'
  have HOK := Lib.hid hok
  obtain ⟨N, hN⟩ : ∃ N, N = L.length := ⟨_, rfl⟩
  have HLN := Lib.hid hN
  obtain ⟨R, hR⟩ : ∃ R : Int, R = if meetB (a0, a1, a2, a3) (b0, b1, b2, b3) = true then 0 else 23 := ⟨_, rfl⟩
  rw [← hR]
  have hRR : Hid (R = if max a0 b0 ≤ min a1 b1 ∧ N ≠ 0 then 0 else 23) := Lib.hid (by
    have l1 := ha.l1
    have l2 := hb.l1
    simp only [] at l1 l2
    rw [hR, hN]
    unfold meetB
    simp only []
    cases hm : lonM (a2, a3) (b2, b3) with
    | false =>
      have := hlen.2 hm
      simp [this]
    | true =>
      have h0 : L.length ≠ 0 := fun e => by rw [hlen.1 e] at hm; cases hm
      simp only [Bool.and_true, decide_eq_true_eq]
      by_cases g : a0 ≤ b1 ∧ b0 ≤ a1
      · rw [if_pos g, if_pos ⟨by omega, h0⟩]
      · rw [if_neg g, if_neg (fun e => g (by omega))])
  clear hR hN hlen hok hL KC' oa ob ha hb
  obtain ⟨P1, hP1⟩ : ∃ P, max a0 b0 = P := ⟨_, rfl⟩
  obtain ⟨P2, hP2⟩ : ∃ P, min a1 b1 = P := ⟨_, rfl⟩
  rw [hP1, hP2] at hRR
  have HA := Lib.hid (((K4.new w a0 a1 a2 a3 48).alloc (.cells #[.int .i64 b0, .int .i64 b1, .int .i64 b2, .int .i64 b3] 48)).alloc (.cells #[.int .i64 0, .int .i64 0, .int .i64 0, .int .i64 0] 48))
  have HB : Hid (K4 (((w.alloc (.cells #[.int .i64 a0, .int .i64 a1, .int .i64 a2, .int .i64 a3] 48)).alloc (.cells #[.int .i64 b0, .int .i64 b1, .int .i64 b2, .int .i64 b3] 48)).alloc (.cells #[.int .i64 0, .int .i64 0, .int .i64 0, .int .i64 0] 48)) (w.heap.size + 1) b0 b1 b2 b3) := Lib.hid (by
    have := (K4.new (w.alloc (.cells #[.int .i64 a0, .int .i64 a1, .int .i64 a2, .int .i64 a3] 48)) b0 b1 b2 b3 48).alloc (.cells #[.int .i64 0, .int .i64 0, .int .i64 0, .int .i64 0] 48)
    simpa using this)
  have HZ : Hid (K4 (((w.alloc (.cells #[.int .i64 a0, .int .i64 a1, .int .i64 a2, .int .i64 a3] 48)).alloc (.cells #[.int .i64 b0, .int .i64 b1, .int .i64 b2, .int .i64 b3] 48)).alloc (.cells #[.int .i64 0, .int .i64 0, .int .i64 0, .int .i64 0] 48)) (w.heap.size + 1 + 1) 0 0 0 0) := Lib.hid (by
    have := K4.new ((w.alloc (.cells #[.int .i64 a0, .int .i64 a1, .int .i64 a2, .int .i64 a3] 48)).alloc (.cells #[.int .i64 b0, .int .i64 b1, .int .i64 b2, .int .i64 b3] 48)) 0 0 0 0 48
    simpa using this)
  have b0' : Below w.heap.size w (((w.alloc (.cells #[.int .i64 a0, .int .i64 a1, .int .i64 a2, .int .i64 a3] 48)).alloc (.cells #[.int .i64 b0, .int .i64 b1, .int .i64 b2, .int .i64 b3] 48)).alloc (.cells #[.int .i64 0, .int .i64 0, .int .i64 0, .int .i64 0] 48)) := (((Below.refl _ _).alloc (Nat.le_refl _) _).alloc (by simp) _).alloc (by simp; omega) _
  go_enter Tryz.func131, Tryz.ntmps131
  go_wp2_with fail
  (with_reducible refine (KV1.out _).mono ?_)
  rintro e w1 ⟨rfl, hb1⟩
  have HA1 := Lib.hid (HA.out.below hb1 HA.out.lt)
  have HB1 := Lib.hid (HB.out.below hb1 HB.out.lt)
  have HZ1 := Lib.hid (HZ.out.below hb1 HZ.out.lt)
  have B1 := Lib.hid (b0'.trans (hb1.mono b0'.size))
  clear HA HB HZ b0' hb1
  obtain ⟨lt1, c0, c1, c2, c3, -, -, -, -⟩ := HB1.out
  go_wp2_with fail
  (with_reducible refine (KV2.out _).mono ?_)
  rintro e w2 ⟨rfl, hb2⟩
  clear lt1 c0 c1 c2 c3
  have HA2 := Lib.hid (HA1.out.below hb2 HA1.out.lt)
  have HB2 := Lib.hid (HB1.out.below hb2 HB1.out.lt)
  have HZ2 := Lib.hid (HZ1.out.below hb2 HZ1.out.lt)
  have B2 := Lib.hid (B1.out.trans (hb2.mono B1.out.size))
  clear HA1 HB1 HZ1 B1 hb2
  obtain ⟨at2, a0', a1', a2', a3', -, -, -, -⟩ := HA2.out
  obtain ⟨bt2, c0, c1, c2, c3, -, -, -, -⟩ := HB2.out
  go_wp2_with fail
  (with_reducible refine (KC.out _).mono ?_)
  rintro e w3 ⟨v, rfl, hown, hb3⟩
  have HP := Lib.hid ((K2.new w2 P1 P2 26).below hb3 (by simp))
  have HZ3 := Lib.hid ((HZ2.out.alloc (.cells #[.int .i64 P1, .int .i64 P2] 26)).below hb3 (by have := HZ2.out.lt; simp; omega))
  have B3 := Lib.hid ((B2.out.alloc B2.out.size (.cells #[.int .i64 P1, .int .i64 P2] 26)).trans (hb3.mono (by have := B2.out.size; simp; omega)))
  rw [← HLN.out] at hown
  obtain ⟨A4, k4, rfl, ra, hcc, hcm⟩ := own_form hown
  have RA := Lib.hid ra
  have hN2 : N ≤ 2 := by have := HOK.out.1; have := HLN.out; omega
  clear hown hb3 HZ2 HA2 HB2 B2 ra at2 a0' a1' a2' a3' bt2 c0 c1 c2 c3
  obtain ⟨pt, p0, p1, -, -⟩ := HP.out
  by_cases hc : P1 ≤ P2 ∧ N ≠ 0
  · rw [if_pos hc] at hRR
    obtain rfl := hRR.out
    have d1 : decide (P2 < P1) = false := decide_eq_false (by omega)
    have d2 : decide ((N : Int) = 0) = false := decide_eq_false (by omega)
    have d3 : ((N : Int) == 0) = false := by simp; exact hc.2
    clear hc hRR
    have KA := Lib.hid (fun (W : World) (h : Reads W W.heap.size 2 A4 N (spvs L)) => fixArnd_any A4 N k4 L W h (by omega) HOK.out.2)
    go_upto_region 7 with (fail)
    have KA3 := Lib.hid (KA.out w3.drew RA.out.drew)
    obtain ⟨⟨r0, r1⟩, hr⟩ : ∃ r, arnd L = r := ⟨_, rfl⟩
    rw [hr] at KA3
    have HZL := HZ3.out.lt
    go_region_with (go_at_call 160; (with_reducible refine KA3.out.mono ?_); rintro e w4 ⟨rfl, hb4'⟩; have hb4 : Below w3.heap.size w3 w4 := (bl_drew (Below.refl _ _)).trans hb4'; have q0 := (hb4.cell (p := ⟨w2.heap.size, 0, none⟩) pt).trans p0; have q1 := (hb4.cell (p := ⟨w2.heap.size, 1, none⟩) pt).trans p1; obtain ⟨zt, z0, z1, z2, z3, zf0, zf1, zf2, zf3⟩ := HZ3.out.below hb4 HZL)
    all_goals
      go_wp2
      refine bodyPost_ret (v := .tuple #[.agg #[.int .i64 P1, .int .i64 P2, .int .i64 r0, .int .i64 r1], .int .i64 0]) (by simp [results, Tryz.results131, go_sem, *]; done) rfl ⟨_, _, _, _, rfl, ?_⟩
      have B4 := B3.out.trans (hb4.mono B3.out.size)
      exact (((B4.setCell (by simp only []; omega) _).setCell (by simp only []; omega) _).setCell (by simp only []; omega) _).setCell (by simp only []; omega) _
  · rw [if_neg hc] at hRR
    obtain rfl := hRR.out
    obtain ⟨zt, z0, z1, z2, z3, zf0, zf1, zf2, zf3⟩ := HZ3.out
    by_cases g1 : P2 < P1
    · have d1 : decide (P2 < P1) = true := decide_eq_true g1
      go_wp2
      refine bodyPost_ret (v := .tuple #[.agg #[.int .i64 0, .int .i64 0, .int .i64 0, .int .i64 0], .int .i64 23]) (by simp [results, Tryz.results131, go_sem, *]; done) rfl ⟨_, _, _, _, rfl, ?_⟩
      exact (((B3.out.setCell (by simp only []; omega) _).setCell (by simp only []; omega) _).setCell (by simp only []; omega) _).setCell (by simp only []; omega) _
    · have g2 : N = 0 := by omega
      subst g2
      have d1 : decide (P2 < P1) = false := decide_eq_false g1
      go_wp2
      refine bodyPost_ret (v := .tuple #[.agg #[.int .i64 0, .int .i64 0, .int .i64 0, .int .i64 0], .int .i64 23]) (by simp [results, Tryz.results131, go_sem, *]; done) rfl ⟨_, _, _, _, rfl, ?_⟩
      exact (((B3.out.setCell (by simp only []; omega) _).setCell (by simp only []; omega) _).setCell (by simp only []; omega) _).setCell (by simp only []; omega) _
end Go.Proofs.YtleigbbgilcckaaGreat
namespace Go.Proofs.YtleigbbgilcckaaGreat
open Canon
/-! ### one place inside another one -/
def insA (a b : Sp) : Bool := decide (b.1 = -10800000 ∧ b.2 = 10800000) || (!decide (a.1 = -10800000 ∧ a.2 = 10800000) && decide ((a.1 - b.1) % 21600000 + a.2 - a.1 ≤ b.2 - b.1))
def insX (a b : Bx) : Bool := decide (b.1 ≤ a.1 ∧ a.2.1 ≤ b.2.1) && insA (a.2.2.1, a.2.2.2) (b.2.2.1, b.2.2.2)
/-- what is inside of a part of a place meets the place -/
theorem nest_ins {a0 a1 a2 a3 y0 y1 y2 y3 p0 p1 p2 p3 : Int} (hp : VP (p0, p1, p2, p3)) (h0 : a0 ≤ y0) (h1 : y0 ≤ y1) (h2 : y1 ≤ a1) (h3 : a2 ≤ y2) (h4 : y2 ≤ y3) (h5 : y3 ≤ a3) (b0 : -10800000 ≤ a2) (b1 : a3 ≤ 10800000) (b2 : y3 - y2 < 21600000) (b3 : y2 < 10800000)
    (hi : insX (a0, a1, a2, a3) (p0, p1, p2, p3) = true) : insX (y0, y1, y2, y3) (p0, p1, p2, p3) = true ∧ meetB (p0, p1, p2, p3) (y0, y1, y2, y3) = true := by
  obtain ⟨q1, q2, q3, q4⟩ := hp
  unfold VL at q4
  unfold insX insA at hi ⊢
  unfold meetB lonM
  simp only [Bool.and_eq_true, Bool.or_eq_true, Bool.not_eq_true', decide_eq_true_eq, decide_eq_false_iff_not] at *
  omega
theorem bx_facts {x : Cl} (hx : Vl x) : -5400000 ≤ (bxI x).1 ∧ (bxI x).1 ≤ (bxI x).2.1 ∧ (bxI x).2.1 ≤ 5400000 ∧ -10800000 ≤ (bxI x).2.2.1 ∧ (bxI x).2.2.1 ≤ (bxI x).2.2.2 ∧ (bxI x).2.2.2 ≤ 10800000 ∧ (bxI x).2.2.2 - (bxI x).2.2.1 < 21600000 ∧ (bxI x).2.2.1 < 10800000 := by
  have h := box_nums hx
  have h2 : edg (x.2.2 + 1) x.1 ≤ 21600000 := by
    have hv := (vl_iff x).2 hx
    obtain ⟨v0, v1, v2, v3, v4, v5⟩ := vldB_true.1 hv
    exact (edg_bd v1 (by omega) (by omega)).2
  unfold bxI
  simp only []
  omega
theorem kid_nest {x y : Cl} (hx : Vl x) (h : x.1 < 16) (hy : y ∈ kidsC x) : (bxI x).1 ≤ (bxI y).1 ∧ (bxI y).2.1 ≤ (bxI x).2.1 ∧ (bxI x).2.2.1 ≤ (bxI y).2.2.1 ∧ (bxI y).2.2.2 ≤ (bxI x).2.2.2 := by
  obtain ⟨l, r, c⟩ := x
  have hl0 := hx.l0
  simp only [] at hl0 h
  obtain ⟨l, rfl⟩ := Int.eq_ofNat_of_zero_le hl0
  have e : ((l : Nat) : Int) + 1 = ((l + 1 : Nat) : Int) := by omega
  have r0 : edg (2 * r) ((l + 1 : Nat) : Int) = edg r (l : Int) := edg_even r l
  have r1 : edg (2 * r + 1 + 1) ((l + 1 : Nat) : Int) = edg (r + 1) (l : Int) := edg_odd r l
  have c0 : edg (2 * c) ((l + 1 : Nat) : Int) = edg c (l : Int) := edg_even c l
  have c1 : edg (2 * c + 1 + 1) ((l + 1 : Nat) : Int) = edg (c + 1) (l : Int) := edg_odd c l
  have m0 := edg_mono (i := 2 * r) (j := 2 * r + 1) ((l + 1 : Nat) : Int) (by omega)
  have m1 := edg_mono (i := 2 * r + 1) (j := 2 * r + 1 + 1) ((l + 1 : Nat) : Int) (by omega)
  have m2 := edg_mono (i := 2 * c) (j := 2 * c + 1) ((l + 1 : Nat) : Int) (by omega)
  have m3 := edg_mono (i := 2 * c + 1) (j := 2 * c + 1 + 1) ((l + 1 : Nat) : Int) (by omega)
  simp only [kidsC, kids, List.mem_cons, List.not_mem_nil, or_false] at hy
  rw [e] at hy
  rcases hy with rfl | rfl | rfl | rfl <;> (unfold bxI; simp only []; omega)
theorem ins_kid {x : Cl} {p : Bx} (hp : VP p) (hx : Vl x) (h : x.1 < 16) (hi : insX (bxI x) p = true) : ∀ y ∈ kidsC x, insX (bxI y) p = true ∧ meetB p (bxI y) = true := by
  intro y hy
  have fx := bx_facts hx
  have fy := bx_facts (kids_vl hx h y hy)
  have n := kid_nest hx h hy
  exact nest_ins (p0 := p.1) (p1 := p.2.1) (p2 := p.2.2.1) (p3 := p.2.2.2) (a0 := (bxI x).1) (a1 := (bxI x).2.1) (a2 := (bxI x).2.2.1) (a3 := (bxI x).2.2.2) (y0 := (bxI y).1) (y1 := (bxI y).2.1) (y2 := (bxI y).2.2.1) (y3 := (bxI y).2.2.2) hp (by omega) (by omega) (by omega) (by omega) (by omega) (by omega) (by omega) (by omega) (by omega) (by omega) hi
end Go.Proofs.YtleigbbgilcckaaGreat
namespace Go.Proofs.YtleigbbgilcckaaGreat
open Canon
/-! ### unions of tidy regions -/
theorem cov_blk {X : List Cl} (q : Nat) : covB (X.map blkOf) q = true ↔ covL X q := covB_map X q
theorem un_can {X Y : List Cl} (hX : AllV X) (hY : AllV Y) : madeL 1 (canonC (covL X)) (canonC (covL Y)) = canonC (covL (X ++ Y)) := by
  rw [madeL_canon 1 _ _ (can_v X hX) (can_v Y hY)]
  refine canonC_congr fun q => ?_
  rw [cov_appL, ← can_cov hX, ← can_cov hY, ← cov_blk, ← cov_blk]
  simp [opB]
theorem can_vr {X : List Cl} (hX : AllV X) (hl : X.length ≤ 4000) : vrB (canonC (covL X)) = true :=
  (vrB_iff _).2 ⟨Nat.le_trans (canonC_len X hX) hl, can_v X hX, canonC_congr (can_cov hX)⟩
theorem app_v {X Y : List Cl} (hX : AllV X) (hY : AllV Y) : AllV (X ++ Y) := fun x hx => (List.mem_append.1 hx).elim (hX x) (hY x)
theorem mk_can {X Y : List Cl} (hX : AllV X) (hY : AllV Y) (hl : X.length + Y.length ≤ 4000) : mkR 1 (canonC (covL X)) (canonC (covL Y)) = canonC (covL (X ++ Y)) ∧ mkE 1 (canonC (covL X)) (canonC (covL Y)) = 0 := by
  have h1 := can_vr hX (by omega)
  have h2 := can_vr hY (by omega)
  have h3 : (canonC (covL (X ++ Y))).length ≤ 4000 := Nat.le_trans (canonC_len _ (app_v hX hY)) (by rw [List.length_append]; exact hl)
  unfold mkR mkE
  rw [if_pos h1, if_pos h2, un_can hX hY, if_pos h3, if_pos h1, if_pos h2, if_pos h3]
  exact ⟨rfl, rfl⟩
end Go.Proofs.YtleigbbgilcckaaGreat
namespace Go.Proofs.YtleigbbgilcckaaGreat.PQ
/-- least members, one pair of things that touch put together -/
def mrg (c : Nat → Nat) (i k : Nat) : Nat → Nat := fun j => if c j = max (c i) (c k) then min (c i) (c k) else c j
structure IsC (c : Nat → Nat) : Prop where
  le : ∀ j, c j ≤ j
  idem : ∀ j, c (c j) = c j
theorem IsC.id : IsC (fun j => j) := ⟨fun _ => Nat.le_refl _, fun _ => rfl⟩
/-- what one set closed under touching has of one of a class, it has of all -/
def Cls (t : Nat → Nat → Bool) (n : Nat) (c : Nat → Nat) : Prop :=
  ∀ S : Nat → Prop, (∀ x y, x < n → y < n → t x y = true → S x → S y) → ∀ a b, a < n → b < n → c a = c b → S a → S b
theorem Cls.id (t : Nat → Nat → Bool) (n : Nat) : Cls t n (fun j => j) := fun S _ a b _ _ e h => by have e : a = b := e; exact e ▸ h
/-- one pair looked at -/
def stp (t : Nat → Nat → Bool) (c : Nat → Nat) (i k : Nat) : Nat → Nat := if t i k = true then mrg c i k else c
/-- the pairs of one thing with those before it -/
def row (t : Nat → Nat → Bool) (c : Nat → Nat) (i : Nat) : Nat → (Nat → Nat)
  | 0 => c
  | k + 1 => stp t (row t c i k) i k
/-- how many least members lie below -/
def rnk (c : Nat → Nat) (r : Nat) : Nat := ((List.range r).filter (fun j => c j = j)).length
theorem rnk_succ (c : Nat → Nat) (r : Nat) : rnk c (r + 1) = if c r = r then rnk c r + 1 else rnk c r := by
  unfold rnk; rw [List.range_succ, List.filter_append]; by_cases h : c r = r <;> simp [h]
theorem rnk_mono (c : Nat → Nat) {r s : Nat} (h : r ≤ s) : rnk c r ≤ rnk c s := by
  induction s with
  | zero => have : r = 0 := by omega
            subst this; exact Nat.le_refl _
  | succ s ih =>
    by_cases e : r = s + 1
    · rw [e]; exact Nat.le_refl _
    · have := ih (by omega); rw [rnk_succ]; split <;> omega
theorem rnk_lt (c : Nat → Nat) {r s : Nat} (h : r < s) (hr : c r = r) : rnk c r < rnk c s := by
  have := rnk_mono c (show r + 1 ≤ s from h); rw [rnk_succ, if_pos hr] at this; omega
theorem rnk_inj (c : Nat → Nat) {r s : Nat} (hr : c r = r) (hs : c s = s) (h : rnk c r = rnk c s) : r = s := by
  rcases Nat.lt_trichotomy r s with g | g | g
  · have := rnk_lt c g hr; omega
  · exact g
  · have := rnk_lt c g hs; omega
end Go.Proofs.YtleigbbgilcckaaGreat.PQ
namespace Go.Proofs.YtleigbbgilcckaaGreat.PQ
def ldr (c : Nat → Nat) (i : Nat) : List Nat := (List.range i).filter (fun r => c r = r)
end Go.Proofs.YtleigbbgilcckaaGreat.PQ
namespace Go.Proofs.YtleigbbgilcckaaGreat.PQ
/-- the search from one least member: the numbers of the parts, what is still to be looked at, and how far the last one has been looked at -/
structure Fl (c : Nat → Nat) (t : Nat → Nat → Bool) (n i : Nat) (pt : Nat → Nat) (T : List Nat) (k m : Nat) : Prop where
  low : ∀ x, x < n → c x < i → pt x = rnk c (c x) + 1
  high : ∀ x, x < n → i < c x → pt x = 0
  here : ∀ x, x < n → c x = i → pt x = 0 ∨ pt x = rnk c i + 1
  todo : ∀ x ∈ T, x < n ∧ c x = i ∧ pt x = rnk c i + 1
  self : pt i = rnk c i + 1
  clos : ∀ x y, x < n → y < n → c x = i → pt x ≠ 0 → x ∉ T → (x ≠ k ∨ y < m) → t x y = true → pt y ≠ 0
  lt : i < n
  ldr : c i = i
def upd (pt : Nat → Nat) (m v : Nat) : Nat → Nat := fun x => if x = m then v else pt x
/-- what the parts' numbers are before one thing is looked at -/
def Bef (c : Nat → Nat) (n i : Nat) (pt : Nat → Nat) : Prop := ∀ x, x < n → pt x = if c x < i then rnk c (c x) + 1 else 0
section
variable {c : Nat → Nat} {t : Nat → Nat → Bool} {n i : Nat} {pt : Nat → Nat} {T : List Nat} {k m : Nat}
theorem Bef.zero : Bef c n 0 (fun _ => 0) := fun x _ => by simp
theorem Bef.skip (h : Bef c n i pt) (hi : c i ≠ i) (hc : IsC c) : Bef c n (i + 1) pt := fun x hx => by
  rw [h x hx]
  have : c x ≠ i := fun e => hi (by have := hc.idem x; rw [e] at this; exact this)
  by_cases g : c x < i
  · rw [if_pos g, if_pos (by omega)]
  · rw [if_neg g, if_neg (by omega)]
theorem Bef.start (h : Bef c n i pt) (hl : i < n) (hi : c i = i) : Fl c t n i (upd pt i (rnk c i + 1)) [i] 0 n := by
  refine ⟨fun x hx g => ?_, fun x hx g => ?_, fun x hx g => ?_, fun x hx => ?_, by simp [upd], fun x y hx hy g g1 g2 => ?_, hl, hi⟩
  · have : x ≠ i := fun e => by subst e; omega
    simp only [upd, if_neg this]; rw [h x hx, if_pos g]
  · have : x ≠ i := fun e => by subst e; omega
    simp only [upd, if_neg this]; rw [h x hx, if_neg (by omega)]
  · by_cases e : x = i
    · right; simp [upd, e]
    · left; simp only [upd, if_neg e]; rw [h x hx, if_neg (by omega)]
  · have : x = i := by simpa using hx
    subst this; exact ⟨hl, hi, by simp [upd]⟩
  · have e : x ≠ i := by simpa using g2
    exfalso; apply g1; simp only [upd, if_neg e]; rw [h x hx, if_neg (by omega)]
theorem Fl.no (h : Fl c t n i pt T k m) (hm : ¬ (pt m = 0 ∧ t k m = true)) : Fl c t n i pt T k (m + 1) :=
  ⟨h.low, h.high, h.here, h.todo, h.self, fun x y hx hy g g1 g2 g3 g4 => by
    by_cases e : x = k ∧ y = m
    · obtain ⟨rfl, rfl⟩ := e
      intro e0
      exact hm ⟨e0, g4⟩
    · refine h.clos x y hx hy g g1 g2 ?_ g4
      rcases g3 with g3 | g3
      · exact .inl g3
      · by_cases ex : x = k
        · right; have : y ≠ m := fun ey => e ⟨ex, ey⟩
          omega
        · exact .inl ex, h.lt, h.ldr⟩
theorem Fl.yes (h : Fl c t n i pt T k m) (hk : k < n) (hck : c k = i) (hmn : m < n) (tch : ∀ x y, x < n → y < n → t x y = true → c x = c y) (h0 : pt m = 0) (ht : t k m = true) : Fl c t n i (upd pt m (rnk c i + 1)) (T ++ [m]) k (m + 1) := by
  have hcm : c m = i := by rw [← tch k m hk hmn ht, hck]
  refine ⟨fun x hx g => ?_, fun x hx g => ?_, fun x hx g => ?_, fun x hx => ?_, ?_, fun x y hx hy g g1 g2 g3 g4 => ?_, h.lt, h.ldr⟩
  · have : x ≠ m := fun e => by subst e; omega
    simp only [upd, if_neg this]; exact h.low x hx g
  · have : x ≠ m := fun e => by subst e; omega
    simp only [upd, if_neg this]; exact h.high x hx g
  · by_cases e : x = m
    · right; simp [upd, e]
    · simp only [upd, if_neg e]; exact h.here x hx g
  · rcases List.mem_append.1 hx with g | g
    · obtain ⟨a, b, d⟩ := h.todo x g
      refine ⟨a, b, ?_⟩
      unfold upd; split
      · rfl
      · exact d
    · have : x = m := by simpa using g
      subst this
      exact ⟨hmn, hcm, by simp [upd]⟩
  · unfold upd; split
    · rfl
    · exact h.self
  · by_cases e : y = m
    · simp [upd, e]
    · simp only [upd, if_neg e]
      have hxm : x ≠ m := fun e2 => g2 (by simp [e2])
      simp only [upd, if_neg hxm] at g1
      refine h.clos x y hx hy g g1 (fun e3 => g2 (List.mem_append_left _ e3)) ?_ g4
      rcases g3 with g3 | g3
      · exact .inl g3
      · right; omega
theorem Fl.done (h : Fl c t n i pt [] k n) (hc : IsC c) (cls : Cls t n c) (tch : ∀ x y, x < n → y < n → t x y = true → c x = c y) : Bef c n (i + 1) pt := by
  intro x hx
  rcases Nat.lt_trichotomy (c x) i with g | g | g
  · rw [h.low x hx g, if_pos (by omega)]
  · have := cls (fun y => y < n ∧ c y = i ∧ pt y ≠ 0) (fun a b ha hb tab ⟨_, s1, s2⟩ => ⟨hb, by rw [← tch a b ha hb tab, s1], h.clos a b ha hb s1 s2 (by simp) (.inr hb) tab⟩) i x h.lt hx (by rw [h.ldr, g]) ⟨h.lt, h.ldr, by rw [h.self]; omega⟩
    rcases h.here x hx g with e | e
    · exact absurd e this.2.2
    · rw [e, g, if_pos (by omega)]
  · rw [h.high x hx g, if_neg (by omega)]
/-- the part that the search has found -/
theorem Bef.part (h : Bef c n (i + 1) pt) (hc : IsC c) (hi : c i = i) : (List.range n).filter (fun m => pt m = rnk c i + 1) = (List.range n).filter (fun j => c j = i) := by
  apply List.filter_congr
  intro x hx
  have hx' : x < n := by simpa using hx
  have hp := h x hx'
  by_cases g : c x < i + 1
  · rw [if_pos g] at hp
    by_cases e : c x = i
    · simp [hp, e]
    · have : rnk c (c x) ≠ rnk c i := fun q => e (rnk_inj c (hc.idem x) hi q)
      simp [hp, e, this]
  · rw [if_neg g] at hp
    have : c x ≠ i := by omega
    simp [hp, this]
end
/-- how many have no number yet -/
def unm (pt : Nat → Nat) (n : Nat) : Nat := ((List.range n).filter (fun x => pt x = 0)).length
theorem unm_upd {pt : Nat → Nat} {n m v : Nat} (hm : m < n) (h0 : pt m = 0) (hv : v ≠ 0) : unm (upd pt m v) n + 1 = unm pt n := by
  induction n with
  | zero => omega
  | succ n ih =>
    unfold unm at *
    rw [List.range_succ, List.filter_append, List.filter_append, List.length_append, List.length_append]
    by_cases e : m = n
    · subst e
      have : (List.range m).filter (fun x => decide (upd pt m v x = 0)) = (List.range m).filter (fun x => decide (pt x = 0)) := by
        apply List.filter_congr
        intro x hx
        have : x < m := by simpa using hx
        simp [upd, show x ≠ m by omega]
      rw [this]
      simp [upd, h0, hv]
    · have := ih (by omega)
      have hn : upd pt m v n = pt n := by unfold upd; rw [if_neg (by omega)]
      have : (List.filter (fun x => decide (upd pt m v x = 0)) [n]) = List.filter (fun x => decide (pt x = 0)) [n] := by
        simp [List.filter_cons, hn]
      rw [this]
      omega
end Go.Proofs.YtleigbbgilcckaaGreat.PQ
namespace Go.Proofs.YtleigbbgilcckaaGreat.PQ
end Go.Proofs.YtleigbbgilcckaaGreat.PQ
namespace Go.Proofs.YtleigbbgilcckaaGreat
open Go.RowKit
/-- one operation more has been done -/
def mkd (L : Nat → Bool) (i : Nat) : Nat → Bool := fun j => if j = i then true else L j
theorem mkd_ne {L : Nat → Bool} {i j : Nat} (h : ¬ j = i) : mkd L i j = L j := if_neg h
theorem mkd_same (L : Nat → Bool) (i : Nat) : mkd L i i = true := if_pos rfl
theorem wpOp_of_list {P : Program} {ops : Array Oper} {Q : Exit → Act → World → Prop} {i : Nat} {o : Oper} {K : Act → World → Prop} {a : Act} {w : World} (hi : ops[i]? = some o) (h : wpList P ops (Exit.then K Q) [o] a w) : wpOp P ops Q i K a w := by
  unfold wpOp
  rw [hi]
  simp only [wpList] at h
  simp only []
  split
  · rename_i hw
    rw [if_pos hw] at h
    refine h.imp (fun h1 => ?_) id
    unfold Oper.wp at *
    generalize (execOp a.eval o).run P w = r at *
    cases r with
    | ok n w' => cases n <;> exact h1
    | halt x w' => cases x <;> exact h1
  · rename_i hw
    rw [if_neg hw] at h
    exact h
end Go.Proofs.YtleigbbgilcckaaGreat
