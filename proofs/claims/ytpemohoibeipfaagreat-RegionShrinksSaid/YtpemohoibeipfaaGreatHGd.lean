/- The walk of place.Meet at valid places, and of fix.touch. -/
import Derived.Test.YtpemohoibeipfaaGreatHGc
import Derived.Test.YtpemohoibeipfaaGreatHJe
set_option linter.unusedVariables false
set_option linter.unusedSimpArgs false
namespace Go.Proofs.YtpemohoibeipfaaGreat
open Go.RowKit
theorem isAll_iff (a : Sp) : isAll a = true ↔ a.1 = -10800000 ∧ a.2 = 10800000 := by unfold isAll aeq; simp
/-- arcs of longitudes -/
def VL (a : Sp) : Prop := (a.1 = -10800000 ∧ a.2 = 10800000) ∨ (-10800000 ≤ a.1 ∧ a.1 < 10800000 ∧ a.1 ≤ a.2 ∧ a.2 - a.1 < 21600000)
/-- whether two arcs of longitudes have a direction in common -/
def lonM (a b : Sp) : Bool := decide ((b.1 - 21600000 ≤ a.2 ∧ a.1 ≤ b.2 - 21600000) ∨ (b.1 ≤ a.2 ∧ a.1 ≤ b.2) ∨ (b.1 + 21600000 ≤ a.2 ∧ a.1 ≤ b.2 + 21600000))
theorem com_lonM (a b : Sp) (ha : VL a) (hb : VL b) : (comL a b).length = 0 ↔ lonM a b = false := by
  obtain ⟨a0, a1⟩ := a
  obtain ⟨b0, b1⟩ := b
  unfold VL at ha hb
  simp only [] at ha hb
  unfold comL lonM comP
  simp only [decide_eq_false_iff_not]
  by_cases h1 : a0 = -10800000 ∧ a1 = 10800000
  · rw [if_pos ((isAll_iff _).2 h1)]
    simp only [List.length_cons]
    omega
  · by_cases h2 : b0 = -10800000 ∧ b1 = 10800000
    · rw [if_neg (fun e => h1 ((isAll_iff _).1 e)), if_pos ((isAll_iff _).2 h2)]
      simp only [List.length_cons]
      omega
    · rw [if_neg (fun e => h1 ((isAll_iff _).1 e)), if_neg (fun e => h2 ((isAll_iff _).1 e))]
      have ha' : -10800000 ≤ a0 ∧ a0 < 10800000 ∧ a0 ≤ a1 ∧ a1 - a0 < 21600000 := by omega
      have hb' : -10800000 ≤ b0 ∧ b0 < 10800000 ∧ b0 ≤ b1 ∧ b1 - b0 < 21600000 := by omega
      obtain ⟨f, hf⟩ : ∃ f, f = (b0 - a0) % 21600000 := ⟨_, rfl⟩
      rw [← hf, List.length_append]
      have hfc : f = b0 - a0 ∨ f = b0 - a0 + 21600000 := by omega
      have hf0 : 0 ≤ f ∧ f < 21600000 := by omega
      clear hf h1 h2 ha hb
      have key : ∀ g : Int, (max 0 g ≤ min (a1 - a0) (g + b1 - b0)) ↔ (0 ≤ a1 - a0 ∧ 0 ≤ g + b1 - b0 ∧ g ≤ a1 - a0 ∧ g ≤ g + b1 - b0) := fun g => by omega
      have k1 := key f
      have k2 := key (f - 21600000)
      by_cases g1 : max 0 f ≤ min (a1 - a0) (f + b1 - b0) <;> by_cases g2 : max 0 (f - 21600000) ≤ min (a1 - a0) (f - 21600000 + b1 - b0)
      all_goals
        simp only [g1, g2, if_true, if_false, List.length_cons, List.length_nil]
        first | have c1 := k1.1 g1 | have c1 := mt k1.2 g1
        first | have c2 := k2.1 g2 | have c2 := mt k2.2 g2
        clear k1 k2 key g1 g2
        rcases hfc with hfc | hfc <;> subst hfc <;> (try rw [true_iff]) <;> omega
/-- what two arcs have in common is at most two arcs -/
theorem com_ok (a b : Sp) (ha : VL a) (hb : VL b) : (comL a b).length ≤ 2 ∧ ∀ x ∈ comL a b, -10800000 ≤ x.1 ∧ x.1 ≤ 10800000 ∧ x.1 ≤ x.2 ∧ x.2 ≤ x.1 + 21600000 := by
  obtain ⟨a0, a1⟩ := a
  obtain ⟨b0, b1⟩ := b
  unfold VL at ha hb
  simp only [] at ha hb
  unfold comL
  split
  · refine ⟨by simp, fun x hx => ?_⟩
    obtain rfl : x = (b0, b1) := by simpa using hx
    simp only []; omega
  · split
    · refine ⟨by simp, fun x hx => ?_⟩
      obtain rfl : x = (a0, a1) := by simpa using hx
      simp only []; omega
    · rename_i h1 h2
      rw [isAll_iff] at h1 h2
      simp only [] at h1 h2
      have hP : ∀ f, (comP (a0, a1) (b0, b1) f).length ≤ 1 ∧ ∀ x ∈ comP (a0, a1) (b0, b1) f, -10800000 ≤ x.1 ∧ x.1 ≤ 10800000 ∧ x.1 ≤ x.2 ∧ x.2 ≤ x.1 + 21600000 := by
        intro f
        unfold comP
        split
        · rename_i hle
          refine ⟨by simp, fun x hx => ?_⟩
          have hs : -10800000 ≤ sgA (a0 + max 0 f) ∧ sgA (a0 + max 0 f) < 10800000 := by unfold sgA; omega
          simp only [List.mem_cons, List.not_mem_nil, or_false] at hx
          subst hx
          simp only [] at hle ⊢
          generalize sgA (a0 + max 0 f) = s at *
          omega
        · exact ⟨by simp, fun x hx => by simp at hx⟩
      have p1 := hP ((b0 - a0) % 21600000)
      have p2 := hP ((b0 - a0) % 21600000 - 21600000)
      refine ⟨by simp only [List.length_append]; omega, fun x hx => ?_⟩
      rcases List.mem_append.1 hx with h | h
      · exact p1.2 x h
      · exact p2.2 x h
/-- the numbers of a valid place -/
structure VP (a : Bx) : Prop where
  l1 : a.1 ≤ a.2.1
  l2 : -5400000 ≤ a.1
  l3 : a.2.1 ≤ 5400000
  o : VL (a.2.2.1, a.2.2.2)
/-- whether two places meet -/
def meetB (a b : Bx) : Bool := decide (a.1 ≤ b.2.1 ∧ b.1 ≤ a.2.1) && lonM (a.2.2.1, a.2.2.2) (b.2.2.1, b.2.2.2)
/-- four cells that are known -/
structure K4 (W : World) (g : Nat) (a b c d : Int) : Prop where
  lt : g < W.heap.size
  c0 : W.cell? ⟨g, 0, none⟩ = some (.int .i64 a)
  c1 : W.cell? ⟨g, 1, none⟩ = some (.int .i64 b)
  c2 : W.cell? ⟨g, 2, none⟩ = some (.int .i64 c)
  c3 : W.cell? ⟨g, 3, none⟩ = some (.int .i64 d)
  f0 : W.frozen? ⟨g, 0, none⟩ = false
  f1 : W.frozen? ⟨g, 1, none⟩ = false
  f2 : W.frozen? ⟨g, 2, none⟩ = false
  f3 : W.frozen? ⟨g, 3, none⟩ = false
section
variable {W W' : World} {g : Nat} {a b c d : Int}
theorem K4.below {B : Nat} (h : K4 W g a b c d) (hb : Below B W W') (hB : g < B) : K4 W' g a b c d :=
  ⟨Nat.lt_of_lt_of_le h.lt hb.size, (hb.cell (p := ⟨g, 0, none⟩) hB).trans h.c0, (hb.cell (p := ⟨g, 1, none⟩) hB).trans h.c1, (hb.cell (p := ⟨g, 2, none⟩) hB).trans h.c2, (hb.cell (p := ⟨g, 3, none⟩) hB).trans h.c3,
   (hb.frozen (p := ⟨g, 0, none⟩) hB).trans h.f0, (hb.frozen (p := ⟨g, 1, none⟩) hB).trans h.f1, (hb.frozen (p := ⟨g, 2, none⟩) hB).trans h.f2, (hb.frozen (p := ⟨g, 3, none⟩) hB).trans h.f3⟩
theorem K4.alloc (h : K4 W g a b c d) (o : Obj) : K4 (W.alloc o) g a b c d := h.below (bl_alloc W o) h.lt
theorem K4.new (W : World) (a b c d : Int) (t : TypeId) : K4 (W.alloc (.cells #[.int .i64 a, .int .i64 b, .int .i64 c, .int .i64 d] t)) W.heap.size a b c d := ⟨by simp, by simp, by simp, by simp, by simp, by simp, by simp, by simp, by simp⟩
end
theorem validLon_vl (x y : Int) (w : World) (h : VL (x, y)) : Calls Tryz.prog 74 #[.agg #[.int .i64 x, .int .i64 y]] w fun e w' => e = .returned (.bool true) ∧ Below w.heap.size w w' := by
  have h' : (x = -10800000 ∧ y = 10800000) ∨ (-10800000 ≤ x ∧ x < 10800000 ∧ x ≤ y ∧ y - x < 21600000) := h
  by_cases hc : x = -10800000 ∧ y = 10800000
  · obtain ⟨rfl, rfl⟩ := hc
    have K := Lib.hid (fun W => all_any (-10800000) 10800000 W)
    rw [show aeq (-10800000) 10800000 (-10800000) 10800000 = true by decide] at K
    clear h h'
    go_enter Tryz.func74, Tryz.ntmps74
    go_wp2_with (go_at_call 108; (with_reducible refine (K.out _).mono ?_); rintro e w1 ⟨rfl, hb⟩; have hz := one_lt hb; have hb1 := one_bl hb)
    all_goals
      go_ret
      exact ⟨ret_bool (by first | rfl | (simp_all; done) | (simp_all; omega)), hb1⟩
  · have h2 : -10800000 ≤ x ∧ x < 10800000 ∧ x ≤ y ∧ y - x < 21600000 := h'.resolve_left hc
    exact validLon_yes x y w h2.2.2.1 h2.1 h2.2.1 h2.2.2.2
set_option maxHeartbeats 400000 in
theorem placeValid_vp (b0 b1 b2 b3 : Int) (w : World) (hb : VP (b0, b1, b2, b3)) : Calls Tryz.prog 38 #[.agg #[.int .i64 b0, .int .i64 b1, .int .i64 b2, .int .i64 b3]] w fun e w' => e = .returned (.bool true) ∧ Below w.heap.size w w' := by
  have K1 := Lib.hid (fun W => validLat_yes b0 b1 W hb.l1 hb.l2 hb.l3)
  have K2 := Lib.hid (fun W => validLon_vl b2 b3 W hb.o)
  clear hb
  go_enter Tryz.func38, Tryz.ntmps38
  go_wp2_with (first | (go_at_call 73; (with_reducible refine (K1.out _).mono ?_); rintro e w1 ⟨rfl, hb⟩; have hz := one_lt hb; have hb1 := one_bl hb; have y1 := (hb.cell (p := ⟨w.heap.size, 2, none⟩) (by simp)).trans (show _ = some (.int .i64 b2) by simp); have y2 := (hb.cell (p := ⟨w.heap.size, 3, none⟩) (by simp)).trans (show _ = some (.int .i64 b3) by simp)) | (go_at_call 74; (with_reducible refine (K2.out _).mono ?_); rintro e w2 ⟨rfl, hb2⟩))
  go_ret
  exact ⟨rfl, hb1.trans (hb2.mono hb1.size)⟩
set_option maxHeartbeats 4000000 in
set_option maxRecDepth 100000 in
theorem Meet_any (a0 a1 a2 a3 b0 b1 b2 b3 : Int) (w : World) (ha : VP (a0, a1, a2, a3)) (hb : VP (b0, b1, b2, b3)) :
    Calls Tryz.prog 27 #[.agg #[.int .i64 a0, .int .i64 a1, .int .i64 a2, .int .i64 a3], .agg #[.int .i64 b0, .int .i64 b1, .int .i64 b2, .int .i64 b3]] w fun e w' => ∃ r0 r1 r2 r3 : Int, e = .returned (.tuple #[.agg #[.int .i64 r0, .int .i64 r1, .int .i64 r2, .int .i64 r3], .int .i64 (if meetB (a0, a1, a2, a3) (b0, b1, b2, b3) = true then 0 else 23)]) ∧ Below w.heap.size w w' := by
  have KV1 := Lib.hid (fun W => placeValid_vp a0 a1 a2 a3 W ha)
  have KV2 := Lib.hid (fun W => placeValid_vp b0 b1 b2 b3 W hb)
  have oa : (a2 = -10800000 ∧ a3 = 10800000) ∨ (-10800000 ≤ a2 ∧ a2 < 10800000 ∧ a2 ≤ a3 ∧ a3 - a2 < 21600000) := ha.o
  have ob : (b2 = -10800000 ∧ b3 = 10800000) ∨ (-10800000 ≤ b2 ∧ b2 < 10800000 ∧ b2 ≤ b3 ∧ b3 - b2 < 21600000) := hb.o
  have KC' := fun W => common_any a2 a3 b2 b3 W (by omega) (by omega)
  have hlen := com_lonM (a2, a3) (b2, b3) ha.o hb.o
  have hok := com_ok (a2, a3) (b2, b3) ha.o hb.o
  obtain ⟨L, hL⟩ : ∃ L, L = comL (a2, a3) (b2, b3) := ⟨_, rfl⟩
  rw [← hL] at KC' hlen hok
  have KC := Lib.hid KC'
  have HOK := Lib.hid hok
  obtain ⟨N, hN⟩ : ∃ N, N = L.length := ⟨_, rfl⟩
  have HLN := Lib.hid hN
  obtain ⟨R, hR⟩ : ∃ R : Int, R = if meetB (a0, a1, a2, a3) (b0, b1, b2, b3) = true then 0 else 23 := ⟨_, rfl⟩
  rw [← hR]
  have hRR : Hid (R = if max a0 b0 ≤ min a1 b1 ∧ N ≠ 0 then 0 else 23) := Lib.hid (by
    have l1 := ha.l1
    have l2 := hb.l1
    simp only [] at l1 l2
    rw [hR, hN]
    unfold meetB
    simp only []
    cases hm : lonM (a2, a3) (b2, b3) with
    | false =>
      have := hlen.2 hm
      simp [this]
    | true =>
      have h0 : L.length ≠ 0 := fun e => by rw [hlen.1 e] at hm; cases hm
      simp only [Bool.and_true, decide_eq_true_eq]
      by_cases g : a0 ≤ b1 ∧ b0 ≤ a1
      · rw [if_pos g, if_pos ⟨by omega, h0⟩]
      · rw [if_neg g, if_neg (fun e => g (by omega))])
  clear hR hN hlen hok hL KC' oa ob ha hb
  obtain ⟨P1, hP1⟩ : ∃ P, max a0 b0 = P := ⟨_, rfl⟩
  obtain ⟨P2, hP2⟩ : ∃ P, min a1 b1 = P := ⟨_, rfl⟩
  rw [hP1, hP2] at hRR
  have HA := Lib.hid (((K4.new w a0 a1 a2 a3 43).alloc (.cells #[.int .i64 b0, .int .i64 b1, .int .i64 b2, .int .i64 b3] 43)).alloc (.cells #[.int .i64 0, .int .i64 0, .int .i64 0, .int .i64 0] 43))
  have HB : Hid (K4 (((w.alloc (.cells #[.int .i64 a0, .int .i64 a1, .int .i64 a2, .int .i64 a3] 43)).alloc (.cells #[.int .i64 b0, .int .i64 b1, .int .i64 b2, .int .i64 b3] 43)).alloc (.cells #[.int .i64 0, .int .i64 0, .int .i64 0, .int .i64 0] 43)) (w.heap.size + 1) b0 b1 b2 b3) := Lib.hid (by
    have := (K4.new (w.alloc (.cells #[.int .i64 a0, .int .i64 a1, .int .i64 a2, .int .i64 a3] 43)) b0 b1 b2 b3 43).alloc (.cells #[.int .i64 0, .int .i64 0, .int .i64 0, .int .i64 0] 43)
    simpa using this)
  have HZ : Hid (K4 (((w.alloc (.cells #[.int .i64 a0, .int .i64 a1, .int .i64 a2, .int .i64 a3] 43)).alloc (.cells #[.int .i64 b0, .int .i64 b1, .int .i64 b2, .int .i64 b3] 43)).alloc (.cells #[.int .i64 0, .int .i64 0, .int .i64 0, .int .i64 0] 43)) (w.heap.size + 1 + 1) 0 0 0 0) := Lib.hid (by
    have := K4.new ((w.alloc (.cells #[.int .i64 a0, .int .i64 a1, .int .i64 a2, .int .i64 a3] 43)).alloc (.cells #[.int .i64 b0, .int .i64 b1, .int .i64 b2, .int .i64 b3] 43)) 0 0 0 0 43
    simpa using this)
  have b0' : Below w.heap.size w (((w.alloc (.cells #[.int .i64 a0, .int .i64 a1, .int .i64 a2, .int .i64 a3] 43)).alloc (.cells #[.int .i64 b0, .int .i64 b1, .int .i64 b2, .int .i64 b3] 43)).alloc (.cells #[.int .i64 0, .int .i64 0, .int .i64 0, .int .i64 0] 43)) := (((Below.refl _ _).alloc (Nat.le_refl _) _).alloc (by simp) _).alloc (by simp; omega) _
  go_enter Tryz.func27, Tryz.ntmps27
  go_wp2_with fail
  (with_reducible refine (KV1.out _).mono ?_)
  rintro e w1 ⟨rfl, hb1⟩
  have HA1 := Lib.hid (HA.out.below hb1 HA.out.lt)
  have HB1 := Lib.hid (HB.out.below hb1 HB.out.lt)
  have HZ1 := Lib.hid (HZ.out.below hb1 HZ.out.lt)
  have B1 := Lib.hid (b0'.trans (hb1.mono b0'.size))
  clear HA HB HZ b0' hb1
  obtain ⟨lt1, c0, c1, c2, c3, -, -, -, -⟩ := HB1.out
  go_wp2_with fail
  (with_reducible refine (KV2.out _).mono ?_)
  rintro e w2 ⟨rfl, hb2⟩
  clear lt1 c0 c1 c2 c3
  have HA2 := Lib.hid (HA1.out.below hb2 HA1.out.lt)
  have HB2 := Lib.hid (HB1.out.below hb2 HB1.out.lt)
  have HZ2 := Lib.hid (HZ1.out.below hb2 HZ1.out.lt)
  have B2 := Lib.hid (B1.out.trans (hb2.mono B1.out.size))
  clear HA1 HB1 HZ1 B1 hb2
  obtain ⟨at2, a0', a1', a2', a3', -, -, -, -⟩ := HA2.out
  obtain ⟨bt2, c0, c1, c2, c3, -, -, -, -⟩ := HB2.out
  go_wp2_with fail
  (with_reducible refine (KC.out _).mono ?_)
  rintro e w3 ⟨v, rfl, hown, hb3⟩
  have HP := Lib.hid ((K2.new w2 P1 P2 32).below hb3 (by simp))
  have HZ3 := Lib.hid ((HZ2.out.alloc (.cells #[.int .i64 P1, .int .i64 P2] 32)).below hb3 (by have := HZ2.out.lt; simp; omega))
  have B3 := Lib.hid ((B2.out.alloc B2.out.size (.cells #[.int .i64 P1, .int .i64 P2] 32)).trans (hb3.mono (by have := B2.out.size; simp; omega)))
  rw [← HLN.out] at hown
  obtain ⟨A4, k4, rfl, ra, hcc, hcm⟩ := own_form hown
  have RA := Lib.hid ra
  have hN2 : N ≤ 2 := by have := HOK.out.1; have := HLN.out; omega
  clear hown hb3 HZ2 HA2 HB2 B2 ra at2 a0' a1' a2' a3' bt2 c0 c1 c2 c3
  obtain ⟨pt, p0, p1, -, -⟩ := HP.out
  by_cases hc : P1 ≤ P2 ∧ N ≠ 0
  · rw [if_pos hc] at hRR
    obtain rfl := hRR.out
    have d1 : decide (P2 < P1) = false := decide_eq_false (by omega)
    have d2 : decide ((N : Int) = 0) = false := decide_eq_false (by omega)
    have d3 : ((N : Int) == 0) = false := by simp; exact hc.2
    clear hc hRR
    have KA := Lib.hid (fun (W : World) (h : Reads W W.heap.size 2 A4 N (spvs L)) => fixArnd_any A4 N k4 L W h (by omega) HOK.out.2)
    go_upto_region 7 with (fail)
    have KA3 := Lib.hid (KA.out w3.drew RA.out.drew)
    obtain ⟨⟨r0, r1⟩, hr⟩ : ∃ r, arnd L = r := ⟨_, rfl⟩
    rw [hr] at KA3
    have HZL := HZ3.out.lt
    go_region_with (go_at_call 62; (with_reducible refine KA3.out.mono ?_); rintro e w4 ⟨rfl, hb4'⟩; have hb4 : Below w3.heap.size w3 w4 := (bl_drew (Below.refl _ _)).trans hb4'; have q0 := (hb4.cell (p := ⟨w2.heap.size, 0, none⟩) pt).trans p0; have q1 := (hb4.cell (p := ⟨w2.heap.size, 1, none⟩) pt).trans p1; obtain ⟨zt, z0, z1, z2, z3, zf0, zf1, zf2, zf3⟩ := HZ3.out.below hb4 HZL)
    all_goals
      go_wp2
      refine bodyPost_ret (v := .tuple #[.agg #[.int .i64 P1, .int .i64 P2, .int .i64 r0, .int .i64 r1], .int .i64 0]) (by simp [results, Tryz.results27, go_sem, *]; done) rfl ⟨_, _, _, _, rfl, ?_⟩
      have B4 := B3.out.trans (hb4.mono B3.out.size)
      exact (((B4.setCell (by simp only []; omega) _).setCell (by simp only []; omega) _).setCell (by simp only []; omega) _).setCell (by simp only []; omega) _
  · rw [if_neg hc] at hRR
    obtain rfl := hRR.out
    obtain ⟨zt, z0, z1, z2, z3, zf0, zf1, zf2, zf3⟩ := HZ3.out
    by_cases g1 : P2 < P1
    · have d1 : decide (P2 < P1) = true := decide_eq_true g1
      go_wp2
      refine bodyPost_ret (v := .tuple #[.agg #[.int .i64 0, .int .i64 0, .int .i64 0, .int .i64 0], .int .i64 23]) (by simp [results, Tryz.results27, go_sem, *]; done) rfl ⟨_, _, _, _, rfl, ?_⟩
      exact (((B3.out.setCell (by simp only []; omega) _).setCell (by simp only []; omega) _).setCell (by simp only []; omega) _).setCell (by simp only []; omega) _
    · have g2 : N = 0 := by omega
      subst g2
      have d1 : decide (P2 < P1) = false := decide_eq_false g1
      go_wp2
      refine bodyPost_ret (v := .tuple #[.agg #[.int .i64 0, .int .i64 0, .int .i64 0, .int .i64 0], .int .i64 23]) (by simp [results, Tryz.results27, go_sem, *]; done) rfl ⟨_, _, _, _, rfl, ?_⟩
      exact (((B3.out.setCell (by simp only []; omega) _).setCell (by simp only []; omega) _).setCell (by simp only []; omega) _).setCell (by simp only []; omega) _
end Go.Proofs.YtpemohoibeipfaaGreat
