/- Plain: polynomials of sine and cosine over the rationals, and how they change. No program in sight. -/
import Derived.BigRegion
import Derived.Test.YtifdgdgfmjfbdaaGreatIGi
set_option linter.unusedVariables false
set_option linter.unusedSimpArgs false
namespace Go.Proofs.YtifdgdgfmjfbdaaGreat
open Go.RowKit
/-- the hull of the first boxes' latitudes -/
def latF (D : List Bx) (k : Nat) : Int × Int := (D.take k).foldl (fun s q => (min s.1 q.1, max s.2 q.2.1)) ((gb D 0).1, (gb D 0).2.1)
theorem latF_succ (D : List Bx) (k : Nat) (hk : k < D.length) : latF D (k + 1) = (min (latF D k).1 (gb D k).1, max (latF D k).2 (gb D k).2.1) := by
  unfold latF
  rw [List.take_succ_eq_append_getElem hk, List.foldl_append]
  simp [gb, hk]
theorem latF_zero (D : List Bx) : latF D 0 = ((gb D 0).1, (gb D 0).2.1) := by simp [latF]
theorem lons_take (D : List Bx) (k : Nat) (hk : k < D.length) : spvs ((lons D).take (k + 1)) = spvs ((lons D).take k) ++ [.int .i64 (gb D k).2.2.1, .int .i64 (gb D k).2.2.2] := by
  have hk' : k < (lons D).length := by simpa [lons] using hk
  rw [List.take_succ_eq_append_getElem hk']
  simp [spvs, spv, lons, gb, hk]
set_option maxHeartbeats 4000000 in
set_option maxRecDepth 100000 in
/-- the bounds of boxes -/
theorem fbounds_any (A : Option Addr) (n c : Nat) (D : List Bx) (w : World) (hr : Reads w w.heap.size 4 A n (bvs D)) (h0 : 0 < n) (hn : n ≤ 4000) (hC : OkC (lons D)) :
    Calls Tryz.prog 68 #[.slice A n c] w fun e w' => e = .returned (.agg #[.int .i64 (latF D n).1, .int .i64 (latF D n).2, .int .i64 (rarn (lons D)).1, .int .i64 (rarn (lons D)).2]) ∧ Below w.heap.size w w' := by
  have hl : D.length = n := by have := hr.1; rw [bvs_length] at this; omega
  have HL := Lib.hid hl
  have HC := Lib.hid hC
  obtain ⟨b, off, rfl, hb, x0, x1, x2, x3⟩ := BReads.elem hr h0
  have X : Hid (∀ W, Below w.heap.size w W → ∀ k, k < n → W.cell? ⟨b, off + k * 4, none⟩ = some (.int .i64 (gb D k).1) ∧ W.cell? ⟨b, off + k * 4 + 1, none⟩ = some (.int .i64 (gb D k).2.1) ∧ W.cell? ⟨b, off + k * 4 + 2, none⟩ = some (.int .i64 (gb D k).2.2.1) ∧ W.cell? ⟨b, off + k * 4 + 3, none⟩ = some (.int .i64 (gb D k).2.2.2)) := Lib.hid (fun W hW k hk => by
    obtain ⟨b', off', e, hb', y0, y1, y2, y3⟩ := BReads.elem hr hk
    cases e
    exact ⟨(hW.cell (p := ⟨b, off + k * 4, none⟩) hb).trans y0, (hW.cell (p := ⟨b, off + k * 4 + 1, none⟩) hb).trans y1, (hW.cell (p := ⟨b, off + k * 4 + 2, none⟩) hb).trans y2, (hW.cell (p := ⟨b, off + k * 4 + 3, none⟩) hb).trans y3⟩)
  have z0 := latF_zero D
  obtain ⟨⟨l0, l1⟩, hl0⟩ : ∃ s, s = latF D 0 := ⟨_, rfl⟩
  rw [← hl0] at z0
  obtain ⟨z0, z1⟩ := Prod.mk.inj z0
  have HL0 := Lib.hid hl0
  clear hl0
  have y0 := (X.out _ (Below.refl _ _) 0 h0).1
  have y1 := (X.out _ (Below.refl _ _) 0 h0).2.1
  simp only [Nat.zero_mul, Nat.add_zero] at y0 y1
  rw [← z0] at y0
  rw [← z1] at y1
  clear x0 x1 x2 x3 z0 z1 hr hC hl
  obtain ⟨iA, hiA, hzA, hz1A, hzbA⟩ : ∃ i0, Tryz.prog.info? 29 = some i0 ∧ i0.zero = some (.agg #[.int .i64 0, .int .i64 0]) ∧ i0.size = 2 ∧ i0.bytes = 16 := by
    have h : (Tryz.prog.info? 29).map (fun i => (i.zero, i.size, i.bytes)) = some (some (.agg #[.int .i64 0, .int .i64 0]), 2, 16) := by kernel_rfl
    obtain ⟨i0, a, b, c, d⟩ := info_parts h
    exact ⟨i0, a, b, c, d⟩
  have Z0 := Lib.hid ((K4.new w 0 0 0 0 31).alloc (.cells #[.int .i64 l0, .int .i64 l1, .int .i64 0, .int .i64 0] 31))
  have p0 := K4.new (w.alloc (.cells #[.int .i64 0, .int .i64 0, .int .i64 0, .int .i64 0] 31)) l0 l1 0 0 31
  rw [World.size_alloc] at p0
  have P0 := Lib.hid p0
  clear p0
  have B0 := Lib.hid ((bl_alloc w (.cells #[.int .i64 0, .int .i64 0, .int .i64 0, .int .i64 0] 31)).alloc (by simp) (.cells #[.int .i64 l0, .int .i64 l1, .int .i64 0, .int .i64 0] 31))
  go_enter Tryz.func68, Tryz.ntmps68
  go_wp2
  clear y0 y1
  go_loopw [4, 14] (fun s4 i wr => ∃ k : Nat, k ≤ n ∧ i = .int .i64 k ∧ wr.ownsRow (w.heap.size + 2) 29 2 s4 k (spvs ((lons D).take k)) ∧ K4 wr w.heap.size 0 0 0 0 ∧ K4 wr (w.heap.size + 1) (latF D k).1 (latF D k).2 0 0 ∧ Below w.heap.size w wr) (fun _ i _ => n - (intOf i).toNat)
  case atStart => exact ⟨0, Nat.zero_le _, rfl, own_nil _ _ _ _, Z0.out, by rw [← HL0.out]; exact P0.out, B0.out⟩
  case round =>
    obtain ⟨k, hk, rfl, hown, hZ, hP, hbl⟩ := hrel
    clear Z0 P0 B0
    have HOW := Lib.hid hown
    have HZ := Lib.hid hZ
    have HP := Lib.hid hP
    have HB := Lib.hid hbl
    clear hown hZ hP hbl
    by_cases hlt : k < n
    · obtain ⟨y0, y1, y2, y3⟩ := X.out wr HB.out k hlt
      have hLS := Lib.hid (latF_succ D k (by rw [HL.out]; exact hlt))
      have hTK := Lib.hid (lons_take D k (by rw [HL.out]; exact hlt))
      generalize gb D k = q at *
      generalize latF D k = s at *
      obtain ⟨q0, q1, q2, q3⟩ := q
      obtain ⟨s0, s1⟩ := s
      simp only [] at y0 y1 y2 y3 hLS hTK HP
      have PW := Lib.hid (HP.out.alloc (.cells #[.int .i64 q0, .int .i64 q1, .int .i64 q2, .int .i64 q3] 31))
      have ZW := Lib.hid (HZ.out.alloc (.cells #[.int .i64 q0, .int .i64 q1, .int .i64 q2, .int .i64 q3] 31))
      have OW := Lib.hid (HOW.out.alloc (.cells #[.int .i64 q0, .int .i64 q1, .int .i64 q2, .int .i64 q3] 31))
      have hzw := HB.out.size
      have BW := Lib.hid (HB.out.alloc hzw (.cells #[.int .i64 q0, .int .i64 q1, .int .i64 q2, .int .i64 q3] 31))
      have NW := Lib.hid (K4.new wr q0 q1 q2 q3 31)
      have hlp := HP.out.lt
      go_upto_region 6 with (fail)
      clear y0 y1 y2 y3
      obtain ⟨WA, hWA⟩ : ∃ WA, wr.alloc (.cells #[.int .i64 q0, .int .i64 q1, .int .i64 q2, .int .i64 q3] 31) = WA := ⟨_, rfl⟩
      rw [hWA] at PW ZW OW BW NW ⊢
      have hzA : WA.heap.size = wr.heap.size + 1 := by rw [← hWA]; simp
      clear hWA HOW HZ HP HB
      have HZA := Lib.hid hzA
      generalize wr.heap.size = ga at *
      clear hzA
      have hn1 : ¬ ga = w.heap.size + 1 := by omega
      have hn2 : ¬ w.heap.size + 1 = ga := by omega
      obtain ⟨pt2, p0, p1, p2, p3, pf0, pf1, -, -⟩ := PW.out
      obtain ⟨nt2, a0, a1, a2, a3, -, -, -, -⟩ := NW.out
      go_region
      clear p0 p1 p2 p3 pf0 pf1 a0 a1 a2 a3 pt2 nt2
      have PX := Lib.hid ((PW.out.two (min s0 q0) (max s1 q1)).below (bl_drew (Below.refl _ _)) (by simpa using PW.out.lt))
      have ZX := Lib.hid (((ZW.out.farB (p := ⟨w.heap.size + 1, 0, none⟩) (by simp only []; omega) (.int .i64 (min s0 q0))).farB (p := ⟨w.heap.size + 1, 1, none⟩) (by simp only []; omega) (.int .i64 (max s1 q1))).below (bl_drew (Below.refl _ _)) (by simpa using ZW.out.lt))
      have NX := Lib.hid (((NW.out.farB (p := ⟨w.heap.size + 1, 0, none⟩) hn1 (.int .i64 (min s0 q0))).farB (p := ⟨w.heap.size + 1, 1, none⟩) hn1 (.int .i64 (max s1 q1))).below (bl_drew (Below.refl _ _)) (by simpa using NW.out.lt))
      have BX := Lib.hid (bl_drew ((BW.out.setCell (p := ⟨w.heap.size + 1, 0, none⟩) (by simp) (.int .i64 (min s0 q0))).setCell (p := ⟨w.heap.size + 1, 1, none⟩) (by simp) (.int .i64 (max s1 q1))))
      have hzX : (((WA.setCell ⟨w.heap.size + 1, 0, none⟩ (.int .i64 (min s0 q0))).setCell ⟨w.heap.size + 1, 1, none⟩ (.int .i64 (max s1 q1))).drew).heap.size = ga + 1 := by simp; exact HZA.out
      have HZX := Lib.hid hzX
      have OX := Lib.hid (own_grown' OW.out (grown_bl (grown_set2 (o := 1) (v := .int .i64 (max s1 q1)) (grown_set2 (o := 0) (v := .int .i64 (min s0 q0)) (World.grownBy.refl WA (some (w.heap.size + 1))))) (bl_drew (Below.refl WA.heap.size _)) (Nat.le_refl _)) (fun q hq e => by have := own_base OW.out q hq; cases e; omega))
      clear hzX HZA PW ZW NW BW OW
      generalize ((WA.setCell ⟨w.heap.size + 1, 0, none⟩ (.int .i64 (min s0 q0))).setCell ⟨w.heap.size + 1, 1, none⟩ (.int .i64 (max s1 q1))).drew = WX at *
      obtain ⟨nt2, a0, a1, a2, a3, -, -, -, -⟩ := NX.out
      go_wp2_with (at_builtin; first
        | (refine wpList_append_any _ rfl (.tmp 36) (.tmp 39) _ rfl (w.heap.size + 2) 29 iA _ 2 16 Tryz.underlying57 hiA hzA hz1A hzbA rfl (by decide) _ k (spvs ((lons D).take k)) rfl (OX.out.alloc _) (WX.heap.size + 1) (some ⟨WX.heap.size, 0, none⟩) 1 1 [.int .i64 q2, .int .i64 q3] rfl ⟨rfl, fun _ => ⟨_, rfl, by simp, arc_cells WX (q2, q3) _⟩⟩ (by simp [Value.oneCell']) (by simp only [maxLen]; omega) (by omega) (by have := HZX.out; simp; omega) ?_; intro v7 w7 hown7 hg7 hat7)
        | fail)
      have hzz := HZX.out
      have b7 := ((bl_alloc WX (.cells #[.int .i64 q2, .int .i64 q3] 29)).mono (show w.heap.size + 2 ≤ WX.heap.size by omega)).grown hg7 (by simp; omega) (own_base OX.out)
      go_roundw
      case rel => exact ⟨k + 1, by omega, by go_num, by rw [hTK.out]; exact hown7, ZX.out.below b7 (by omega), by rw [hLS.out]; exact PX.out.below b7 (by omega), BX.out.trans (b7.mono (by omega))⟩
      case measure => simp [intOf]; omega
    · obtain rfl : k = n := by omega
      have hll : (lons D).length = k := by rw [show (lons D).length = D.length from List.length_map _, HL.out]
      rw [List.take_of_length_le (by omega)] at HOW
      obtain ⟨g, cap, hv, hg, hgl⟩ := own_some HOW.out h0
      subst hv
      have HS : Hid (∀ j, j < (lons D).length → wr.cell? ⟨g, 0 + j * 2, none⟩ = some (.int .i64 (gs (lons D) j).1) ∧ wr.cell? ⟨g, 0 + j * 2 + 1, none⟩ = some (.int .i64 (gs (lons D) j).2)) := Lib.hid (fun j hj => by
        have hr := Reads.of_own HOW.out
        obtain ⟨b', off', e, -, z0, z1⟩ := SReads.elem (D := lons D) hr (k := j) (by omega)
        cases e
        exact ⟨z0, z1⟩)
      have KA := Lib.hid ((fAround_any g 0 k cap (lons D) wr hgl HS.out hll (by omega) h0 (okA_of HC.out)).mono (R' := fun e w' => e = .returned (.agg #[.int .i64 (rarn (lons D)).1, .int .i64 (rarn (lons D)).2]) ∧ Below wr.heap.size wr w') fun e w' ⟨D', hp, hso, he, hb⟩ => by
        have := fS_rarn HC.out hp hso
        rw [hp.length_eq, hll] at this
        rw [this] at he
        exact ⟨he, hb⟩)
      obtain ⟨⟨r0, r1⟩, hr⟩ : ∃ r, rarn (lons D) = r := ⟨_, rfl⟩
      obtain ⟨⟨s0, s1⟩, hs⟩ : ∃ s, latF D k = s := ⟨_, rfl⟩
      rw [hr] at KA
      rw [hs] at HP
      simp only [] at KA HP
      have HRS := Lib.hid (And.intro hr hs)
      clear hr hs
      clear HS
      go_wp2_with fail
      (with_reducible refine KA.out.mono ?_)
      rintro e w4 ⟨rfl, hb4⟩
      have P4 := Lib.hid (HP.out.below hb4 HP.out.lt)
      have Z4 := Lib.hid (HZ.out.below hb4 HZ.out.lt)
      have B4 := Lib.hid (HB.out.trans (hb4.mono HB.out.size))
      clear KA HP HZ HB HOW hb4
      obtain ⟨pt, p0, p1, p2, p3, pf0, pf1, pf2, pf3⟩ := P4.out
      have hn1 : ¬ w.heap.size = w.heap.size + 1 := by omega
      have hn2 : ¬ w.heap.size + 1 = w.heap.size := by omega
      obtain ⟨zt, z0, z1, z2, z3, zf0, zf1, zf2, zf3⟩ := Z4.out
      go_wp2
      refine bodyPost_ret (v := .agg #[.int .i64 s0, .int .i64 s1, .int .i64 r0, .int .i64 r1]) (by simp [results, Tryz.results68, go_sem, *]; done) rfl ⟨by rw [HRS.out.1, HRS.out.2], ?_⟩
      exact bl_put4 ((B4.out.setCell (by simp) _).setCell (by simp) _) (Nat.le_refl _)
end Go.Proofs.YtifdgdgfmjfbdaaGreat
namespace Go.Proofs.YtifdgdgfmjfbdaaGreat.Trig
/-- a sum of the first terms -/
def Sm (f : Nat → Rat) : Nat → Rat
  | 0 => 0
  | n + 1 => Sm f n + f n
/-- x^i / i! -/
def mo (x : Rat) : Nat → Rat
  | 0 => 1
  | i + 1 => mo x i * x / ((i : Rat) + 1)
/-- 1, 0, -1, 0, .. -/
def sg : Nat → Rat
  | 0 => 1
  | 1 => 0
  | n + 2 => - sg n
/-- the cosine (o = 0), minus the sine (1), minus the cosine (2), the sine (3) -/
def Fs (o M : Nat) (x : Rat) : Rat := Sm (fun i => sg (i + o) * mo x i) M
/-- two numbers are near -/
def Nr (a b e : Rat) : Prop := a - b ≤ e ∧ b - a ≤ e
theorem c0 (i : Nat) : (0 : Rat) ≤ (i : Rat) := by exact_mod_cast Nat.zero_le i
theorem mo_succ (x : Rat) (i : Nat) : mo x (i + 1) * ((i : Rat) + 1) = mo x i * x := by
  have := c0 i
  rw [mo, Rat.div_mul_cancel (by grind)]
theorem nn_of_mul {a b : Rat} (h : 0 ≤ a * b) (hb : 0 < b) : 0 ≤ a := Rat.le_of_mul_le_mul_right (c := b) (by simpa using h) hb
theorem mo_nonneg {x : Rat} (h : 0 ≤ x) : ∀ i, 0 ≤ mo x i
  | 0 => by simp [mo]; decide
  | i + 1 => by
    have h1 := mo_nonneg h i
    have h2 := c0 i
    have h3 := mo_succ x i
    have h4 : 0 ≤ mo x i * x := Rat.mul_nonneg h1 h
    rw [← h3] at h4
    exact nn_of_mul h4 (by grind)
/-- every second of the numbers is at most half of the one before -/
theorem mo_half {x : Rat} (h : 0 ≤ x) (h1 : x ≤ 1) (i : Nat) : mo x (i + 1) ≤ mo x i ∧ (1 ≤ i → 2 * mo x (i + 1) ≤ mo x i) := by
  have h0 := mo_nonneg h i
  have h2 := mo_nonneg h (i + 1)
  have h3 := mo_succ x i
  have h4 : 0 ≤ mo x i * (1 - x) := Rat.mul_nonneg h0 (by grind)
  have hi := c0 i
  have h5 : 0 ≤ mo x (i + 1) * (i : Rat) := Rat.mul_nonneg h2 hi
  refine ⟨by grind, fun hi1 => ?_⟩
  have h6 : (1 : Rat) ≤ (i : Rat) := by exact_mod_cast hi1
  have h7 : 0 ≤ mo x (i + 1) * ((i : Rat) - 1) := Rat.mul_nonneg h2 (by grind)
  grind
theorem mo_le1 {x : Rat} (h : 0 ≤ x) (h1 : x ≤ 1) : ∀ i, mo x i ≤ 1
  | 0 => by simp [mo]
  | i + 1 => Rat.le_trans (mo_half h h1 i).1 (mo_le1 h h1 i)
/-- the i-th number, k places on -/
def mk (x : Rat) (k i : Nat) : Rat := if i < k then 0 else mo x (i - k)
theorem mk_zero (x : Rat) (i : Nat) : mk x 0 i = mo x i := by simp [mk]
theorem mk_succ (x : Rat) (k i : Nat) : mk x (k + 1) (i + 1) = mk x k i := by
  unfold mk
  by_cases h : i < k
  · rw [if_pos h, if_pos (by omega)]
  · rw [if_neg h, if_neg (by omega)]; congr 1; omega
theorem mk_first (x : Rat) (k : Nat) : mk x (k + 1) 0 = 0 := by simp [mk]
theorem mk_bd {x : Rat} (h : 0 ≤ x) (h1 : x ≤ 1) (k i : Nat) : 0 ≤ mk x k i ∧ mk x k i ≤ 1 := by
  unfold mk
  split
  · exact ⟨by decide, by decide⟩
  · exact ⟨mo_nonneg h _, mo_le1 h h1 _⟩
theorem mk_x (x : Rat) (k i : Nat) : mk x (k + 1) i * x = ((i : Rat) - (k : Rat)) * mk x k i := by
  unfold mk
  by_cases h : i < k
  · rw [if_pos h, if_pos (by omega)]; grind
  · by_cases h2 : i = k
    · subst h2
      rw [if_pos (by omega)]
      grind
    · obtain ⟨j, rfl⟩ : ∃ j, i = k + 1 + j := ⟨i - (k + 1), by omega⟩
      rw [if_neg (by omega), if_neg (by omega)]
      rw [show k + 1 + j - (k + 1) = j by omega, show k + 1 + j - k = j + 1 by omega]
      have := mo_succ x j
      push_cast
      grind
/-- what is left of the i-th number at x + h behind four terms, times 24 / h^4 -/
def be : Nat → Rat
  | 0 => 0
  | i + 1 => (be i + (if i < 3 then 0 else 1 / 6)) / ((i : Rat) + 1)
def Ti (x h : Rat) (i : Nat) : Rat := mk x 0 i + h * mk x 1 i + h * h / 2 * mk x 2 i + h * h * h / 6 * mk x 3 i
theorem be_nonneg : ∀ i, 0 ≤ be i
  | 0 => by simp [be]
  | i + 1 => by
    have h := be_nonneg i
    have h2 := c0 i
    have h3 : be (i + 1) * ((i : Rat) + 1) = be i + (if i < 3 then 0 else 1 / 6) := by rw [be, Rat.div_mul_cancel (by grind)]
    refine nn_of_mul (b := (i : Rat) + 1) ?_ (by grind)
    rw [h3]
    split <;> grind
theorem step_fin {X m m' T T' H b b' s k I : Rat} (e1 : m' * I = m * X) (hT : X * T = I * T' + H / 6 * k) (hb : H * (b' * I) = H * (b + s)) (hI : 0 < I)
    (k1 : 0 ≤ X * (H * b - (m - T))) (k2 : 0 ≤ X * (H * b - (T - m))) (k3 : 0 ≤ (1 - X) * (H * b)) (k4 : 0 ≤ H * (s - k / 6)) (k5 : 0 ≤ H * k) : Nr m' T' (H * b') := by
  constructor
  · refine Rat.le_of_mul_le_mul_right (c := I) ?_ hI
    grind_linarith
  · refine Rat.le_of_mul_le_mul_right (c := I) ?_ hI
    grind_linarith
theorem Ti_succ (x h : Rat) (i : Nat) : (x + h) * Ti x h i = ((i : Rat) + 1) * Ti x h (i + 1) + h * h * h * h / 6 * mk x 3 i := by
  have a1 := mk_succ x 0 i
  have a2 := mk_succ x 1 i
  have a3 := mk_succ x 2 i
  have x0 := mk_x x 0 i
  have x1 := mk_x x 1 i
  have x2 := mk_x x 2 i
  have z0 : mk x 0 (i + 1) * ((i : Rat) + 1) = mk x 0 i * x := by rw [mk_zero, mk_zero]; exact mo_succ x i
  unfold Ti
  rw [a1, a2, a3]
  push_cast at x0 x1 x2
  grind
theorem shift_mo {x h : Rat} (hx : 0 ≤ x) (hh : 0 ≤ h) (h1 : x + h ≤ 1) : ∀ i, Nr (mo (x + h) i) (Ti x h i) (h * h * h * h * be i)
  | 0 => by
    simp [Nr, Ti, mk, mo, be]
    grind
  | i + 1 => by
    obtain ⟨i1, i2⟩ := shift_mo hx hh h1 i
    have hi := c0 i
    have hb : be (i + 1) * ((i : Rat) + 1) = be i + (if i < 3 then 0 else 1 / 6) := by rw [be, Rat.div_mul_cancel (by grind)]
    have m3 : mk x 3 i / 6 ≤ (if i < 3 then 0 else 1 / 6) := by
      have := (mk_bd hx (by grind) 3 i).2
      by_cases h3 : i < 3
      · rw [if_pos h3, mk, if_pos h3]; grind
      · rw [if_neg h3]; grind
    have m0 := (mk_bd hx (by grind) 3 i).1
    have hH : 0 ≤ h * h * h * h := Rat.mul_nonneg (Rat.mul_nonneg (Rat.mul_nonneg hh hh) hh) hh
    have hbn := be_nonneg i
    refine step_fin (mo_succ (x + h) i) (Ti_succ x h i) (by rw [hb]) (by grind) (Rat.mul_nonneg (by grind) (by grind)) (Rat.mul_nonneg (by grind) (by grind)) (Rat.mul_nonneg (by grind) (Rat.mul_nonneg hH hbn)) (Rat.mul_nonneg hH ?_) (Rat.mul_nonneg hH m0)
    grind_linarith
/-! ### sums -/
theorem Sm_front (f : Nat → Rat) : ∀ n, Sm f (n + 1) = f 0 + Sm (fun i => f (i + 1)) n
  | 0 => by simp [Sm]; grind
  | n + 1 => by rw [Sm, Sm_front f n]; simp only [Sm]; grind
theorem Sm_nr {a b e : Nat → Rat} (h : ∀ i, Nr (a i) (b i) (e i)) : ∀ n, Nr (Sm a n) (Sm b n) (Sm e n)
  | 0 => by simp [Sm, Nr]; grind
  | n + 1 => by
    have h1 := Sm_nr h n
    have h2 := h n
    unfold Nr at *
    simp only [Sm]
    grind
theorem Sm_congr {a b : Nat → Rat} (h : ∀ i, a i = b i) (n : Nat) : Sm a n = Sm b n := by rw [show a = b from funext h]
theorem sg_two (i : Nat) : sg (i + 2) = - sg i := by rw [sg]
theorem sg_bd : ∀ i, sg i = 0 ∨ sg i = 1 ∨ sg i = -1
  | 0 => .inr (.inl rfl)
  | 1 => .inl rfl
  | n + 2 => by
    rw [sg_two]
    rcases sg_bd n with h | h | h <;> rw [h] <;> simp
def Gk (x : Rat) (k o M : Nat) : Rat := Sm (fun i => sg (i + o) * mk x k i) M
theorem Gk_eq (x : Rat) : ∀ k o M, Gk x k o M = Fs (o + k) (M - k) x
  | 0, o, M => by
    unfold Gk Fs
    exact Sm_congr (fun i => by rw [mk_zero]; simp) _
  | k + 1, o, 0 => by simp [Gk, Fs, Sm]
  | k + 1, o, M + 1 => by
    have e : Gk x (k + 1) o (M + 1) = Gk x k (o + 1) M := by
      unfold Gk
      rw [Sm_front, mk_first]
      have := Sm_congr (a := fun i => sg (i + 1 + o) * mk x (k + 1) (i + 1)) (b := fun i => sg (i + (o + 1)) * mk x k i) (fun i => by rw [mk_succ, show i + 1 + o = i + (o + 1) by omega]) M
      rw [this]
      grind
    rw [e, Gk_eq x k (o + 1) M, show o + 1 + k = o + (k + 1) by omega, show M + 1 - (k + 1) = M - k by omega]
theorem Sm_lin (f0 f1 f2 f3 : Nat → Rat) (a b c : Rat) : ∀ n, Sm (fun i => f0 i + a * f1 i + b * f2 i + c * f3 i) n = Sm f0 n + a * Sm f1 n + b * Sm f2 n + c * Sm f3 n
  | 0 => by simp [Sm]; grind
  | n + 1 => by
    rw [Sm, Sm_lin f0 f1 f2 f3 a b c n]
    simp only [Sm]
    grind
theorem Sm_scale (f : Nat → Rat) (a : Rat) : ∀ n, Sm (fun i => a * f i) n = a * Sm f n
  | 0 => by simp [Sm]
  | n + 1 => by rw [Sm, Sm_scale f a n, Sm]; grind
/-- the values a little further on -/
theorem shift_F {x h : Rat} (hx : 0 ≤ x) (hh : 0 ≤ h) (h1 : x + h ≤ 1) (o M : Nat) :
    Nr (Fs o M (x + h)) (Fs o M x + h * Fs (o + 1) (M - 1) x + h * h / 2 * Fs (o + 2) (M - 2) x + h * h * h / 6 * Fs (o + 3) (M - 3) x) (h * h * h * h * Sm be M) := by
  have H0 := Sm_nr (a := fun i => sg (i + o) * mo (x + h) i) (b := fun i => sg (i + o) * Ti x h i) (e := fun i => h * h * h * h * be i) (fun i => by
    obtain ⟨a, b⟩ := shift_mo hx hh h1 i
    have hn : 0 ≤ h * h * h * h * be i := Rat.mul_nonneg (Rat.mul_nonneg (Rat.mul_nonneg (Rat.mul_nonneg hh hh) hh) hh) (be_nonneg i)
    generalize h * h * h * h * be i = e at *
    rcases sg_bd (i + o) with s | s | s <;> simp only [s] <;> constructor <;> grind) M
  rw [Sm_scale] at H0
  have e : Sm (fun i => sg (i + o) * Ti x h i) M = Gk x 0 o M + h * Gk x 1 o M + h * h / 2 * Gk x 2 o M + h * h * h / 6 * Gk x 3 o M := by
    unfold Gk
    rw [← Sm_lin]
    refine Sm_congr (fun i => ?_) M
    unfold Ti
    grind
  rw [e, Gk_eq, Gk_eq, Gk_eq, Gk_eq] at H0
  exact H0
theorem Fs_two (o M : Nat) (x : Rat) : Fs (o + 2) M x = - Fs o M x := by
  unfold Fs
  have := Sm_scale (fun i => sg (i + o) * mo x i) (-1) M
  rw [show -Sm (fun i => sg (i + o) * mo x i) M = -1 * Sm (fun i => sg (i + o) * mo x i) M by grind, ← this]
  exact Sm_congr (fun i => by rw [show i + (o + 2) = i + o + 2 by omega, sg_two]; grind) M
/-- small numbers: the i-th one is at most 2^(1 - i) -/
theorem mo_small {x : Rat} (h : 0 ≤ x) (h1 : x ≤ 1) : ∀ i, mo x (i + 1) * (2 : Rat) ^ i ≤ 1
  | 0 => by
    have := mo_le1 h h1 1
    rw [Rat.pow_zero]
    grind
  | i + 1 => by
    have ih := mo_small h h1 i
    have h2 := (mo_half h h1 (i + 1)).2 (by omega)
    have hp : 0 ≤ (2 : Rat) ^ i := Rat.pow_nonneg (by decide)
    have h3 := Rat.mul_le_mul_of_nonneg_right h2 hp
    rw [Rat.pow_succ]
    grind
theorem mo_mono {x : Rat} (h : 0 ≤ x) (h1 : x ≤ 1) (i : Nat) : ∀ j, mo x (i + j) ≤ mo x i
  | 0 => Rat.le_refl
  | j + 1 => Rat.le_trans (mo_half h h1 (i + j)).1 (mo_mono h h1 i j)
theorem mo_66 {x : Rat} (h : 0 ≤ x) (h1 : x ≤ 1) {M : Nat} (hM : 66 ≤ M) : mo x M ≤ 1 / 2 ^ 65 := by
  have h3 := mo_mono h h1 66 (M - 66)
  rw [show 66 + (M - 66) = M by omega] at h3
  refine Rat.le_trans h3 ?_
  refine Rat.le_of_mul_le_mul_right (c := 2 ^ 65) ?_ (by decide +kernel)
  rw [Rat.div_mul_cancel (by decide +kernel)]
  exact mo_small h h1 65
theorem Fs_step {x : Rat} (h : 0 ≤ x) (h1 : x ≤ 1) (o M : Nat) (hM : 66 ≤ M) : Nr (Fs o (M + 1) x) (Fs o M x) (1 / 2 ^ 65) := by
  have e : Fs o (M + 1) x = Fs o M x + sg (M + o) * mo x M := rfl
  have h3 := mo_nonneg h M
  have h6 := mo_66 h h1 hM
  rw [e]
  rcases sg_bd (M + o) with s | s | s <;> rw [s] <;> constructor <;> grind
/-- the sine, and the cosine -/
def sinP (x : Rat) : Rat := Fs 3 70 x
def cosP (x : Rat) : Rat := Fs 0 70 x
theorem Sm_be : Sm be 70 ≤ 3 / 5 := by decide +kernel
theorem nr_mul {a b e h K : Rat} (hn : Nr a b e) (h0 : 0 ≤ h) (hK : h ≤ K) (he : 0 ≤ e) : Nr (h * a) (h * b) (K * e) := by
  obtain ⟨h1, h2⟩ := hn
  have k1 : 0 ≤ h * (e - (a - b)) := Rat.mul_nonneg h0 (by grind)
  have k2 : 0 ≤ h * (e - (b - a)) := Rat.mul_nonneg h0 (by grind)
  have k3 : 0 ≤ (K - h) * e := Rat.mul_nonneg (by grind) he
  constructor <;> grind_linarith
theorem nr_comb {v s c c69 s68 c67 h sb e : Rat} (hh : 0 ≤ h) (hs : h ≤ 1 / 10000) (he : 0 ≤ e) (H : Nr v (s + h * c69 + h * h / 2 * -s68 + h * h * h / 6 * -c67) (h * h * h * h * sb))
    (hb : 0 ≤ h * h * h * h * (3 / 5 - sb)) (n1 : Nr c69 c e) (n2 : Nr s68 s (2 * e)) (n3 : Nr c67 c (3 * e)) :
    Nr v (s + h * c - h * h / 2 * s - h * h * h / 6 * c) (h * h * h * h * (3 / 5) + e / 2) := by
  have q2 : h * h ≤ 1 / 10000 := by
    have := Rat.mul_nonneg (a := h) (b := 1 / 10000 - h) hh (by grind)
    grind_linarith
  have q20 : 0 ≤ h * h := Rat.mul_nonneg hh hh
  have q3 : h * h * h ≤ 1 / 10000 := by
    have := Rat.mul_nonneg (a := h * h) (b := 1 / 10000 - h) q20 (by grind)
    grind_linarith
  have q30 : 0 ≤ h * h * h := Rat.mul_nonneg q20 hh
  obtain ⟨a1, a2⟩ := nr_mul n1 hh hs he
  obtain ⟨b1, b2⟩ := nr_mul n2 q20 q2 (by grind)
  obtain ⟨d1, d2⟩ := nr_mul n3 q30 q3 (by grind)
  obtain ⟨H1, H2⟩ := H
  constructor <;> grind_linarith
theorem nr_trans {a b c e f : Rat} (h1 : Nr a b e) (h2 : Nr b c f) : Nr a c (e + f) := by unfold Nr at *; constructor <;> grind
theorem nr_neg {a b e : Rat} (h : Nr a b e) : Nr (-a) (-b) e := by unfold Nr at *; constructor <;> grind
theorem nr_symm {a b e : Rat} (h : Nr a b e) : Nr b a e := ⟨h.2, h.1⟩
theorem nr_mono {a b e f : Rat} (h : Nr a b e) (hf : e ≤ f) : Nr a b f := by unfold Nr at *; constructor <;> grind
theorem be_bd {h : Rat} (hh : 0 ≤ h) : 0 ≤ h * h * h * h * (3 / 5 - Sm be 70) := Rat.mul_nonneg (Rat.mul_nonneg (Rat.mul_nonneg (Rat.mul_nonneg hh hh) hh) hh) (by have := Sm_be; grind)
/-- the sine a little further on -/
theorem sin_shift {x h : Rat} (hx : 0 ≤ x) (hh : 0 ≤ h) (h1 : x + h ≤ 1) (hs : h ≤ 1 / 10000) :
    Nr (sinP (x + h)) (sinP x + h * cosP x - h * h / 2 * sinP x - h * h * h / 6 * cosP x) (h * h * h * h * (3 / 5) + 1 / 2 ^ 65 / 2) := by
  have hx1 : x ≤ 1 := by grind
  have s1 := Fs_step hx hx1 0 69 (by omega)
  have s2 := Fs_step hx hx1 3 69 (by omega)
  have s3 := Fs_step hx hx1 3 68 (by omega)
  have s4 := Fs_step hx hx1 0 68 (by omega)
  have s5 := Fs_step hx hx1 0 67 (by omega)
  refine nr_comb hh hs (by decide +kernel) ?_ (be_bd hh) (nr_symm s1) (nr_mono (nr_trans (nr_symm s3) (nr_symm s2)) (by decide +kernel)) (nr_mono (nr_trans (nr_symm s5) (nr_trans (nr_symm s4) (nr_symm s1))) (by decide +kernel))
  have H := shift_F hx hh h1 3 70
  have e1 : Fs 4 69 x = Fs 0 69 x := by rw [Fs_two 2, Fs_two 0]; grind
  have e2 : Fs 5 68 x = - Fs 3 68 x := Fs_two 3 68 x
  have e3 : Fs 6 67 x = - Fs 0 67 x := by rw [Fs_two 4, Fs_two 2, Fs_two 0]; grind
  rw [show 3 + 1 = 4 from rfl, show 3 + 2 = 5 from rfl, show 3 + 3 = 6 from rfl, show 70 - 1 = 69 from rfl, show 70 - 2 = 68 from rfl, show 70 - 3 = 67 from rfl, e1, e2, e3] at H
  exact H
/-- the cosine a little further on -/
theorem cos_shift {x h : Rat} (hx : 0 ≤ x) (hh : 0 ≤ h) (h1 : x + h ≤ 1) (hs : h ≤ 1 / 10000) :
    Nr (cosP (x + h)) (cosP x - h * sinP x - h * h / 2 * cosP x + h * h * h / 6 * sinP x) (h * h * h * h * (3 / 5) + 1 / 2 ^ 65 / 2) := by
  have hx1 : x ≤ 1 := by grind
  have s1 := Fs_step hx hx1 3 69 (by omega)
  have s2 := Fs_step hx hx1 0 69 (by omega)
  have s3 := Fs_step hx hx1 0 68 (by omega)
  have s4 := Fs_step hx hx1 3 68 (by omega)
  have s5 := Fs_step hx hx1 3 67 (by omega)
  have K := nr_comb (v := cosP (x + h)) (s := cosP x) (c := - sinP x) (c69 := - Fs 3 69 x) (s68 := Fs 0 68 x) (c67 := - Fs 3 67 x) hh hs (e := 1 / 2 ^ 65) (by decide +kernel) ?_ (be_bd hh) (nr_neg (nr_symm s1)) (nr_mono (nr_trans (nr_symm s3) (nr_symm s2)) (by decide +kernel)) (nr_mono (nr_neg (nr_trans (nr_symm s5) (nr_trans (nr_symm s4) (nr_symm s1)))) (by decide +kernel))
  · rw [show cosP x - h * sinP x - h * h / 2 * cosP x + h * h * h / 6 * sinP x = cosP x + h * -sinP x - h * h / 2 * cosP x - h * h * h / 6 * -sinP x by grind]
    exact K
  · have H := shift_F hx hh h1 0 70
    have e1 : Fs 1 69 x = - Fs 3 69 x := by rw [Fs_two 1]; grind
    have e2 : Fs 2 68 x = - Fs 0 68 x := Fs_two 0 68 x
    rw [show 0 + 1 = 1 from rfl, show 0 + 2 = 2 from rfl, show 0 + 3 = 3 from rfl, show 70 - 1 = 69 from rfl, show 70 - 2 = 68 from rfl, show 70 - 3 = 67 from rfl, e1, e2] at H
    rw [show - - Fs 3 67 x = Fs 3 67 x by grind]
    exact H
end Go.Proofs.YtifdgdgfmjfbdaaGreat.Trig
