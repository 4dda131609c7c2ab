/- The areas of cells and of regions: sums of the parts, and their bounds. No walk. -/
import Derived.Test.YtlhdneeiikemjaaGreatGYa
import Derived.Test.YtlhdneeiikemjaaGreatGTi
import Derived.Test.YtlhdneeiikemjaaGreatGJk
set_option linter.unusedVariables false
set_option linter.unusedSimpArgs false
namespace Go.Proofs.YtlhdneeiikemjaaGreat
open Go.RowKit
/-- One times the sine of a latitude, rounded down, by the distance from the south pole -/
def fA (x : Int) : Int := Trig.loB (x - 5400000)
theorem fA_up : upOn fA := fun _ _ h0 h h1 => Trig.loB_mono (by omega) (by omega) (by omega)
theorem fA_ends : fA 0 = -1073741824 ∧ fA 10800000 = 1073741824 := by
  have := Trig.loB_poles
  unfold fA
  rw [show (0 : Int) - 5400000 = -5400000 by omega, show (10800000 : Int) - 5400000 = 5400000 by omega]
  exact this
theorem fA_all : (fA 10800000 - fA 0) * 21600000 = 1073741824 * 43200000 := by
  rw [fA_ends.1, fA_ends.2]; decide
theorem fA_bd {x : Int} (h0 : 0 ≤ x) (h1 : x ≤ 10800000) : -1073741824 ≤ fA x ∧ fA x ≤ 1073741824 := by
  have a := fA_up 0 x (by omega) h0 h1
  have b := fA_up x 10800000 h0 h1 (by omega)
  rw [fA_ends.1] at a
  rw [fA_ends.2] at b
  exact ⟨a, b⟩
theorem rows8 : (List.range 256).all (fun i => decide (fA (((i : Int) + 1) * 10800000 / 256) - fA ((i : Int) * 10800000 / 256) ≤ 16777216)) = true := by decide +kernel
theorem pw8 {l : Int} (h : 8 ≤ l) : pw l = 256 * pw (l - 8) ∧ 0 < pw (l - 8) := by
  have e : l.toNat = 8 + (l - 8).toNat := by omega
  refine ⟨?_, pw_pos _⟩
  unfold pw
  rw [e, Int.pow_add]
  simp
theorem edg_anc {l i d : Int} (hd : 0 < d) (hp : pw l = 256 * d) : edg (i * d) l = i * 10800000 / 256 := by
  unfold edg
  rw [hp, show i * d * 10800000 = i * 10800000 * d by rw [Int.mul_assoc, Int.mul_comm d, Int.mul_assoc], Int.mul_ediv_mul_of_pos_left _ _ hd]
theorem rows_lt {l r : Int} (h8 : 8 ≤ l) (h1 : l ≤ 16) (h2 : 0 ≤ r) (h3 : r < pw l) : fA (edg (r + 1) l) - fA (edg r l) ≤ 16777216 := by
  obtain ⟨hp, hd⟩ := pw8 h8
  generalize pw (l - 8) = d at *
  have q0 : 0 ≤ r / d := Int.ediv_nonneg h2 (by omega)
  have q1 : r / d < 256 := by rw [Int.ediv_lt_iff_lt_mul hd]; omega
  have q2 := Int.ediv_mul_le r (show d ≠ 0 by omega)
  have q3 := Int.lt_ediv_add_one_mul_self r hd
  generalize r / d = i at *
  have e0 := edg_anc (i := i) hd hp
  have e1 := edg_anc (i := i + 1) hd hp
  have m0 := edg_mono (i := i * d) (j := r) l q2
  have m1 := edg_mono (i := r + 1) (j := (i + 1) * d) l (by omega)
  have b0 := edg_bd (i := r) h1 h2 (by omega)
  have b1 := edg_bd (i := r + 1) h1 (by omega) (by omega)
  rw [e0] at m0
  rw [e1] at m1
  have t := List.all_eq_true.1 rows8 i.toNat (by rw [List.mem_range]; omega)
  rw [decide_eq_true_eq, show ((i.toNat : Nat) : Int) = i by omega] at t
  have u0 := fA_up (i * 10800000 / 256) (edg r l) (by omega) m0 (by have := edg_mono (i := r) (j := pw l) l (by omega); rw [edg_all] at this; exact this)
  have u1 := fA_up (edg (r + 1) l) ((i + 1) * 10800000 / 256) b1.1 m1 (by omega)
  omega
/-- the width of a cell of a fine level -/
theorem wid8 {l c : Int} (h8 : 8 ≤ l) : edg (c + 1) l - edg c l ≤ 42188 := by
  obtain ⟨hp, hd⟩ := pw8 h8
  have hq : 0 < pw l := pw_pos l
  have : (c + 1) * 10800000 / pw l ≤ (c * 10800000 + 42188 * pw l) / pw l := Int.ediv_le_ediv hq (by omega)
  rw [Int.add_mul_ediv_right _ _ (by omega)] at this
  unfold edg
  omega
theorem wid7 {l c : Int} (h0 : 0 ≤ l) (h1 : l ≤ 7) : wdL c l = wdH c l ∧ wdH c l ≤ 268435456 := by
  have hl : l = 0 ∨ l = 1 ∨ l = 2 ∨ l = 3 ∨ l = 4 ∨ l = 5 ∨ l = 6 ∨ l = 7 := by omega
  unfold wdL wdH edg
  rcases hl with rfl | rfl | rfl | rfl | rfl | rfl | rfl | rfl
  · have e : pw 0 = 1 := rfl
    rw [e]; omega
  · have e : pw 1 = 2 := rfl
    rw [e]; omega
  · have e : pw 2 = 4 := rfl
    rw [e]; omega
  · have e : pw 3 = 8 := rfl
    rw [e]; omega
  · have e : pw 4 = 16 := rfl
    rw [e]; omega
  · have e : pw 5 = 32 := rfl
    rw [e]; omega
  · have e : pw 6 = 64 := rfl
    rw [e]; omega
  · have e : pw 7 = 128 := rfl
    rw [e]; omega
theorem prod_part {H hl hh N wl wh : Int} (h0 : 0 ≤ H) (h1 : H - 1 ≤ hl) (h2 : hl ≤ H) (h3 : H ≤ hh) (h4 : hh ≤ H + 1) (H1 : H ≤ 2147483648) (w0 : 0 ≤ wl) (w1 : 43200000 * wl ≤ N * 1073741824) (w2 : N * 1073741824 ≤ 43200000 * wh) (w3 : wh ≤ wl + 1) (w4 : wh ≤ 268435481) (hD : H * (wh - wl) + 2 * wh ≤ 1073741824) :
    43200000 * mulL hl hh wl wh ≤ H * N ∧ H * N ≤ 43200000 * mulH hl hh wl wh ∧ mulH hl hh wl wh - mulL hl hh wl wh ≤ 2 ∧ mulL hl hh wl wh ≤ mulH hl hh wl wh ∧ 43200000 * mulH hl hh wl wh ≤ H * N + 4 * 43200000 := by
  have ww : wl ≤ wh := by omega
  have a1 : hl * wl ≤ H * wl := Int.mul_le_mul_of_nonneg_right h2 w0
  have a2 : (H - 1) * wl ≤ hl * wl := Int.mul_le_mul_of_nonneg_right h1 w0
  have b1 : hl * wh ≤ H * wh := Int.mul_le_mul_of_nonneg_right h2 (by omega)
  have b2 : (H - 1) * wh ≤ hl * wh := Int.mul_le_mul_of_nonneg_right h1 (by omega)
  have c1 : hh * wl ≤ (H + 1) * wl := Int.mul_le_mul_of_nonneg_right h4 w0
  have c2 : H * wl ≤ hh * wl := Int.mul_le_mul_of_nonneg_right h3 w0
  have d1 : hh * wh ≤ (H + 1) * wh := Int.mul_le_mul_of_nonneg_right h4 (by omega)
  have d2 : H * wh ≤ hh * wh := Int.mul_le_mul_of_nonneg_right h3 (by omega)
  have e1 : H * wl ≤ H * wh := Int.mul_le_mul_of_nonneg_left ww h0
  have e2 : H * (wh - wl) = H * wh - H * wl := Int.mul_sub _ _ _
  have e3 : H * (wh - wl) ≤ H * 1 := Int.mul_le_mul_of_nonneg_left (by omega) h0
  have f1 : H * (43200000 * wl) ≤ H * (N * 1073741824) := Int.mul_le_mul_of_nonneg_left w1 h0
  have f2 : H * (N * 1073741824) ≤ H * (43200000 * wh) := Int.mul_le_mul_of_nonneg_left w2 h0
  rw [Int.mul_left_comm H 43200000 wl, ← Int.mul_assoc H N] at f1
  rw [Int.mul_left_comm H 43200000 wh, ← Int.mul_assoc H N] at f2
  rw [Int.sub_mul, Int.one_mul] at a2 b2
  rw [Int.add_mul, Int.one_mul] at c1 d1
  unfold mulL mulH
  generalize H * (wh - wl) = z at *
  generalize H * N = p at *
  generalize H * wl = x at *
  generalize H * wh = y at *
  generalize hl * wl = a at *
  generalize hl * wh = b at *
  generalize hh * wl = c at *
  generalize hh * wh = d at *
  obtain ⟨m, hm⟩ : ∃ m, min a (min b (min c d)) = m := ⟨_, rfl⟩
  obtain ⟨M, hM⟩ : ∃ M, max a (max b (max c d)) = M := ⟨_, rfl⟩
  rw [hm, hM]
  have m1 : m ≤ a ∧ m ≤ d ∧ (m = a ∨ m = b ∨ m = c ∨ m = d) := by omega
  have m2 : d ≤ M ∧ (M = a ∨ M = b ∨ M = c ∨ M = d) := by omega
  clear hm hM
  have m3 : x - wh ≤ m := by omega
  have m4 : M ≤ y + wh := by omega
  have m5 : m ≤ M := by omega
  clear a2 b1 b2 c1 c2 d1 h1 h2 h3 h4 w1 w2
  obtain ⟨m1, -, -⟩ := m1
  obtain ⟨m2, -⟩ := m2
  refine ⟨by omega, by omega, by omega, by omega, by omega⟩
theorem wid_facts {N wl wh : Int} (h0 : 0 ≤ N) (h1 : N ≤ 10800001) (g1 : wl = N * 1073741824 / 43200000) (g2 : wh = -(-(N * 1073741824) / 43200000)) :
    wh ≤ wl + 1 ∧ wh ≤ 268435481 ∧ 0 ≤ wl ∧ wl ≤ wh ∧ 43200000 * wl ≤ N * 1073741824 ∧ N * 1073741824 ≤ 43200000 * wh ∧ (N ≤ 42188 → wh ≤ 1048590) := by
  refine ⟨?_, ?_, ?_, ?_, ?_, ?_, ?_⟩ <;> omega
/-- the part of a cell encloses its measure -/
theorem part_mu {x : Cl} (hx : Vl x) : 43200000 * partL x.1 x.2.1 x.2.2 ≤ mu fA x ∧ mu fA x ≤ 43200000 * partH x.1 x.2.1 x.2.2 ∧ partH x.1 x.2.1 x.2.2 - partL x.1 x.2.1 x.2.2 ≤ 2 ∧ partL x.1 x.2.1 x.2.2 ≤ partH x.1 x.2.1 x.2.2 ∧ 43200000 * partH x.1 x.2.1 x.2.2 ≤ mu fA x + 4 * 43200000 := by
  obtain ⟨l0, l1, r0, r1, c0, c1⟩ := vldB_true.1 ((vl_iff x).2 hx)
  obtain ⟨n1, n2, n3, n4, n5, n6, n7, n8⟩ := box_nums hx
  have hH8 : 8 ≤ x.1 → fA (edg (x.2.1 + 1) x.1) - fA (edg x.2.1 x.1) ≤ 16777216 := fun h => rows_lt h l1 r0 r1
  have hN8 : 8 ≤ x.1 → edg (x.2.2 + 1) x.1 - edg x.2.2 x.1 ≤ 42188 := fun h => wid8 h
  have hW7 : x.1 ≤ 7 → wdL x.2.2 x.1 = wdH x.2.2 x.1 ∧ wdH x.2.2 x.1 ≤ 268435456 := fun h => wid7 l0 h
  have up := fA_up (edg x.2.1 x.1) (edg (x.2.1 + 1) x.1) (by omega) (by omega) (by omega)
  have f0 := fA_bd (x := edg x.2.1 x.1) (by omega) (by omega)
  have f1 := fA_bd (x := edg (x.2.1 + 1) x.1) (by omega) (by omega)
  have t0 := Trig.en_lat (n := edg x.2.1 x.1 - 5400000) (by omega) (by omega)
  have t1 := Trig.en_lat (n := edg (x.2.1 + 1) x.1 - 5400000) (by omega) (by omega)
  have u0 := Trig.hiB_lo (edg x.2.1 x.1 - 5400000)
  have u1 := Trig.hiB_lo (edg (x.2.1 + 1) x.1 - 5400000)
  unfold partL partH mu
  unfold htL htH
  rw [t0.1, t0.2, t1.1, t1.2]
  have e0 : Trig.loB (edg x.2.1 x.1 - 5400000) = fA (edg x.2.1 x.1) := rfl
  have e1 : Trig.loB (edg (x.2.1 + 1) x.1 - 5400000) = fA (edg (x.2.1 + 1) x.1) := rfl
  rw [e0] at u0 ⊢
  rw [e1] at u1 ⊢
  have g1 : wdL x.2.2 x.1 = (edg (x.2.2 + 1) x.1 - edg x.2.2 x.1) * 1073741824 / 43200000 := rfl
  have g2 : wdH x.2.2 x.1 = -(-((edg (x.2.2 + 1) x.1 - edg x.2.2 x.1) * 1073741824) / 43200000) := rfl
  obtain ⟨H, hH⟩ : ∃ H, fA (edg (x.2.1 + 1) x.1) - fA (edg x.2.1 x.1) = H := ⟨_, rfl⟩
  obtain ⟨N, hN⟩ : ∃ N, edg (x.2.2 + 1) x.1 - edg x.2.2 x.1 = N := ⟨_, rfl⟩
  rw [hN] at g1 g2 hN8
  rw [hH] at hH8
  rw [hH, hN]
  generalize wdL x.2.2 x.1 = wl at *
  generalize wdH x.2.2 x.1 = wh at *
  have hN0 : 0 ≤ N ∧ N ≤ 10800001 := by omega
  have hH0 : 0 ≤ H ∧ H ≤ 2147483648 := by omega
  obtain ⟨w3, w4, w0, ww, v1, v2, v3⟩ := wid_facts hN0.1 hN0.2 g1 g2
  clear g1 g2 n1 n2 n3 n4 n5 n6 n7 n8 t0 t1 e0 e1
  have hD : H * (wh - wl) + 2 * wh ≤ 1073741824 := by
    by_cases h : x.1 ≤ 7
    · have := hW7 h
      rw [this.1, Int.sub_self, Int.mul_zero]
      omega
    · have a := hH8 (by omega)
      have b := v3 (hN8 (by omega))
      have c : H * (wh - wl) ≤ H * 1 := Int.mul_le_mul_of_nonneg_left (by omega) hH0.1
      omega
  exact prod_part hH0.1 (by omega) (by omega) (by omega) (by omega) hH0.2 w0 v1 v2 w3 w4 hD
/-- the area of a list of cells -/
def arL (L : List Cl) : Int := (L.map fun x => partL x.1 x.2.1 x.2.2).sum
def arH (L : List Cl) : Int := (L.map fun x => partH x.1 x.2.1 x.2.2).sum
theorem ar_facts : ∀ (L : List Cl), AllV L → 43200000 * arL L ≤ muS fA L ∧ muS fA L ≤ 43200000 * arH L ∧ arH L - arL L ≤ 2 * (L.length : Int) ∧ arL L ≤ arH L ∧ 43200000 * arH L ≤ muS fA L + 4 * 43200000 * (L.length : Int)
  | [], _ => by simp [arL, arH, muS]
  | x :: L, h => by
    obtain ⟨a, b, c, d, e⟩ := part_mu (h x (by simp))
    obtain ⟨a', b', c', d', e'⟩ := ar_facts L (fun y hy => h y (by simp [hy]))
    have e1 : arL (x :: L) = partL x.1 x.2.1 x.2.2 + arL L := by simp [arL]
    have e2 : arH (x :: L) = partH x.1 x.2.1 x.2.2 + arH L := by simp [arH]
    rw [muS_cons, e1, e2, List.length_cons]
    push_cast
    omega
theorem part_fv {x : Cl} (hx : Vl x) : fvB (partL x.1 x.2.1 x.2.2) (partH x.1 x.2.1 x.2.2) = true := by
  obtain ⟨a, b, c, d, e⟩ := part_mu hx
  have h0 := mu_nonneg fA_up hx
  have h1 : mu fA x ≤ 1073741824 * 43200000 := by
    have h := (mu_bd fA_up (fun q => Canon.covB [blkOf x] q)).2
    rw [one_reg hx, fA_all] at h
    simpa [muS] using h
  rw [fv_iff]
  omega
theorem take_v {L : List Cl} (h : AllV L) (k : Nat) : AllV (L.take k) := fun y hy => h y (List.mem_of_mem_take hy)
theorem reg_mu {L : List Cl} (hv : vrB L = true) : 0 ≤ muS fA L ∧ muS fA L ≤ 1073741824 * 43200000 := by
  have h := mu_bd fA_up (fun q => Canon.covB (L.map blkOf) q)
  rw [vr_reg hv, fA_all] at h
  exact h
/-- the sums of the first parts of a tidy region are valid -/
theorem ar_fv {L : List Cl} (hv : vrB L = true) (k : Nat) : fvB (arL (L.take k)) (arH (L.take k)) = true := by
  obtain ⟨h1, h2, -⟩ := (vrB_iff L).1 hv
  have hm := reg_mu hv
  have ht := muS_take fA_up L h2 k
  obtain ⟨a, b, c, d, e⟩ := ar_facts (L.take k) (take_v h2 k)
  have hl : (L.take k).length ≤ 4000 := by rw [List.length_take]; omega
  rw [fv_iff]
  omega
theorem ar_succ (L : List Cl) (k : Nat) (hk : k < L.length) : arL (L.take (k + 1)) = arL (L.take k) + partL (gt L k).1 (gt L k).2.1 (gt L k).2.2 ∧ arH (L.take (k + 1)) = arH (L.take k) + partH (gt L k).1 (gt L k).2.1 (gt L k).2.2 := by
  have e : L.take (k + 1) = L.take k ++ [gt L k] := by
    rw [List.take_succ_eq_append_getElem hk]
    simp [gt, hk]
  rw [e]
  simp [arL, arH]
end Go.Proofs.YtlhdneeiikemjaaGreat
