/- Plain: alternating sums of the series, the reference's quick sine, and its error. No program in sight. -/
import Derived.Test.YtifdgdgfmjfbdaaGreatIAq
set_option linter.unusedVariables false
set_option linter.unusedSimpArgs false
namespace Go.Proofs.YtifdgdgfmjfbdaaGreat.Trig
/-- the alternating sum of n numbers, from the m-th on, each second -/
def alt (x : Rat) : Nat → Nat → Rat
  | _, 0 => 0
  | m, n + 1 => mo x m - alt x (m + 2) n
/-- what is missing from the first one -/
def mis (x : Rat) : Nat → Nat → Rat
  | _, 0 => 0
  | m, n + 1 => x * x / (((m : Rat) + 1) * ((m : Rat) + 2)) * (1 - mis x (m + 2) n)
theorem mo_two (x : Rat) (m : Nat) : mo x (m + 2) = mo x m * (x * x / (((m : Rat) + 1) * ((m : Rat) + 2))) := by
  have h := c0 m
  rw [mo, mo]
  push_cast
  have h1 : (m : Rat) + 1 ≠ 0 := by grind
  have h2 : (m : Rat) + 1 + 1 ≠ 0 := by grind
  have h3 : ((m : Rat) + 1) * ((m : Rat) + 2) ≠ 0 := by
    intro e
    rcases Rat.mul_eq_zero.1 e with e | e <;> grind
  grind
theorem alt_mis (x : Rat) : ∀ (n m : Nat), alt x m (n + 1) = mo x m * (1 - mis x m n)
  | 0, m => by simp [alt, mis]; grind
  | n + 1, m => by
    rw [alt, alt_mis x n (m + 2), mo_two, mis]
    grind
def Gs (x : Rat) (o m M : Nat) : Rat := Sm (fun i => sg (i + o) * mo x (i + m)) M
theorem Gs_front (x : Rat) (o m M : Nat) : Gs x o m (M + 1) = sg o * mo x m + Gs x (o + 1) (m + 1) M := by
  unfold Gs
  rw [Sm_front]
  simp only [Nat.zero_add]
  congr 1
  exact Sm_congr (fun i => by rw [show i + 1 + o = i + (o + 1) by omega, show i + 1 + m = i + (m + 1) by omega]) M
theorem Gs_two (x : Rat) (o m M : Nat) : Gs x (o + 2) m M = - Gs x o m M := by
  unfold Gs
  have := Sm_scale (fun i => sg (i + o) * mo x (i + m)) (-1) M
  rw [show -Sm (fun i => sg (i + o) * mo x (i + m)) M = -1 * Sm (fun i => sg (i + o) * mo x (i + m)) M by grind, ← this]
  exact Sm_congr (fun i => by rw [show i + (o + 2) = i + o + 2 by omega, sg_two]; grind) M
theorem Gs_alt (x : Rat) : ∀ (n m : Nat), Gs x 0 m (2 * n) = alt x m n
  | 0, m => by simp [Gs, alt, Sm]
  | n + 1, m => by
    rw [show 2 * (n + 1) = 2 * n + 1 + 1 by omega, Gs_front, Gs_front, Gs_two, Gs_alt x n, alt]
    simp [sg]
    grind
theorem cos_alt (x : Rat) : cosP x = alt x 0 35 := by
  have := Gs_alt x 35 0
  rw [← this]
  unfold cosP Fs Gs
  exact Sm_congr (fun i => by simp) _
theorem sin_alt (x : Rat) : sinP x = alt x 1 35 := by
  have h1 := Gs_alt x 35 1
  rw [← h1]
  have e : sinP x = Gs x 3 0 70 := by
    unfold sinP Fs Gs
    exact Sm_congr (fun i => by simp) _
  have e2 : Gs x 0 1 (2 * 35) = Gs x 0 1 69 + sg (69 + 0) * mo x (69 + 1) := rfl
  have e3 : sg (69 + 0) = 0 := by decide +kernel
  have e4 : sg 3 = 0 := by decide +kernel
  rw [e, show 70 = 69 + 1 from rfl, Gs_front x 3 0 69, show 3 + 1 = 2 + 2 from rfl, Gs_two, show 2 = 0 + 2 from rfl, Gs_two, e2, e3, e4]
  grind
/-! ### the quick sine -/
/-- the reference's product of two numbers -/
def hiN (a b : Nat) : Nat := a / 2147483648 * (b / 2147483648) + a / 2147483648 * (b % 2147483648) / 2147483648 + a % 2147483648 * (b / 2147483648) / 2147483648
theorem hi_lin {a1 a0 b1 b0 p q M : Nat} (hp1 : p * M ≤ a1 * b0) (hp2 : a1 * b0 < p * M + M) (hq1 : q * M ≤ a0 * b1) (hq2 : a0 * b1 < q * M + M) (h00 : a0 * b0 < M * M) :
    (a1 * b1 + p + q) * (M * M) ≤ (a1 * M + a0) * (b1 * M + b0) ∧ (a1 * M + a0) * (b1 * M + b0) < (a1 * b1 + p + q + 3) * (M * M) := by
  have k1 := Nat.mul_le_mul_right M hp1
  have k2 := Nat.mul_le_mul_right M (Nat.le_of_lt_succ (Nat.lt_succ_of_lt hp2))
  have k3 := Nat.mul_le_mul_right M hq1
  have k4 := Nat.mul_le_mul_right M (Nat.le_of_lt_succ (Nat.lt_succ_of_lt hq2))
  constructor <;> grind
theorem hiN_bd (a b : Nat) : hiN a b * 4611686018427387904 ≤ a * b ∧ a * b < (hiN a b + 3) * 4611686018427387904 := by
  have M0 : 0 < 2147483648 := by omega
  have ha := Nat.div_add_mod' a 2147483648
  have hb := Nat.div_add_mod' b 2147483648
  have r1 := Nat.mod_lt a M0
  have r2 := Nat.mod_lt b M0
  unfold hiN
  generalize a / 2147483648 = a1 at *
  generalize a % 2147483648 = a0 at *
  generalize b / 2147483648 = b1 at *
  generalize b % 2147483648 = b0 at *
  have p1 := Nat.div_add_mod' (a1 * b0) 2147483648
  have q1 := Nat.div_add_mod' (a0 * b1) 2147483648
  have p2 := Nat.mod_lt (a1 * b0) M0
  have q2 := Nat.mod_lt (a0 * b1) M0
  have h00 : a0 * b0 < 2147483648 * 2147483648 := Nat.mul_lt_mul'' r1 r2
  have := hi_lin (a1 := a1) (a0 := a0) (b1 := b1) (b0 := b0) (p := a1 * b0 / 2147483648) (q := a0 * b1 / 2147483648) (M := 2147483648) (by omega) (by omega) (by omega) (by omega) h00
  rw [ha, hb] at this
  exact this
/-- one step of the series -/
def tm (t sq d : Nat) : Nat := hiN t sq / (d * (d + 1))
/-- the terms of a series, in pairs -/
def qgo (sq : Nat) : Nat → Nat → Nat → Nat
  | 0, _, _ => 0
  | f + 1, t, d => if t = 0 then 0 else t - tm t sq d + qgo sq f (tm (tm t sq d) sq (d + 2)) (d + 4)
def arcN (r : Nat) : Nat := r * 2620088056 * 512 + r * 658911831 / 4194304
def quickN (r : Nat) (cos : Bool) : Nat :=
  if cos then qgo (hiN (arcN r) (arcN r)) 17 4611686018427387904 1 else qgo (hiN (arcN r) (arcN r)) 17 (arcN r) 2
abbrev Y : Rat := 4611686018427387904
theorem step_err {t sq c q hi : Nat} {x mx e μ : Rat} (hx : 0 ≤ x) (hx1 : x ≤ 4 / 5) (hsq : Nr (sq : Rat) (x * x * Y) 8) (h1 : hi * 4611686018427387904 ≤ t * sq) (h2 : t * sq < (hi + 3) * 4611686018427387904)
    (hc : 0 < c) (hq1 : q * c ≤ hi) (hq2 : hi < q * c + c) (ht : Nr (t : Rat) (mx * Y) e) (he : 0 ≤ e) (hm0 : 0 ≤ mx) (hm : mx ≤ μ) : Nr (q : Rat) (mx * (x * x / (c : Rat)) * Y) ((2 / 3 * e + 8 * μ + 3) / (c : Rat) + 1) := by
  have H1 : (hi : Rat) * Y ≤ t * sq := by unfold Y; exact_mod_cast h1
  have H2 : (t : Rat) * sq ≤ (hi + 3) * Y := by unfold Y; exact_mod_cast Nat.le_of_lt h2
  have C : (0 : Rat) < c := by exact_mod_cast hc
  have Q1 : (q : Rat) * c ≤ hi := by exact_mod_cast hq1
  have Q2 : (hi : Rat) ≤ q * c + c := by exact_mod_cast Nat.le_of_lt hq2
  have y1 : x * x ≤ 16 / 25 := by
    have := Rat.mul_nonneg (a := 4 / 5 - x) (b := 4 / 5 + x) (by grind) (by grind)
    grind_linarith
  have y0 : 0 ≤ x * x := Rat.mul_nonneg hx hx
  obtain ⟨s1, s2⟩ := hsq
  have sq0 : (0 : Rat) ≤ sq := c0 sq
  have sqb : (sq : Rat) ≤ 2 / 3 * Y := by unfold Y at *; grind
  obtain ⟨t1, t2⟩ := ht
  have a1 : 0 ≤ (sq : Rat) * (e - (t - mx * Y)) := Rat.mul_nonneg sq0 (by grind)
  have a2 : 0 ≤ (sq : Rat) * (e - (mx * Y - t)) := Rat.mul_nonneg sq0 (by grind)
  have a3 : 0 ≤ e * (2 / 3 * Y - sq) := Rat.mul_nonneg he (by grind)
  have a4 : 0 ≤ mx * (8 - (sq - x * x * Y)) := Rat.mul_nonneg hm0 (by grind)
  have a5 : 0 ≤ mx * (8 - (x * x * Y - sq)) := Rat.mul_nonneg hm0 (by grind)
  generalize x * x = y at *
  have U : (hi : Rat) ≤ mx * y * Y + (2 / 3 * e + 8 * μ) := by
    unfold Y at *
    grind_linarith
  have L : mx * y * Y - (2 / 3 * e + 8 * μ) - 3 ≤ hi := by
    unfold Y at *
    grind_linarith
  have hcc : (c : Rat) ≠ 0 := by grind
  constructor
  · refine Rat.le_of_mul_le_mul_right (c := (c : Rat)) ?_ C
    have e1 : (↑q - mx * (y / ↑c) * Y) * (c : Rat) = q * c - mx * y * Y := by grind
    have e2 : ((2 / 3 * e + 8 * μ + 3) / (c : Rat) + 1) * c = (2 / 3 * e + 8 * μ + 3) + c := by grind
    rw [e1, e2]
    grind
  · refine Rat.le_of_mul_le_mul_right (c := (c : Rat)) ?_ C
    have e1 : (mx * (y / ↑c) * Y - ↑q) * (c : Rat) = mx * y * Y - q * c := by grind
    have e2 : ((2 / 3 * e + 8 * μ + 3) / (c : Rat) + 1) * c = (2 / 3 * e + 8 * μ + 3) + c := by grind
    rw [e1, e2]
    grind
theorem alt_bd {x : Rat} (h : 0 ≤ x) (h1 : x ≤ 1) : ∀ (n m : Nat), 0 ≤ alt x m n ∧ alt x m n ≤ mo x m
  | 0, m => by simp [alt]; exact mo_nonneg h m
  | n + 1, m => by
    obtain ⟨a, b⟩ := alt_bd h h1 n (m + 2)
    have h2 := mo_mono h h1 m 2
    rw [alt]
    constructor <;> grind
theorem alt_last {x : Rat} (h : 0 ≤ x) : ∀ (n m : Nat), Nr (alt x m (n + 1)) (alt x m n) (mo x (m + 2 * n))
  | 0, m => by
    have := mo_nonneg h m
    simp [alt, Nr]
    grind
  | n + 1, m => by
    have := alt_last h n (m + 2)
    rw [show m + 2 + 2 * n = m + 2 * (n + 1) by omega] at this
    rw [alt, show alt x m (n + 1) = mo x m - alt x (m + 2) n from rfl]
    unfold Nr at *
    grind
theorem tm_err {t sq m : Nat} {x e μ : Rat} (hx : 0 ≤ x) (hx1 : x ≤ 4 / 5) (hsq : Nr (sq : Rat) (x * x * Y) 8) (ht : Nr (t : Rat) (mo x m * Y) e) (he : 0 ≤ e) (hm : mo x m ≤ μ) :
    Nr ((tm t sq (m + 1) : Nat) : Rat) (mo x (m + 2) * Y) ((2 / 3 * e + 8 * μ + 3) / (((m : Rat) + 1) * ((m : Rat) + 2)) + 1) := by
  obtain ⟨h1, h2⟩ := hiN_bd t sq
  have hc : 0 < (m + 1) * (m + 1 + 1) := Nat.mul_pos (by omega) (by omega)
  have hq := Nat.div_add_mod' (hiN t sq) ((m + 1) * (m + 1 + 1))
  have hr := Nat.mod_lt (hiN t sq) hc
  have := step_err (q := tm t sq (m + 1)) hx hx1 hsq h1 h2 hc (by unfold tm; omega) (by unfold tm; omega) ht he (mo_nonneg hx m) hm
  rw [mo_two]
  have e : (((m + 1) * (m + 1 + 1) : Nat) : Rat) = ((m : Rat) + 1) * ((m : Rat) + 2) := by push_cast; grind
  rw [e] at this
  exact this
theorem tm_le {t sq m : Nat} (hsq : sq ≤ 4611686018427387904) : tm t sq (m + 1) ≤ t := by
  obtain ⟨h1, -⟩ := hiN_bd t sq
  have h3 : t * sq ≤ t * 4611686018427387904 := Nat.mul_le_mul_left t hsq
  have h4 : hiN t sq ≤ t := Nat.le_of_mul_le_mul_right (Nat.le_trans h1 h3) (by omega)
  exact Nat.le_trans (Nat.div_le_self _ _) h4
theorem sq_le {sq : Nat} {x : Rat} (hx : 0 ≤ x) (hx1 : x ≤ 4 / 5) (hsq : Nr (sq : Rat) (x * x * Y) 8) : sq ≤ 3074457345618258602 := by
  have y1 : x * x ≤ 16 / 25 := by
    have := Rat.mul_nonneg (a := 4 / 5 - x) (b := 4 / 5 + x) (by grind) (by grind)
    grind_linarith
  obtain ⟨s1, s2⟩ := hsq
  have : (sq : Rat) ≤ ((3074457345618258602 : Nat) : Rat) := by unfold Y at *; push_cast; grind
  exact_mod_cast this
theorem mo_le_half {x : Rat} (h : 0 ≤ x) (h1 : x ≤ 1) {m : Nat} (hm : 2 ≤ m) : mo x m ≤ 1 / 2 := by
  have a := (mo_half h h1 1).2 (by omega)
  have b := mo_le1 h h1 1
  have c := mo_mono h h1 2 (m - 2)
  rw [show 2 + (m - 2) = m by omega] at c
  grind
theorem err_small {m : Nat} (hm : 2 ≤ m) {e : Rat} (he : e ≤ 13 / 2) : (2 / 3 * e + 8 * (1 / 2) + 3) / (((m : Rat) + 1) * ((m : Rat) + 2)) + 1 ≤ 2 := by
  have h : (2 : Rat) ≤ m := by exact_mod_cast hm
  have hp : 12 ≤ ((m : Rat) + 1) * ((m : Rat) + 2) := by
    have := Rat.mul_nonneg (a := (m : Rat) - 2) (b := (m : Rat) + 5) (by grind) (by grind)
    grind_linarith
  generalize ((m : Rat) + 1) * ((m : Rat) + 2) = p at *
  refine Rat.le_of_mul_le_mul_right (c := p) ?_ (by grind)
  have e1 : ((2 / 3 * e + 8 * (1 / 2) + 3) / p + 1) * p = (2 / 3 * e + 8 * (1 / 2) + 3) + p := by
    have : p ≠ 0 := by grind
    grind
  rw [e1]
  grind
theorem qgo_pair {sq m t f : Nat} {x e e1 e2 : Rat} (h0 : t ≠ 0) (hsq : sq ≤ 4611686018427387904) (h1 : Nr (t : Rat) (mo x m * Y) e) (h2 : Nr ((tm t sq (m + 1) : Nat) : Rat) (mo x (m + 2) * Y) e1)
    (h3 : Nr ((qgo sq f (tm (tm t sq (m + 1)) sq (m + 2 + 1)) (m + 4 + 1) : Nat) : Rat) (alt x (m + 4) (2 * f) * Y) e2) :
    Nr ((qgo sq (f + 1) t (m + 1) : Nat) : Rat) (alt x m (2 * (f + 1)) * Y) (e + e1 + e2) := by
  have hl := tm_le (t := t) (m := m) hsq
  rw [qgo, if_neg h0, show 2 * (f + 1) = 2 * f + 1 + 1 by omega, alt, alt]
  rw [show m + 1 + 2 = m + 2 + 1 by omega, show m + 1 + 4 = m + 4 + 1 by omega]
  rw [Rat.natCast_add]
  have hc : ((t - tm t sq (m + 1) : Nat) : Rat) = (t : Rat) - ((tm t sq (m + 1) : Nat) : Rat) := by
    have : (t : Rat) = ((t - tm t sq (m + 1) : Nat) : Rat) + ((tm t sq (m + 1) : Nat) : Rat) := by
      rw [← Rat.natCast_add]
      congr 1
      omega
    grind
  rw [hc]
  unfold Nr at *
  constructor <;> grind
theorem qgo_err {sq : Nat} {x : Rat} (hx : 0 ≤ x) (hx1 : x ≤ 4 / 5) (hsq : Nr (sq : Rat) (x * x * Y) 8) : ∀ (f m t : Nat), 2 ≤ m → Nr (t : Rat) (mo x m * Y) 2 → Nr ((qgo sq f t (m + 1) : Nat) : Rat) (alt x m (2 * f) * Y) (4 * f)
  | 0, m, t, _, _ => by
    simp [qgo, alt, Nr]
    grind
  | f + 1, m, t, hm, ht => by
    have hl := sq_le hx hx1 hsq
    have h1 : x ≤ 1 := by grind
    by_cases h0 : t = 0
    · subst h0
      obtain ⟨a, b⟩ := alt_bd hx h1 (2 * (f + 1)) m
      obtain ⟨t1, t2⟩ := ht
      have hq : qgo sq (f + 1) 0 (m + 1) = 0 := by simp [qgo]
      rw [hq]
      have hf := c0 f
      have k1 : alt x m (2 * (f + 1)) * Y ≤ mo x m * Y := Rat.mul_le_mul_of_nonneg_right b (by unfold Y; grind)
      have k2 : 0 ≤ alt x m (2 * (f + 1)) * Y := Rat.mul_nonneg a (by unfold Y; grind)
      push_cast at *
      constructor <;> grind
    · have e1 := tm_err hx hx1 hsq ht (by grind) (mo_le_half hx h1 hm)
      have e1' := nr_mono e1 (err_small hm (by grind))
      have e2 := tm_err hx hx1 hsq e1' (by grind) (mo_le_half hx h1 (show 2 ≤ m + 2 by omega))
      have e2' := nr_mono e2 (err_small (show 2 ≤ m + 2 by omega) (by grind))
      have e3 := qgo_err hx hx1 hsq f (m + 4) _ (by omega) e2'
      refine nr_mono (qgo_pair h0 (by omega) ht e1' e3) ?_
      push_cast
      grind
/-- the angle of a unit -/
def PiN : Nat := 363771576891766324280234942777729862653393377328392429958772151117938894466185
def th : Rat := (PiN : Rat) / (10800000 * 2 ^ 256)
theorem th_lo : 5626596257239020119 / 2 ^ 84 ≤ th := by decide +kernel
theorem th_hi : th ≤ 5626596257239020120 / 2 ^ 84 := by decide +kernel
theorem th_bd : 0 < th ∧ th * 2700000 ≤ 4 / 5 := by decide +kernel
theorem ang_bd {r : Nat} (h : r ≤ 2700000) : 0 ≤ (r : Rat) * th ∧ (r : Rat) * th ≤ 4 / 5 := by
  obtain ⟨a, b⟩ := th_bd
  have hr : (r : Rat) ≤ 2700000 := by exact_mod_cast h
  have h0 := c0 r
  refine ⟨Rat.mul_nonneg h0 (by grind), ?_⟩
  have := Rat.mul_nonneg (a := 2700000 - (r : Rat)) (b := th) (by grind) (by grind)
  grind_linarith
theorem arcN_err {r : Nat} (h : r ≤ 2700000) : Nr (arcN r : Rat) ((r : Rat) * th * Y) 3 := by
  have a := th_lo
  have b := th_hi
  have h1 : arcN r * 4194304 ≤ r * 5626596257239020119 ∧ r * 5626596257239020119 ≤ (arcN r + 1) * 4194304 := by
    unfold arcN
    omega
  have H1 : (arcN r : Rat) * 4194304 ≤ r * 5626596257239020119 := by exact_mod_cast h1.1
  have H2 : (r : Rat) * 5626596257239020119 ≤ (arcN r + 1) * 4194304 := by exact_mod_cast h1.2
  have hr : (r : Rat) ≤ 2700000 := by exact_mod_cast h
  have h0 := c0 r
  generalize (arcN r : Rat) = A at *
  generalize (r : Rat) = R at *
  generalize th = T at *
  have a1 : 5626596257239020119 ≤ T * 19342813113834066795298816 := by grind
  have a2 : T * 19342813113834066795298816 ≤ 5626596257239020120 := by grind
  have b1 := Rat.mul_nonneg (a := R) (b := T * 19342813113834066795298816 - 5626596257239020119) h0 (by grind)
  have b2 := Rat.mul_nonneg (a := R) (b := 5626596257239020120 - T * 19342813113834066795298816) h0 (by grind)
  unfold Y
  constructor <;> grind_linarith
theorem sqN_err {r : Nat} (h : r ≤ 2700000) : Nr (hiN (arcN r) (arcN r) : Rat) ((r : Rat) * th * ((r : Rat) * th) * Y) 8 := by
  have ha := arcN_err h
  obtain ⟨x0, x1⟩ := ang_bd h
  obtain ⟨h1, h2⟩ := hiN_bd (arcN r) (arcN r)
  have H1 : (hiN (arcN r) (arcN r) : Rat) * Y ≤ arcN r * arcN r := by unfold Y; exact_mod_cast h1
  have H2 : (arcN r : Rat) * arcN r ≤ (hiN (arcN r) (arcN r) + 3) * Y := by unfold Y; exact_mod_cast Nat.le_of_lt h2
  have h0 := c0 (arcN r)
  generalize (hiN (arcN r) (arcN r) : Rat) = S at *
  generalize (arcN r : Rat) = A at *
  generalize (r : Rat) * th = x at *
  obtain ⟨a1, a2⟩ := ha
  have A1 : A ≤ 4 / 5 * Y + 3 := by unfold Y at *; grind
  have xx : x * Y + A ≤ 17 / 10 * Y := by unfold Y at *; grind
  have b1 := Rat.mul_nonneg (a := A + x * Y) (b := 3 - (A - x * Y)) (by unfold Y at *; grind) (by grind)
  have b2 := Rat.mul_nonneg (a := A + x * Y) (b := 3 - (x * Y - A)) (by unfold Y at *; grind) (by grind)
  unfold Y at *
  constructor <;> grind_linarith
theorem alt34 {x : Rat} (h : 0 ≤ x) (h1 : x ≤ 1) (m : Nat) : Nr (alt x m (2 * 17) * Y) (alt x m 35 * Y) 1 := by
  have a := alt_last h 34 m
  have b := mo_66 h h1 (show 66 ≤ m + 2 * 34 by omega)
  have c := mo_nonneg h (m + 2 * 34)
  unfold Nr Y at *
  have hq : (1 : Rat) / 2 ^ 65 * 4611686018427387904 ≤ 1 := by decide +kernel
  generalize (1 : Rat) / 2 ^ 65 = z at *
  rw [show 2 * 17 = 34 from rfl]
  constructor <;> grind
theorem quick_cos {r : Nat} (h : r ≤ 2700000) : Nr (quickN r true : Rat) (cosP ((r : Rat) * th) * Y) 75 := by
  obtain ⟨x0, x1⟩ := ang_bd h
  have hsq := sqN_err h
  have x2 : (r : Rat) * th ≤ 1 := by grind
  rw [cos_alt]
  refine nr_mono (nr_trans (b := alt ((r : Rat) * th) 0 (2 * 17) * Y) (e := 0 + 13 / 2 + 4 * 16) (f := 1) ?_ (alt34 x0 x2 0)) (by grind)
  unfold quickN
  rw [if_pos rfl]
  generalize hiN (arcN r) (arcN r) = sq at *
  have hl := sq_le x0 x1 hsq
  have h0 : Nr ((4611686018427387904 : Nat) : Rat) (mo ((r : Rat) * th) 0 * Y) 0 := by simp [mo, Nr, Y]; grind
  have e1 := tm_err x0 x1 hsq h0 (by grind) (mo_le1 x0 x2 0)
  have e1' := nr_mono e1 (f := 13 / 2) (by push_cast; decide +kernel)
  have e2 := tm_err x0 x1 hsq e1' (by grind) (mo_le_half x0 x2 (show 2 ≤ 0 + 2 by omega))
  have e2' := nr_mono e2 (err_small (show 2 ≤ 0 + 2 by omega) (by grind))
  have e3 := qgo_err x0 x1 hsq 16 (0 + 4) _ (by omega) e2'
  exact qgo_pair (by omega) (by omega) h0 e1' (by push_cast at e3; exact e3)
theorem quick_sin {r : Nat} (h : r ≤ 2700000) : Nr (quickN r false : Rat) (sinP ((r : Rat) * th) * Y) 75 := by
  obtain ⟨x0, x1⟩ := ang_bd h
  have hsq := sqN_err h
  have x2 : (r : Rat) * th ≤ 1 := by grind
  rw [sin_alt]
  refine nr_mono (nr_trans (b := alt ((r : Rat) * th) 1 (2 * 17) * Y) (e := 3 + 3 + 4 * 16) (f := 1) ?_ (alt34 x0 x2 1)) (by grind)
  have ha := arcN_err h
  unfold quickN
  rw [if_neg (by simp)]
  generalize hiN (arcN r) (arcN r) = sq at *
  have hl := sq_le x0 x1 hsq
  have hm1 : mo ((r : Rat) * th) 1 = (r : Rat) * th := by simp [mo]; grind
  have h0 : Nr ((arcN r : Nat) : Rat) (mo ((r : Rat) * th) 1 * Y) 3 := by rw [hm1]; exact ha
  by_cases hz : arcN r = 0
  · rw [hz] at h0 ⊢
    obtain ⟨a, b⟩ := alt_bd x0 x2 (2 * 17) 1
    have hq : qgo sq 17 0 2 = 0 := by simp [qgo]
    rw [hq]
    obtain ⟨-, t2⟩ := h0
    have k1 : alt ((r : Rat) * th) 1 (2 * 17) * Y ≤ mo ((r : Rat) * th) 1 * Y := Rat.mul_le_mul_of_nonneg_right b (by unfold Y; grind)
    have k2 : 0 ≤ alt ((r : Rat) * th) 1 (2 * 17) * Y := Rat.mul_nonneg a (by unfold Y; grind)
    constructor <;> grind
  · have e1 := tm_err x0 x1 hsq h0 (by grind) (show _ ≤ (4 / 5 : Rat) by rw [hm1]; exact x1)
    have e1' := nr_mono e1 (f := 3) (by push_cast; decide +kernel)
    have e2 := tm_err x0 x1 hsq e1' (by grind) (mo_le_half x0 x2 (show 2 ≤ 1 + 2 by omega))
    have e2' := nr_mono e2 (err_small (show 2 ≤ 1 + 2 by omega) (by grind))
    have e3 := qgo_err x0 x1 hsq 16 (1 + 4) _ (by omega) e2'
    exact qgo_pair hz (by omega) h0 e1' (by push_cast at e3; exact e3)
end Go.Proofs.YtifdgdgfmjfbdaaGreat.Trig
