/- Plain: the quick sines of all angles are far from whole numbers. No program in sight. -/
import Derived.Test.YtbpnacacnncopaaGreatDoorHShelfT
set_option linter.unusedVariables false
set_option linter.unusedSimpArgs false
namespace Go.Proofs.YtbpnacacnncopaaGreatDoor.Trig
/-- the alternating sum of n numbers, from the m-th on, each second -/
def alt (x : Rat) : Nat → Nat → Rat
  | _, 0 => 0
  | m, n + 1 => mo x m - alt x (m + 2) n
/-- what is missing from the first one -/
def mis (x : Rat) : Nat → Nat → Rat
  | _, 0 => 0
  | m, n + 1 => x * x / (((m : Rat) + 1) * ((m : Rat) + 2)) * (1 - mis x (m + 2) n)
theorem mo_two (x : Rat) (m : Nat) : mo x (m + 2) = mo x m * (x * x / (((m : Rat) + 1) * ((m : Rat) + 2))) := by
  have h := c0 m
  rw [mo, mo]
  push_cast
  have h1 : (m : Rat) + 1 ≠ 0 := by grind
  have h2 : (m : Rat) + 1 + 1 ≠ 0 := by grind
  have h3 : ((m : Rat) + 1) * ((m : Rat) + 2) ≠ 0 := by
    intro e
    rcases Rat.mul_eq_zero.1 e with e | e <;> grind
  grind
theorem alt_mis (x : Rat) : ∀ (n m : Nat), alt x m (n + 1) = mo x m * (1 - mis x m n)
  | 0, m => by simp [alt, mis]; grind
  | n + 1, m => by
    rw [alt, alt_mis x n (m + 2), mo_two, mis]
    grind
def Gs (x : Rat) (o m M : Nat) : Rat := Sm (fun i => sg (i + o) * mo x (i + m)) M
theorem Gs_front (x : Rat) (o m M : Nat) : Gs x o m (M + 1) = sg o * mo x m + Gs x (o + 1) (m + 1) M := by
  unfold Gs
  rw [Sm_front]
  simp only [Nat.zero_add]
  congr 1
  exact Sm_congr (fun i => by rw [show i + 1 + o = i + (o + 1) by omega, show i + 1 + m = i + (m + 1) by omega]) M
theorem Gs_two (x : Rat) (o m M : Nat) : Gs x (o + 2) m M = - Gs x o m M := by
  unfold Gs
  have := Sm_scale (fun i => sg (i + o) * mo x (i + m)) (-1) M
  rw [show -Sm (fun i => sg (i + o) * mo x (i + m)) M = -1 * Sm (fun i => sg (i + o) * mo x (i + m)) M by grind, ← this]
  exact Sm_congr (fun i => by rw [show i + (o + 2) = i + o + 2 by omega, sg_two]; grind) M
theorem Gs_alt (x : Rat) : ∀ (n m : Nat), Gs x 0 m (2 * n) = alt x m n
  | 0, m => by simp [Gs, alt, Sm]
  | n + 1, m => by
    rw [show 2 * (n + 1) = 2 * n + 1 + 1 by omega, Gs_front, Gs_front, Gs_two, Gs_alt x n, alt]
    simp [sg]
    grind
theorem cos_alt (x : Rat) : cosP x = alt x 0 35 := by
  have := Gs_alt x 35 0
  rw [← this]
  unfold cosP Fs Gs
  exact Sm_congr (fun i => by simp) _
theorem sin_alt (x : Rat) : sinP x = alt x 1 35 := by
  have h1 := Gs_alt x 35 1
  rw [← h1]
  have e : sinP x = Gs x 3 0 70 := by
    unfold sinP Fs Gs
    exact Sm_congr (fun i => by simp) _
  have e2 : Gs x 0 1 (2 * 35) = Gs x 0 1 69 + sg (69 + 0) * mo x (69 + 1) := rfl
  have e3 : sg (69 + 0) = 0 := by decide +kernel
  have e4 : sg 3 = 0 := by decide +kernel
  rw [e, show 70 = 69 + 1 from rfl, Gs_front x 3 0 69, show 3 + 1 = 2 + 2 from rfl, Gs_two, show 2 = 0 + 2 from rfl, Gs_two, e2, e3, e4]
  grind
/-! ### the quick sine -/
/-- the reference's product of two numbers -/
def hiN (a b : Nat) : Nat := a / 2147483648 * (b / 2147483648) + a / 2147483648 * (b % 2147483648) / 2147483648 + a % 2147483648 * (b / 2147483648) / 2147483648
theorem hi_lin {a1 a0 b1 b0 p q M : Nat} (hp1 : p * M ≤ a1 * b0) (hp2 : a1 * b0 < p * M + M) (hq1 : q * M ≤ a0 * b1) (hq2 : a0 * b1 < q * M + M) (h00 : a0 * b0 < M * M) :
    (a1 * b1 + p + q) * (M * M) ≤ (a1 * M + a0) * (b1 * M + b0) ∧ (a1 * M + a0) * (b1 * M + b0) < (a1 * b1 + p + q + 3) * (M * M) := by
  have k1 := Nat.mul_le_mul_right M hp1
  have k2 := Nat.mul_le_mul_right M (Nat.le_of_lt_succ (Nat.lt_succ_of_lt hp2))
  have k3 := Nat.mul_le_mul_right M hq1
  have k4 := Nat.mul_le_mul_right M (Nat.le_of_lt_succ (Nat.lt_succ_of_lt hq2))
  constructor <;> grind
theorem hiN_bd (a b : Nat) : hiN a b * 4611686018427387904 ≤ a * b ∧ a * b < (hiN a b + 3) * 4611686018427387904 := by
  have M0 : 0 < 2147483648 := by omega
  have ha := Nat.div_add_mod' a 2147483648
  have hb := Nat.div_add_mod' b 2147483648
  have r1 := Nat.mod_lt a M0
  have r2 := Nat.mod_lt b M0
  unfold hiN
  generalize a / 2147483648 = a1 at *
  generalize a % 2147483648 = a0 at *
  generalize b / 2147483648 = b1 at *
  generalize b % 2147483648 = b0 at *
  have p1 := Nat.div_add_mod' (a1 * b0) 2147483648
  have q1 := Nat.div_add_mod' (a0 * b1) 2147483648
  have p2 := Nat.mod_lt (a1 * b0) M0
  have q2 := Nat.mod_lt (a0 * b1) M0
  have h00 : a0 * b0 < 2147483648 * 2147483648 := Nat.mul_lt_mul'' r1 r2
  have := hi_lin (a1 := a1) (a0 := a0) (b1 := b1) (b0 := b0) (p := a1 * b0 / 2147483648) (q := a0 * b1 / 2147483648) (M := 2147483648) (by omega) (by omega) (by omega) (by omega) h00
  rw [ha, hb] at this
  exact this
/-- one step of the series -/
def tm (t sq d : Nat) : Nat := hiN t sq / (d * (d + 1))
/-- the terms of a series, in pairs -/
def qgo (sq : Nat) : Nat → Nat → Nat → Nat
  | 0, _, _ => 0
  | f + 1, t, d => if t = 0 then 0 else t - tm t sq d + qgo sq f (tm (tm t sq d) sq (d + 2)) (d + 4)
def arcN (r : Nat) : Nat := r * 2620088056 * 512 + r * 658911831 / 4194304
def quickN (r : Nat) (cos : Bool) : Nat :=
  if cos then qgo (hiN (arcN r) (arcN r)) 17 4611686018427387904 1 else qgo (hiN (arcN r) (arcN r)) 17 (arcN r) 2
abbrev Y : Rat := 4611686018427387904
theorem step_err {t sq c q hi : Nat} {x mx e μ : Rat} (hx : 0 ≤ x) (hx1 : x ≤ 4 / 5) (hsq : Nr (sq : Rat) (x * x * Y) 8) (h1 : hi * 4611686018427387904 ≤ t * sq) (h2 : t * sq < (hi + 3) * 4611686018427387904)
    (hc : 0 < c) (hq1 : q * c ≤ hi) (hq2 : hi < q * c + c) (ht : Nr (t : Rat) (mx * Y) e) (he : 0 ≤ e) (hm0 : 0 ≤ mx) (hm : mx ≤ μ) : Nr (q : Rat) (mx * (x * x / (c : Rat)) * Y) ((2 / 3 * e + 8 * μ + 3) / (c : Rat) + 1) := by
  have H1 : (hi : Rat) * Y ≤ t * sq := by unfold Y; exact_mod_cast h1
  have H2 : (t : Rat) * sq ≤ (hi + 3) * Y := by unfold Y; exact_mod_cast Nat.le_of_lt h2
  have C : (0 : Rat) < c := by exact_mod_cast hc
  have Q1 : (q : Rat) * c ≤ hi := by exact_mod_cast hq1
  have Q2 : (hi : Rat) ≤ q * c + c := by exact_mod_cast Nat.le_of_lt hq2
  have y1 : x * x ≤ 16 / 25 := by
    have := Rat.mul_nonneg (a := 4 / 5 - x) (b := 4 / 5 + x) (by grind) (by grind)
    grind_linarith
  have y0 : 0 ≤ x * x := Rat.mul_nonneg hx hx
  obtain ⟨s1, s2⟩ := hsq
  have sq0 : (0 : Rat) ≤ sq := c0 sq
  have sqb : (sq : Rat) ≤ 2 / 3 * Y := by unfold Y at *; grind
  obtain ⟨t1, t2⟩ := ht
  have a1 : 0 ≤ (sq : Rat) * (e - (t - mx * Y)) := Rat.mul_nonneg sq0 (by grind)
  have a2 : 0 ≤ (sq : Rat) * (e - (mx * Y - t)) := Rat.mul_nonneg sq0 (by grind)
  have a3 : 0 ≤ e * (2 / 3 * Y - sq) := Rat.mul_nonneg he (by grind)
  have a4 : 0 ≤ mx * (8 - (sq - x * x * Y)) := Rat.mul_nonneg hm0 (by grind)
  have a5 : 0 ≤ mx * (8 - (x * x * Y - sq)) := Rat.mul_nonneg hm0 (by grind)
  generalize x * x = y at *
  have U : (hi : Rat) ≤ mx * y * Y + (2 / 3 * e + 8 * μ) := by
    unfold Y at *
    grind_linarith
  have L : mx * y * Y - (2 / 3 * e + 8 * μ) - 3 ≤ hi := by
    unfold Y at *
    grind_linarith
  have hcc : (c : Rat) ≠ 0 := by grind
  constructor
  · refine Rat.le_of_mul_le_mul_right (c := (c : Rat)) ?_ C
    have e1 : (↑q - mx * (y / ↑c) * Y) * (c : Rat) = q * c - mx * y * Y := by grind
    have e2 : ((2 / 3 * e + 8 * μ + 3) / (c : Rat) + 1) * c = (2 / 3 * e + 8 * μ + 3) + c := by grind
    rw [e1, e2]
    grind
  · refine Rat.le_of_mul_le_mul_right (c := (c : Rat)) ?_ C
    have e1 : (mx * (y / ↑c) * Y - ↑q) * (c : Rat) = mx * y * Y - q * c := by grind
    have e2 : ((2 / 3 * e + 8 * μ + 3) / (c : Rat) + 1) * c = (2 / 3 * e + 8 * μ + 3) + c := by grind
    rw [e1, e2]
    grind
theorem alt_bd {x : Rat} (h : 0 ≤ x) (h1 : x ≤ 1) : ∀ (n m : Nat), 0 ≤ alt x m n ∧ alt x m n ≤ mo x m
  | 0, m => by simp [alt]; exact mo_nonneg h m
  | n + 1, m => by
    obtain ⟨a, b⟩ := alt_bd h h1 n (m + 2)
    have h2 := mo_mono h h1 m 2
    rw [alt]
    constructor <;> grind
theorem alt_last {x : Rat} (h : 0 ≤ x) : ∀ (n m : Nat), Nr (alt x m (n + 1)) (alt x m n) (mo x (m + 2 * n))
  | 0, m => by
    have := mo_nonneg h m
    simp [alt, Nr]
    grind
  | n + 1, m => by
    have := alt_last h n (m + 2)
    rw [show m + 2 + 2 * n = m + 2 * (n + 1) by omega] at this
    rw [alt, show alt x m (n + 1) = mo x m - alt x (m + 2) n from rfl]
    unfold Nr at *
    grind
theorem tm_err {t sq m : Nat} {x e μ : Rat} (hx : 0 ≤ x) (hx1 : x ≤ 4 / 5) (hsq : Nr (sq : Rat) (x * x * Y) 8) (ht : Nr (t : Rat) (mo x m * Y) e) (he : 0 ≤ e) (hm : mo x m ≤ μ) :
    Nr ((tm t sq (m + 1) : Nat) : Rat) (mo x (m + 2) * Y) ((2 / 3 * e + 8 * μ + 3) / (((m : Rat) + 1) * ((m : Rat) + 2)) + 1) := by
  obtain ⟨h1, h2⟩ := hiN_bd t sq
  have hc : 0 < (m + 1) * (m + 1 + 1) := Nat.mul_pos (by omega) (by omega)
  have hq := Nat.div_add_mod' (hiN t sq) ((m + 1) * (m + 1 + 1))
  have hr := Nat.mod_lt (hiN t sq) hc
  have := step_err (q := tm t sq (m + 1)) hx hx1 hsq h1 h2 hc (by unfold tm; omega) (by unfold tm; omega) ht he (mo_nonneg hx m) hm
  rw [mo_two]
  have e : (((m + 1) * (m + 1 + 1) : Nat) : Rat) = ((m : Rat) + 1) * ((m : Rat) + 2) := by push_cast; grind
  rw [e] at this
  exact this
theorem tm_le {t sq m : Nat} (hsq : sq ≤ 4611686018427387904) : tm t sq (m + 1) ≤ t := by
  obtain ⟨h1, -⟩ := hiN_bd t sq
  have h3 : t * sq ≤ t * 4611686018427387904 := Nat.mul_le_mul_left t hsq
  have h4 : hiN t sq ≤ t := Nat.le_of_mul_le_mul_right (Nat.le_trans h1 h3) (by omega)
  exact Nat.le_trans (Nat.div_le_self _ _) h4
theorem sq_le {sq : Nat} {x : Rat} (hx : 0 ≤ x) (hx1 : x ≤ 4 / 5) (hsq : Nr (sq : Rat) (x * x * Y) 8) : sq ≤ 3074457345618258602 := by
  have y1 : x * x ≤ 16 / 25 := by
    have := Rat.mul_nonneg (a := 4 / 5 - x) (b := 4 / 5 + x) (by grind) (by grind)
    grind_linarith
  obtain ⟨s1, s2⟩ := hsq
  have : (sq : Rat) ≤ ((3074457345618258602 : Nat) : Rat) := by unfold Y at *; push_cast; grind
  exact_mod_cast this
theorem mo_le_half {x : Rat} (h : 0 ≤ x) (h1 : x ≤ 1) {m : Nat} (hm : 2 ≤ m) : mo x m ≤ 1 / 2 := by
  have a := (mo_half h h1 1).2 (by omega)
  have b := mo_le1 h h1 1
  have c := mo_mono h h1 2 (m - 2)
  rw [show 2 + (m - 2) = m by omega] at c
  grind
theorem err_small {m : Nat} (hm : 2 ≤ m) {e : Rat} (he : e ≤ 13 / 2) : (2 / 3 * e + 8 * (1 / 2) + 3) / (((m : Rat) + 1) * ((m : Rat) + 2)) + 1 ≤ 2 := by
  have h : (2 : Rat) ≤ m := by exact_mod_cast hm
  have hp : 12 ≤ ((m : Rat) + 1) * ((m : Rat) + 2) := by
    have := Rat.mul_nonneg (a := (m : Rat) - 2) (b := (m : Rat) + 5) (by grind) (by grind)
    grind_linarith
  generalize ((m : Rat) + 1) * ((m : Rat) + 2) = p at *
  refine Rat.le_of_mul_le_mul_right (c := p) ?_ (by grind)
  have e1 : ((2 / 3 * e + 8 * (1 / 2) + 3) / p + 1) * p = (2 / 3 * e + 8 * (1 / 2) + 3) + p := by
    have : p ≠ 0 := by grind
    grind
  rw [e1]
  grind
theorem qgo_pair {sq m t f : Nat} {x e e1 e2 : Rat} (h0 : t ≠ 0) (hsq : sq ≤ 4611686018427387904) (h1 : Nr (t : Rat) (mo x m * Y) e) (h2 : Nr ((tm t sq (m + 1) : Nat) : Rat) (mo x (m + 2) * Y) e1)
    (h3 : Nr ((qgo sq f (tm (tm t sq (m + 1)) sq (m + 2 + 1)) (m + 4 + 1) : Nat) : Rat) (alt x (m + 4) (2 * f) * Y) e2) :
    Nr ((qgo sq (f + 1) t (m + 1) : Nat) : Rat) (alt x m (2 * (f + 1)) * Y) (e + e1 + e2) := by
  have hl := tm_le (t := t) (m := m) hsq
  rw [qgo, if_neg h0, show 2 * (f + 1) = 2 * f + 1 + 1 by omega, alt, alt]
  rw [show m + 1 + 2 = m + 2 + 1 by omega, show m + 1 + 4 = m + 4 + 1 by omega]
  rw [Rat.natCast_add]
  have hc : ((t - tm t sq (m + 1) : Nat) : Rat) = (t : Rat) - ((tm t sq (m + 1) : Nat) : Rat) := by
    have : (t : Rat) = ((t - tm t sq (m + 1) : Nat) : Rat) + ((tm t sq (m + 1) : Nat) : Rat) := by
      rw [← Rat.natCast_add]
      congr 1
      omega
    grind
  rw [hc]
  unfold Nr at *
  constructor <;> grind
theorem qgo_err {sq : Nat} {x : Rat} (hx : 0 ≤ x) (hx1 : x ≤ 4 / 5) (hsq : Nr (sq : Rat) (x * x * Y) 8) : ∀ (f m t : Nat), 2 ≤ m → Nr (t : Rat) (mo x m * Y) 2 → Nr ((qgo sq f t (m + 1) : Nat) : Rat) (alt x m (2 * f) * Y) (4 * f)
  | 0, m, t, _, _ => by
    simp [qgo, alt, Nr]
    grind
  | f + 1, m, t, hm, ht => by
    have hl := sq_le hx hx1 hsq
    have h1 : x ≤ 1 := by grind
    by_cases h0 : t = 0
    · subst h0
      obtain ⟨a, b⟩ := alt_bd hx h1 (2 * (f + 1)) m
      obtain ⟨t1, t2⟩ := ht
      have hq : qgo sq (f + 1) 0 (m + 1) = 0 := by simp [qgo]
      rw [hq]
      have hf := c0 f
      have k1 : alt x m (2 * (f + 1)) * Y ≤ mo x m * Y := Rat.mul_le_mul_of_nonneg_right b (by unfold Y; grind)
      have k2 : 0 ≤ alt x m (2 * (f + 1)) * Y := Rat.mul_nonneg a (by unfold Y; grind)
      push_cast at *
      constructor <;> grind
    · have e1 := tm_err hx hx1 hsq ht (by grind) (mo_le_half hx h1 hm)
      have e1' := nr_mono e1 (err_small hm (by grind))
      have e2 := tm_err hx hx1 hsq e1' (by grind) (mo_le_half hx h1 (show 2 ≤ m + 2 by omega))
      have e2' := nr_mono e2 (err_small (show 2 ≤ m + 2 by omega) (by grind))
      have e3 := qgo_err hx hx1 hsq f (m + 4) _ (by omega) e2'
      refine nr_mono (qgo_pair h0 (by omega) ht e1' e3) ?_
      push_cast
      grind
/-- the angle of a unit -/
def PiN : Nat := 363771576891766324280234942777729862653393377328392429958772151117938894466185
def th : Rat := (PiN : Rat) / (10800000 * 2 ^ 256)
theorem th_lo : 5626596257239020119 / 2 ^ 84 ≤ th := by decide +kernel
theorem th_hi : th ≤ 5626596257239020120 / 2 ^ 84 := by decide +kernel
theorem th_bd : 0 < th ∧ th * 2700000 ≤ 4 / 5 := by decide +kernel
theorem ang_bd {r : Nat} (h : r ≤ 2700000) : 0 ≤ (r : Rat) * th ∧ (r : Rat) * th ≤ 4 / 5 := by
  obtain ⟨a, b⟩ := th_bd
  have hr : (r : Rat) ≤ 2700000 := by exact_mod_cast h
  have h0 := c0 r
  refine ⟨Rat.mul_nonneg h0 (by grind), ?_⟩
  have := Rat.mul_nonneg (a := 2700000 - (r : Rat)) (b := th) (by grind) (by grind)
  grind_linarith
theorem arcN_err {r : Nat} (h : r ≤ 2700000) : Nr (arcN r : Rat) ((r : Rat) * th * Y) 3 := by
  have a := th_lo
  have b := th_hi
  have h1 : arcN r * 4194304 ≤ r * 5626596257239020119 ∧ r * 5626596257239020119 ≤ (arcN r + 1) * 4194304 := by
    unfold arcN
    omega
  have H1 : (arcN r : Rat) * 4194304 ≤ r * 5626596257239020119 := by exact_mod_cast h1.1
  have H2 : (r : Rat) * 5626596257239020119 ≤ (arcN r + 1) * 4194304 := by exact_mod_cast h1.2
  have hr : (r : Rat) ≤ 2700000 := by exact_mod_cast h
  have h0 := c0 r
  generalize (arcN r : Rat) = A at *
  generalize (r : Rat) = R at *
  generalize th = T at *
  have a1 : 5626596257239020119 ≤ T * 19342813113834066795298816 := by grind
  have a2 : T * 19342813113834066795298816 ≤ 5626596257239020120 := by grind
  have b1 := Rat.mul_nonneg (a := R) (b := T * 19342813113834066795298816 - 5626596257239020119) h0 (by grind)
  have b2 := Rat.mul_nonneg (a := R) (b := 5626596257239020120 - T * 19342813113834066795298816) h0 (by grind)
  unfold Y
  constructor <;> grind_linarith
theorem sqN_err {r : Nat} (h : r ≤ 2700000) : Nr (hiN (arcN r) (arcN r) : Rat) ((r : Rat) * th * ((r : Rat) * th) * Y) 8 := by
  have ha := arcN_err h
  obtain ⟨x0, x1⟩ := ang_bd h
  obtain ⟨h1, h2⟩ := hiN_bd (arcN r) (arcN r)
  have H1 : (hiN (arcN r) (arcN r) : Rat) * Y ≤ arcN r * arcN r := by unfold Y; exact_mod_cast h1
  have H2 : (arcN r : Rat) * arcN r ≤ (hiN (arcN r) (arcN r) + 3) * Y := by unfold Y; exact_mod_cast Nat.le_of_lt h2
  have h0 := c0 (arcN r)
  generalize (hiN (arcN r) (arcN r) : Rat) = S at *
  generalize (arcN r : Rat) = A at *
  generalize (r : Rat) * th = x at *
  obtain ⟨a1, a2⟩ := ha
  have A1 : A ≤ 4 / 5 * Y + 3 := by unfold Y at *; grind
  have xx : x * Y + A ≤ 17 / 10 * Y := by unfold Y at *; grind
  have b1 := Rat.mul_nonneg (a := A + x * Y) (b := 3 - (A - x * Y)) (by unfold Y at *; grind) (by grind)
  have b2 := Rat.mul_nonneg (a := A + x * Y) (b := 3 - (x * Y - A)) (by unfold Y at *; grind) (by grind)
  unfold Y at *
  constructor <;> grind_linarith
theorem alt34 {x : Rat} (h : 0 ≤ x) (h1 : x ≤ 1) (m : Nat) : Nr (alt x m (2 * 17) * Y) (alt x m 35 * Y) 1 := by
  have a := alt_last h 34 m
  have b := mo_66 h h1 (show 66 ≤ m + 2 * 34 by omega)
  have c := mo_nonneg h (m + 2 * 34)
  unfold Nr Y at *
  have hq : (1 : Rat) / 2 ^ 65 * 4611686018427387904 ≤ 1 := by decide +kernel
  generalize (1 : Rat) / 2 ^ 65 = z at *
  rw [show 2 * 17 = 34 from rfl]
  constructor <;> grind
theorem quick_cos {r : Nat} (h : r ≤ 2700000) : Nr (quickN r true : Rat) (cosP ((r : Rat) * th) * Y) 75 := by
  obtain ⟨x0, x1⟩ := ang_bd h
  have hsq := sqN_err h
  have x2 : (r : Rat) * th ≤ 1 := by grind
  rw [cos_alt]
  refine nr_mono (nr_trans (b := alt ((r : Rat) * th) 0 (2 * 17) * Y) (e := 0 + 13 / 2 + 4 * 16) (f := 1) ?_ (alt34 x0 x2 0)) (by grind)
  unfold quickN
  rw [if_pos rfl]
  generalize hiN (arcN r) (arcN r) = sq at *
  have hl := sq_le x0 x1 hsq
  have h0 : Nr ((4611686018427387904 : Nat) : Rat) (mo ((r : Rat) * th) 0 * Y) 0 := by simp [mo, Nr, Y]; grind
  have e1 := tm_err x0 x1 hsq h0 (by grind) (mo_le1 x0 x2 0)
  have e1' := nr_mono e1 (f := 13 / 2) (by push_cast; decide +kernel)
  have e2 := tm_err x0 x1 hsq e1' (by grind) (mo_le_half x0 x2 (show 2 ≤ 0 + 2 by omega))
  have e2' := nr_mono e2 (err_small (show 2 ≤ 0 + 2 by omega) (by grind))
  have e3 := qgo_err x0 x1 hsq 16 (0 + 4) _ (by omega) e2'
  exact qgo_pair (by omega) (by omega) h0 e1' (by push_cast at e3; exact e3)
theorem quick_sin {r : Nat} (h : r ≤ 2700000) : Nr (quickN r false : Rat) (sinP ((r : Rat) * th) * Y) 75 := by
  obtain ⟨x0, x1⟩ := ang_bd h
  have hsq := sqN_err h
  have x2 : (r : Rat) * th ≤ 1 := by grind
  rw [sin_alt]
  refine nr_mono (nr_trans (b := alt ((r : Rat) * th) 1 (2 * 17) * Y) (e := 3 + 3 + 4 * 16) (f := 1) ?_ (alt34 x0 x2 1)) (by grind)
  have ha := arcN_err h
  unfold quickN
  rw [if_neg (by simp)]
  generalize hiN (arcN r) (arcN r) = sq at *
  have hl := sq_le x0 x1 hsq
  have hm1 : mo ((r : Rat) * th) 1 = (r : Rat) * th := by simp [mo]; grind
  have h0 : Nr ((arcN r : Nat) : Rat) (mo ((r : Rat) * th) 1 * Y) 3 := by rw [hm1]; exact ha
  by_cases hz : arcN r = 0
  · rw [hz] at h0 ⊢
    obtain ⟨a, b⟩ := alt_bd x0 x2 (2 * 17) 1
    have hq : qgo sq 17 0 2 = 0 := by simp [qgo]
    rw [hq]
    obtain ⟨-, t2⟩ := h0
    have k1 : alt ((r : Rat) * th) 1 (2 * 17) * Y ≤ mo ((r : Rat) * th) 1 * Y := Rat.mul_le_mul_of_nonneg_right b (by unfold Y; grind)
    have k2 : 0 ≤ alt ((r : Rat) * th) 1 (2 * 17) * Y := Rat.mul_nonneg a (by unfold Y; grind)
    constructor <;> grind
  · have e1 := tm_err x0 x1 hsq h0 (by grind) (show _ ≤ (4 / 5 : Rat) by rw [hm1]; exact x1)
    have e1' := nr_mono e1 (f := 3) (by push_cast; decide +kernel)
    have e2 := tm_err x0 x1 hsq e1' (by grind) (mo_le_half x0 x2 (show 2 ≤ 1 + 2 by omega))
    have e2' := nr_mono e2 (err_small (show 2 ≤ 1 + 2 by omega) (by grind))
    have e3 := qgo_err x0 x1 hsq 16 (1 + 4) _ (by omega) e2'
    exact qgo_pair hz (by omega) h0 e1' (by push_cast at e3; exact e3)
end Go.Proofs.YtbpnacacnncopaaGreatDoor.Trig
namespace Go.Proofs.YtbpnacacnncopaaGreatDoor.Trig
/-- many numbers in one -/
def pf : Nat → (Nat → Nat) → Nat
  | 0, _ => 0
  | n + 1, L => L 0 + 1461501637330902918203684832716283019655932542976 * pf n (fun j => L (j + 1))
abbrev E84 : Nat := 19342813113834066795298816
def T1 : Nat := 5626596257239020119
def T2 : Nat := T1 * T1 / (2 * E84)
def T3 : Nat := T1 * T1 * T1 / (6 * E84 * E84)
def K0 : Nat := pf 300 (fun _ => E84)
def K1 : Nat := pf 300 (fun j => T1 * j)
def K2 : Nat := pf 300 (fun j => T2 * (j * j))
def K3 : Nat := pf 300 (fun j => T3 * (j * j * j))
def KD : Nat := pf 300 (fun _ => 800 * E84)
def KM : Nat := pf 300 (fun _ => 4294967296 * E84 - 1)
def KE : Nat := pf 300 (fun _ => 4294967296 * E84 - 1600 * E84)
def KB : Nat := pf 300 (fun _ => 4294967296 * E84)
def okN (N : Nat) : Bool := Nat.beq (Nat.land (Nat.land (N + KD) KM + KE) KB) KB
def chk1 (s c : Nat) : Bool :=
  Nat.ble s 9223372036854775808 && (Nat.ble c 9223372036854775808 && (Nat.ble s (2 * c) && (okN (s * K0 + c * K1 - (s * K2 + c * K3)) && okN (c * K0 + s * K3 - (s * K1 + c * K2)))))
def chk (a : Nat) : Bool := chk1 (quickN a false) (quickN a true)
def chkAll (a : Nat) : Nat → Bool
  | 0 => true
  | n + 1 => chk (a + 300 * n) && chkAll a n
/-! ### many numbers in one -/
abbrev BB : Nat := 1461501637330902918203684832716283019655932542976
theorem BB_eq : BB = 2 ^ 160 := by decide +kernel
theorem pf_add : ∀ (n : Nat) (L M : Nat → Nat), pf n L + pf n M = pf n (fun j => L j + M j)
  | 0, _, _ => rfl
  | n + 1, L, M => by
    have := pf_add n (fun j => L (j + 1)) (fun j => M (j + 1))
    simp only [pf]
    rw [← this]
    omega
theorem pf_mul (a : Nat) : ∀ (n : Nat) (L : Nat → Nat), a * pf n L = pf n (fun j => a * L j)
  | 0, _ => by simp [pf]
  | n + 1, L => by
    have := pf_mul a n (fun j => L (j + 1))
    simp only [pf]
    rw [← this, Nat.mul_add, Nat.mul_left_comm]
theorem pf_congr : ∀ (n : Nat) (L M : Nat → Nat), (∀ j, j < n → L j = M j) → pf n L = pf n M
  | 0, _, _, _ => rfl
  | n + 1, L, M, h => by
    simp only [pf]
    rw [h 0 (by omega), pf_congr n (fun j => L (j + 1)) (fun j => M (j + 1)) (fun j hj => h _ (by omega))]
theorem pf_sub (n : Nat) (L M : Nat → Nat) (h : ∀ j, j < n → M j ≤ L j) : pf n L - pf n M = pf n (fun j => L j - M j) := by
  have e := pf_add n (fun j => L j - M j) M
  have e2 : pf n (fun j => L j - M j + M j) = pf n L := pf_congr n _ _ (fun j hj => by have := h j hj; omega)
  rw [e2] at e
  omega
theorem pf_inj : ∀ (n : Nat) (L M : Nat → Nat), (∀ j, L j < BB) → (∀ j, M j < BB) → pf n L = pf n M → ∀ j, j < n → L j = M j
  | 0, _, _, _, _, _, j, hj => by omega
  | n + 1, L, M, hL, hM, h, j, hj => by
    simp only [pf] at h
    have h0 := hL 0
    have h1 := hM 0
    have hs : pf n (fun j => L (j + 1)) = pf n (fun j => M (j + 1)) := by unfold BB at *; omega
    cases j with
    | zero => unfold BB at *; omega
    | succ j => exact pf_inj n (fun j => L (j + 1)) (fun j => M (j + 1)) (fun j => hL _) (fun j => hM _) hs j (by omega)
theorem and_two (a b x y : Nat) (ha : a < 2 ^ 160) (hb : b < 2 ^ 160) : (2 ^ 160 * x + a) &&& (2 ^ 160 * y + b) = 2 ^ 160 * (x &&& y) + (a &&& b) := by
  have hab : a &&& b < 2 ^ 160 := Nat.lt_of_le_of_lt Nat.and_le_left ha
  refine Nat.eq_of_testBit_eq fun i => ?_
  rw [Nat.testBit_and, Nat.testBit_two_pow_mul_add _ ha, Nat.testBit_two_pow_mul_add _ hb, Nat.testBit_two_pow_mul_add _ hab]
  split
  · rw [Nat.testBit_and]
  · rw [Nat.testBit_and]
theorem pf_and : ∀ (n : Nat) (L M : Nat → Nat), (∀ j, L j < BB) → (∀ j, M j < BB) → pf n L &&& pf n M = pf n (fun j => L j &&& M j)
  | 0, _, _, _, _ => by simp [pf]
  | n + 1, L, M, hL, hM => by
    have h0 := hL 0
    have h1 := hM 0
    have ih := pf_and n (fun j => L (j + 1)) (fun j => M (j + 1)) (fun j => hL _) (fun j => hM _)
    simp only [pf]
    rw [← ih]
    have e := BB_eq
    unfold BB at e h0 h1
    rw [e] at h0 h1
    rw [Nat.add_comm (L 0), Nat.add_comm (M 0), e, and_two _ _ _ _ h0 h1]
    omega
theorem okN_lanes' (L : Nat → Nat) (hL : ∀ j, L j < 2 ^ 150) (h : okN (pf 300 L) = true) : ∀ j, j < 300 → 1600 * E84 ≤ (L j + 800 * E84) % (4294967296 * E84) := by
  have e0 : 4294967296 * E84 = 2 ^ 116 := by decide +kernel
  have e1 : 2 ^ 150 + 800 * E84 < BB := by decide +kernel
  have e2 : 2 ^ 116 < BB := by decide +kernel
  have e3 : 1600 * E84 < 2 ^ 116 := by decide +kernel
  have e4 : 2 * 2 ^ 116 < BB := by decide +kernel
  unfold okN at h
  rw [Nat.beq_eq] at h
  unfold KD KM KE KB at h
  rw [pf_add] at h
  change (pf 300 (fun j => L j + 800 * E84) &&& pf 300 (fun _ => 4294967296 * E84 - 1)) + pf 300 (fun _ => 4294967296 * E84 - 1600 * E84) &&& pf 300 (fun _ => 4294967296 * E84) = pf 300 (fun _ => 4294967296 * E84) at h
  rw [e0] at h ⊢
  generalize 1600 * E84 = d at *
  generalize 800 * E84 = d' at *
  rw [pf_and _ _ _ (fun j => by have := hL j; omega) (fun j => by omega)] at h
  rw [pf_add] at h
  have m1 : ∀ x : Nat, x &&& (2 ^ 116 - 1) = x % 2 ^ 116 := fun x => Nat.and_two_pow_sub_one_eq_mod x 116
  have m2 : ∀ x : Nat, x % 2 ^ 116 < 2 ^ 116 := fun x => Nat.mod_lt _ (by decide +kernel)
  simp only [m1] at h
  rw [pf_and _ _ _ (fun j => by have := m2 (L j + d'); omega) (fun j => by omega)] at h
  have h2 := pf_inj 300 _ _ (fun j => Nat.lt_of_le_of_lt Nat.and_le_right e2) (fun j => e2) h
  intro j hj
  have h3 := h2 j hj
  have h4 := m2 (L j + d')
  refine Nat.le_of_not_lt fun hlt => ?_
  have h5 : (L j + d') % 2 ^ 116 + (2 ^ 116 - d) < 2 ^ 116 := by omega
  generalize (L j + d') % 2 ^ 116 + (2 ^ 116 - d) = z at *
  have := Nat.and_le_left (n := z) (m := 2 ^ 116)
  omega
theorem okN_lanes (L : Nat → Nat) (hL : ∀ j, j < 300 → L j < 2 ^ 150) (h : okN (pf 300 L) = true) : ∀ j, j < 300 → 1600 * E84 ≤ (L j + 800 * E84) % (4294967296 * E84) := by
  intro j hj
  have e : pf 300 L = pf 300 (fun j => if j < 300 then L j else 0) := pf_congr _ _ _ (fun j hj => by rw [if_pos hj])
  rw [e] at h
  have := okN_lanes' _ (fun j => by
    by_cases hj : j < 300
    · simp only [hj, if_true]; exact hL j hj
    · simp only [hj, if_false]; decide +kernel) h j hj
  simpa only [hj, if_true] using this
/-- the numbers of the sine, and of the cosine, j units further on -/
def lnS (s c j : Nat) : Nat := s * E84 + c * (T1 * j) - (s * (T2 * (j * j)) + c * (T3 * (j * j * j)))
def lnC (s c j : Nat) : Nat := c * E84 + s * (T3 * (j * j * j)) - (s * (T1 * j) + c * (T2 * (j * j)))
theorem T_eq : T2 = 818355253076 ∧ T3 = 79349 := by decide +kernel
theorem chk_parts {s c : Nat} (h : chk1 s c = true) : ∀ j, j < 300 → 1600 * E84 ≤ (lnS s c j + 800 * E84) % (4294967296 * E84) ∧ 1600 * E84 ≤ (lnC s c j + 800 * E84) % (4294967296 * E84) ∧
    s * (T2 * (j * j)) + c * (T3 * (j * j * j)) ≤ s * E84 + c * (T1 * j) ∧ s * (T1 * j) + c * (T2 * (j * j)) ≤ c * E84 + s * (T3 * (j * j * j)) := by
  unfold chk1 at h
  simp only [Bool.and_eq_true, Nat.ble_eq] at h
  obtain ⟨hs, hc, hsc, h1, h2⟩ := h
  have B : ∀ j, j < 300 → T1 * j ≤ 1687978877171706035700 ∧ T2 * (j * j) ≤ 73651972776840000 ∧ T3 * (j * j * j) ≤ 2142423000000 ∧ T3 * (j * j * j) ≤ T1 * j := by
    intro j hj
    have j2 : j * j ≤ 300 * 300 := Nat.mul_le_mul (by omega) (by omega)
    have j3 : j * j * j ≤ 300 * 300 * j := Nat.mul_le_mul_right j j2
    rw [T_eq.1, T_eq.2]
    unfold T1
    generalize j * j * j = x at *
    generalize j * j = y at *
    omega
  have D : ∀ j, j < 300 → s * (T2 * (j * j)) + c * (T3 * (j * j * j)) ≤ s * E84 + c * (T1 * j) ∧ s * (T1 * j) + c * (T2 * (j * j)) ≤ c * E84 + s * (T3 * (j * j * j)) ∧ s * E84 + c * (T1 * j) < 2 ^ 150 ∧ c * E84 + s * (T3 * (j * j * j)) < 2 ^ 150 := by
    intro j hj
    obtain ⟨b1, b2, b3, b4⟩ := B j hj
    generalize T1 * j = a at *
    generalize T2 * (j * j) = b at *
    generalize T3 * (j * j * j) = d at *
    have k1 := Nat.mul_le_mul_left s b2
    have k2 := Nat.mul_le_mul_left c b4
    have k3 := Nat.mul_le_mul_left s b1
    have k4 := Nat.mul_le_mul_left c b2
    have k5 := Nat.mul_le_mul_left c b1
    have k6 := Nat.mul_le_mul_left s b3
    unfold E84 at *
    have e : 2 ^ 150 = 1427247692705959881058285969449495136382746624 := by decide +kernel
    rw [e]
    generalize s * d = sd at *
    generalize c * d = cd at *
    generalize s * b = sb at *
    generalize c * b = cb at *
    generalize s * a = sa at *
    generalize c * a = ca at *
    omega
  have hS : pf 300 (lnS s c) = s * K0 + c * K1 - (s * K2 + c * K3) := by
    unfold K0 K1 K2 K3
    rw [pf_mul, pf_mul, pf_mul, pf_mul, pf_add, pf_add, pf_sub _ _ _ (fun j hj => (D j hj).1)]
    rfl
  have hC : pf 300 (lnC s c) = c * K0 + s * K3 - (s * K1 + c * K2) := by
    unfold K0 K1 K2 K3
    rw [pf_mul, pf_mul, pf_mul, pf_mul, pf_add, pf_add, pf_sub _ _ _ (fun j hj => (D j hj).2.1)]
    rfl
  rw [← hS] at h1
  rw [← hC] at h2
  have r1 := okN_lanes (lnS s c) (fun j hj => by have := D j hj; unfold lnS; omega) h1
  have r2 := okN_lanes (lnC s c) (fun j hj => by have := D j hj; unfold lnC; omega) h2
  exact fun j hj => ⟨r1 j hj, r2 j hj, (D j hj).1, (D j hj).2.1⟩
/-! ### what the numbers of a chunk are near to -/
abbrev E : Rat := 19342813113834066795298816
abbrev G : Rat := 9223372036854775808
theorem ln_near {s c S C h u1 u2 u3 v : Rat} (hs : Nr s (S * Y) 75) (hc : Nr c (C * Y) 75) (s0 : 0 ≤ s) (c0 : 0 ≤ c) (s1 : s ≤ G) (c1 : c ≤ G) (h0 : 0 ≤ h) (h1 : h ≤ 1 / 10000)
    (n1 : Nr u1 h (54000000 / E)) (n2 : Nr u2 (h * h / 2) (54000000 / E)) (n3 : Nr u3 (h * h * h / 6) (54000000 / E)) (hv : Nr v (S + h * C - h * h / 2 * S - h * h * h / 6 * C) (162 / Y)) :
    Nr (s + c * u1 - s * u2 - c * u3) (v * Y) 320 := by
  have h2 : h * h ≤ 1 / 10000 := by
    have := Rat.mul_nonneg (a := h) (b := 1 / 10000 - h) h0 (by grind)
    grind_linarith
  have h20 : 0 ≤ h * h := Rat.mul_nonneg h0 h0
  have h3 : h * h * h ≤ 1 / 10000 := by
    have := Rat.mul_nonneg (a := h * h) (b := 1 / 10000 - h) h20 (by grind)
    grind_linarith
  have h30 : 0 ≤ h * h * h := Rat.mul_nonneg h20 h0
  obtain ⟨a1, a2⟩ := nr_mul hc h0 h1 (by grind)
  obtain ⟨b1, b2⟩ := nr_mul hs h20 h2 (by grind)
  obtain ⟨d1, d2⟩ := nr_mul hc h30 h3 (by grind)
  have ez : G * (54000000 / E) ≤ 26 := by decide +kernel
  have e0 : (0 : Rat) ≤ 54000000 / E := by decide +kernel
  obtain ⟨p1, p2⟩ := nr_mono (nr_mul n1 c0 c1 e0) ez
  obtain ⟨q1, q2⟩ := nr_mono (nr_mul n2 s0 s1 e0) ez
  obtain ⟨r1, r2⟩ := nr_mono (nr_mul n3 c0 c1 e0) ez
  obtain ⟨v1, v2⟩ := nr_mul hv (h := Y) (K := Y) (by decide +kernel) (by decide +kernel) (by decide +kernel)
  have ev : Y * (162 / Y) = 162 := by decide +kernel
  rw [ev] at v1 v2
  obtain ⟨z1, z2⟩ := hs
  clear n1 n2 n3 hc hv ez e0 ev
  constructor <;> grind_linarith
theorem ln_near2 {s c S C h u1 u2 u3 v : Rat} (hs : Nr s (S * Y) 75) (hc : Nr c (C * Y) 75) (s0 : 0 ≤ s) (c0 : 0 ≤ c) (s1 : s ≤ G) (c1 : c ≤ G) (h0 : 0 ≤ h) (h1 : h ≤ 1 / 10000)
    (n1 : Nr u1 h (54000000 / E)) (n2 : Nr u2 (h * h / 2) (54000000 / E)) (n3 : Nr u3 (h * h * h / 6) (54000000 / E)) (hv : Nr v (C - h * S - h * h / 2 * C + h * h * h / 6 * S) (162 / Y)) :
    Nr (c - s * u1 - c * u2 + s * u3) (v * Y) 320 := by
  have h2 : h * h ≤ 1 / 10000 := by
    have := Rat.mul_nonneg (a := h) (b := 1 / 10000 - h) h0 (by grind)
    grind_linarith
  have h20 : 0 ≤ h * h := Rat.mul_nonneg h0 h0
  have h3 : h * h * h ≤ 1 / 10000 := by
    have := Rat.mul_nonneg (a := h * h) (b := 1 / 10000 - h) h20 (by grind)
    grind_linarith
  have h30 : 0 ≤ h * h * h := Rat.mul_nonneg h20 h0
  obtain ⟨a1, a2⟩ := nr_mul hs h0 h1 (by grind)
  obtain ⟨b1, b2⟩ := nr_mul hc h20 h2 (by grind)
  obtain ⟨d1, d2⟩ := nr_mul hs h30 h3 (by grind)
  have ez : G * (54000000 / E) ≤ 26 := by decide +kernel
  have e0 : (0 : Rat) ≤ 54000000 / E := by decide +kernel
  obtain ⟨p1, p2⟩ := nr_mono (nr_mul n1 s0 s1 e0) ez
  obtain ⟨q1, q2⟩ := nr_mono (nr_mul n2 c0 c1 e0) ez
  obtain ⟨r1, r2⟩ := nr_mono (nr_mul n3 s0 s1 e0) ez
  obtain ⟨v1, v2⟩ := nr_mul hv (h := Y) (K := Y) (by decide +kernel) (by decide +kernel) (by decide +kernel)
  have ev : Y * (162 / Y) = 162 := by decide +kernel
  rw [ev] at v1 v2
  obtain ⟨z1, z2⟩ := hc
  clear n1 n2 n3 hs hv ez e0 ev
  constructor <;> grind_linarith
theorem nr_of {a b e : Rat} (h1 : a ≤ b + e) (h2 : b ≤ a + e) : Nr a b e := by unfold Nr; constructor <;> grind
theorem u1c : Nr ((T1 : Rat) / E) th (1 / E) := by
  have a := th_lo
  have b := th_hi
  have e1 : (T1 : Rat) = 5626596257239020119 := by decide +kernel
  rw [e1]
  generalize th = t at *
  unfold E
  refine nr_of ?_ ?_ <;> grind
theorem u2c : Nr ((T2 : Rat) / E) (th * th / 2) (2 / E) := nr_of (by decide +kernel) (by decide +kernel)
theorem u1_near {j : Nat} (hj : j < 300) : Nr ((T1 : Rat) / E * j) (th * j) (54000000 / E) := by
  have a := th_lo
  have b := th_hi
  have h : (j : Rat) ≤ 300 := by exact_mod_cast Nat.le_of_lt hj
  have k := nr_mul (a := (T1 : Rat) / E) (b := th) (e := 1 / E) (h := j) (K := 300) u1c (c0 j) h (by decide +kernel)
  rw [Rat.mul_comm, Rat.mul_comm th]
  exact nr_mono k (by decide +kernel)
theorem u2_near {j : Nat} (hj : j < 300) : Nr ((T2 : Rat) / E * (j * j)) (th * j * (th * j) / 2) (54000000 / E) := by
  have h : (j : Rat) ≤ 300 := by exact_mod_cast Nat.le_of_lt hj
  have j0 := c0 j
  have h2 : (j : Rat) * j ≤ 90000 := by
    have := Rat.mul_nonneg (a := 300 - (j : Rat)) (b := 300 + (j : Rat)) (by grind) (by grind)
    grind_linarith
  have k := nr_mul (a := (T2 : Rat) / E) (b := th * th / 2) (e := 2 / E) (h := (j : Rat) * j) (K := 90000) u2c (Rat.mul_nonneg j0 j0) h2 (by decide +kernel)
  rw [show th * j * (th * j) / 2 = (j : Rat) * j * (th * th / 2) by grind, Rat.mul_comm (_ / _)]
  exact nr_mono k (by decide +kernel)
theorem u3_near {j : Nat} (hj : j < 300) : Nr ((T3 : Rat) / E * (j * j * j)) (th * j * (th * j) * (th * j) / 6) (54000000 / E) := by
  have h : (j : Rat) ≤ 300 := by exact_mod_cast Nat.le_of_lt hj
  have j0 := c0 j
  have h2 : (j : Rat) * j ≤ 90000 := by
    have := Rat.mul_nonneg (a := 300 - (j : Rat)) (b := 300 + (j : Rat)) (by grind) (by grind)
    grind_linarith
  have h3 : (j : Rat) * j * j ≤ 27000000 := by
    have a := Rat.mul_nonneg (a := 90000 - (j : Rat) * j) (b := (j : Rat)) (by grind) (by grind)
    grind_linarith
  have k := nr_mul (a := (T3 : Rat) / E) (b := th * th * th / 6) (e := 2 / E) (h := (j : Rat) * j * j) (K := 27000000) ⟨by decide +kernel, by decide +kernel⟩ (Rat.mul_nonneg (Rat.mul_nonneg j0 j0) j0) h3 (by decide +kernel)
  rw [show th * j * (th * j) * (th * j) / 6 = (j : Rat) * j * j * (th * th * th / 6) by grind, Rat.mul_comm (_ / _)]
  exact nr_mono k (by decide +kernel)
theorem h_bd {j : Nat} (hj : j < 300) : 0 ≤ th * j ∧ th * j ≤ 873 / 10000000 := by
  have h : (j : Rat) ≤ 300 := by exact_mod_cast Nat.le_of_lt hj
  have j0 := c0 j
  have t0 : 0 ≤ th := by decide +kernel
  have t1 : th * 300 ≤ 873 / 10000000 := by decide +kernel
  refine ⟨Rat.mul_nonneg t0 j0, ?_⟩
  have := Rat.mul_nonneg (a := 300 - (j : Rat)) (b := th) (by grind) t0
  grind_linarith
theorem h4_bd {h : Rat} (h0 : 0 ≤ h) (h1 : h ≤ 873 / 10000000) : h * h * h * h * (3 / 5) + 1 / 2 ^ 65 / 2 ≤ 162 / Y := by
  have k1 := Rat.mul_le_mul_of_nonneg_left h1 h0
  have k2 : h * h ≤ 873 / 10000000 * (873 / 10000000) := Rat.le_trans k1 (Rat.mul_le_mul_of_nonneg_right h1 (by decide +kernel))
  have hh : 0 ≤ h * h := Rat.mul_nonneg h0 h0
  have k3 : h * h * (h * h) ≤ 873 / 10000000 * (873 / 10000000) * (873 / 10000000 * (873 / 10000000)) := Rat.le_trans (Rat.mul_le_mul_of_nonneg_left k2 hh) (Rat.mul_le_mul_of_nonneg_right k2 (by decide +kernel))
  have e : h * h * h * h = h * h * (h * h) := by grind
  rw [e]
  generalize h * h * (h * h) = z at *
  have k4 : (873 / 10000000 * (873 / 10000000) * (873 / 10000000 * (873 / 10000000)) : Rat) * (3 / 5) + 1 / 2 ^ 65 / 2 ≤ 162 / Y := by decide +kernel
  have k5 := Rat.mul_le_mul_of_nonneg_right k3 (show (0 : Rat) ≤ 3 / 5 by decide +kernel)
  refine Rat.le_trans ?_ k4
  generalize (1 : Rat) / 2 ^ 65 / 2 = w
  grind
/-- the numbers of a chunk are near to the quick sines -/
theorem lnS_near {a j : Nat} (hj : j < 300) (ha : a + j ≤ 2700000) (hs : quickN a false ≤ 9223372036854775808) (hc : quickN a true ≤ 9223372036854775808)
    (hle : quickN a false * (T2 * (j * j)) + quickN a true * (T3 * (j * j * j)) ≤ quickN a false * E84 + quickN a true * (T1 * j)) :
    Nr (lnS (quickN a false) (quickN a true) j : Rat) ((quickN (a + j) false : Rat) * E) (395 * E) := by
  have q1 := quick_sin (r := a) (by omega)
  have q2 := quick_cos (r := a) (by omega)
  have q3 := quick_sin (r := a + j) ha
  obtain ⟨x0, x1⟩ := ang_bd (r := a) (by omega)
  obtain ⟨h0, h1⟩ := h_bd hj
  have e : ((a + j : Nat) : Rat) * th = (a : Rat) * th + th * j := by push_cast; grind
  rw [e] at q3
  have hv := nr_mono (sin_shift x0 h0 (by grind) (by grind)) (h4_bd h0 h1)
  have H1 : (quickN a false : Rat) ≤ G := by unfold G; exact_mod_cast hs
  have H2 : (quickN a true : Rat) ≤ G := by unfold G; exact_mod_cast hc
  have main := ln_near q1 q2 (c0 _) (c0 _) H1 H2 h0 (by grind) (u1_near hj) (u2_near hj) (u3_near hj) hv
  have m2 := nr_trans main (nr_symm q3)
  have hcast : (lnS (quickN a false) (quickN a true) j : Rat) = ((quickN a false : Rat) + quickN a true * ((T1 : Rat) / E * j) - quickN a false * ((T2 : Rat) / E * (j * j)) - quickN a true * ((T3 : Rat) / E * (j * j * j))) * E := by
    have e1 : (lnS (quickN a false) (quickN a true) j : Rat) + ((quickN a false * (T2 * (j * j)) + quickN a true * (T3 * (j * j * j)) : Nat) : Rat) = ((quickN a false * E84 + quickN a true * (T1 * j) : Nat) : Rat) := by
      rw [← Rat.natCast_add]
      congr 1
      unfold lnS
      omega
    push_cast at e1
    have hE : E ≠ 0 := by decide +kernel
    have : ((E84 : Nat) : Rat) = E := by decide +kernel
    grind
  rw [hcast]
  unfold Nr at *
  constructor <;> grind
theorem lnC_near {a j : Nat} (hj : j < 300) (ha : a + j ≤ 2700000) (hs : quickN a false ≤ 9223372036854775808) (hc : quickN a true ≤ 9223372036854775808)
    (hle : quickN a false * (T1 * j) + quickN a true * (T2 * (j * j)) ≤ quickN a true * E84 + quickN a false * (T3 * (j * j * j))) :
    Nr (lnC (quickN a false) (quickN a true) j : Rat) ((quickN (a + j) true : Rat) * E) (395 * E) := by
  have q1 := quick_sin (r := a) (by omega)
  have q2 := quick_cos (r := a) (by omega)
  have q3 := quick_cos (r := a + j) ha
  obtain ⟨x0, x1⟩ := ang_bd (r := a) (by omega)
  obtain ⟨h0, h1⟩ := h_bd hj
  have e : ((a + j : Nat) : Rat) * th = (a : Rat) * th + th * j := by push_cast; grind
  rw [e] at q3
  have hv := nr_mono (cos_shift x0 h0 (by grind) (by grind)) (h4_bd h0 h1)
  have H1 : (quickN a false : Rat) ≤ G := by unfold G; exact_mod_cast hs
  have H2 : (quickN a true : Rat) ≤ G := by unfold G; exact_mod_cast hc
  have main := ln_near2 q1 q2 (c0 _) (c0 _) H1 H2 h0 (by grind) (u1_near hj) (u2_near hj) (u3_near hj) hv
  have m2 := nr_trans main (nr_symm q3)
  have hcast : (lnC (quickN a false) (quickN a true) j : Rat) = ((quickN a true : Rat) - quickN a false * ((T1 : Rat) / E * j) - quickN a true * ((T2 : Rat) / E * (j * j)) + quickN a false * ((T3 : Rat) / E * (j * j * j))) * E := by
    have e1 : (lnC (quickN a false) (quickN a true) j : Rat) + ((quickN a false * (T1 * j) + quickN a true * (T2 * (j * j)) : Nat) : Rat) = ((quickN a true * E84 + quickN a false * (T3 * (j * j * j)) : Nat) : Rat) := by
      rw [← Rat.natCast_add]
      congr 1
      unfold lnC
      omega
    push_cast at e1
    have hE : E ≠ 0 := by decide +kernel
    have : ((E84 : Nat) : Rat) = E := by decide +kernel
    grind
  rw [hcast]
  unfold Nr at *
  constructor <;> grind
/-- far from every multiple of 2^32 -/
def farB (v : Nat) : Bool := Nat.ble 300 (v % 4294967296) && Nat.ble (v % 4294967296) 4294966996
theorem far_of {L v : Nat} (h : Nr (L : Rat) ((v : Rat) * E) (395 * E)) (hm : 1600 * E84 ≤ (L + 800 * E84) % (4294967296 * E84)) : farB v = true := by
  have h1 : L ≤ v * E84 + 395 * E84 := by
    have : (L : Rat) ≤ ((v * E84 + 395 * E84 : Nat) : Rat) := by
      have := h.1
      push_cast
      have e : ((E84 : Nat) : Rat) = E := by decide +kernel
      grind
    exact_mod_cast this
  have h2 : v * E84 ≤ L + 395 * E84 := by
    have : ((v * E84 : Nat) : Rat) ≤ ((L + 395 * E84 : Nat) : Rat) := by
      have := h.2
      push_cast
      have e : ((E84 : Nat) : Rat) = E := by decide +kernel
      grind
    exact_mod_cast this
  unfold farB
  rw [Bool.and_eq_true, Nat.ble_eq, Nat.ble_eq]
  unfold E84 at *
  omega
theorem chk_far {a : Nat} (h : chk a = true) (j : Nat) (hj : j < 300) (ha : a + j ≤ 2700000) : farB (quickN (a + j) false) = true ∧ farB (quickN (a + j) true) = true := by
  obtain ⟨p1, p2, p3, p4⟩ := chk_parts h j hj
  have hh := h
  unfold chk chk1 at hh
  simp only [Bool.and_eq_true, Nat.ble_eq] at hh
  exact ⟨far_of (lnS_near hj ha hh.1 hh.2.1 p3) p1, far_of (lnC_near hj ha hh.1 hh.2.1 p4) p2⟩
theorem chkAll_far : ∀ (n a : Nat), chkAll a n = true → ∀ r, a ≤ r → r < a + 300 * n → r ≤ 2700000 → farB (quickN r false) = true ∧ farB (quickN r true) = true
  | 0, a, _, r, h1, h2, _ => by omega
  | n + 1, a, h, r, h1, h2, h3 => by
    rw [chkAll, Bool.and_eq_true] at h
    by_cases hr : r < a + 300 * n
    · exact chkAll_far n a h.2 r h1 hr h3
    · have := chk_far h.1 (r - (a + 300 * n)) (by omega) (by omega)
      rw [show a + 300 * n + (r - (a + 300 * n)) = r by omega] at this
      exact this
end Go.Proofs.YtbpnacacnncopaaGreatDoor.Trig
namespace Go.Proofs.YtbpnacacnncopaaGreatDoor.Trig
theorem far0 : chkAll 1 1000 = true := by decide +kernel
theorem far1 : chkAll 300001 1000 = true := by decide +kernel
theorem far2 : chkAll 600001 1000 = true := by decide +kernel
theorem far3 : chkAll 900001 1000 = true := by decide +kernel
theorem far4 : chkAll 1200001 1000 = true := by decide +kernel
theorem far5 : chkAll 1500001 999 = true := by decide +kernel
theorem far6 : chkAll 1799700 1 = true := by decide +kernel
theorem far7 : chkAll 1800001 1000 = true := by decide +kernel
theorem far8 : chkAll 2100001 1000 = true := by decide +kernel
theorem far9 : chkAll 2400001 1000 = true := by decide +kernel
theorem farC : farB (quickN 1800000 true) = true := by decide +kernel
/-- all quick sines are far from whole numbers -/
theorem far_all {r : Nat} (h1 : 1 ≤ r) (h2 : r ≤ 2700000) : farB (quickN r true) = true ∧ (r ≠ 1800000 → farB (quickN r false) = true) := by
  have c0 := chkAll_far _ _ far0 r
  have c1 := chkAll_far _ _ far1 r
  have c2 := chkAll_far _ _ far2 r
  have c3 := chkAll_far _ _ far3 r
  have c4 := chkAll_far _ _ far4 r
  have c5 := chkAll_far _ _ far5 r
  have c6 := chkAll_far _ _ far6 r
  have c7 := chkAll_far _ _ far7 r
  have c8 := chkAll_far _ _ far8 r
  have c9 := chkAll_far _ _ far9 r
  by_cases hr : r = 1800000
  · subst hr
    exact ⟨farC, fun h => absurd rfl h⟩
  · have : farB (quickN r false) = true ∧ farB (quickN r true) = true := by
      by_cases a0 : r < 300001
      · exact c0 (by omega) (by omega) h2
      by_cases a1 : r < 600001
      · exact c1 (by omega) (by omega) h2
      by_cases a2 : r < 900001
      · exact c2 (by omega) (by omega) h2
      by_cases a3 : r < 1200001
      · exact c3 (by omega) (by omega) h2
      by_cases a4 : r < 1500001
      · exact c4 (by omega) (by omega) h2
      by_cases a5 : r < 1799701
      · exact c5 (by omega) (by omega) h2
      by_cases a6 : r < 1800000
      · exact c6 (by omega) (by omega) h2
      by_cases a7 : r < 2100001
      · exact c7 (by omega) (by omega) h2
      by_cases a8 : r < 2400001
      · exact c8 (by omega) (by omega) h2
      · exact c9 (by omega) (by omega) h2
    exact ⟨this.2, fun _ => this.1⟩
end Go.Proofs.YtbpnacacnncopaaGreatDoor.Trig
