/- The reference's text of a valid sight. -/
import Derived.Deep.Cut
import Derived.LoopN
import Derived.BigRegion
import Derived.Deep.RegionHeld3
import Derived.Deep.CutRange
import Derived.BigQuiet
import Derived.Test.YtbpnacacnncopaaGreatDoorHYx
import Derived.Test.YtbpnacacnncopaaGreatDoorHXg
import Derived.Test.YtbpnacacnncopaaGreatDoorHIc
import Derived.Test.YtbpnacacnncopaaGreatDoorHTv
import Derived.Test.YtbpnacacnncopaaGreatDoorHXl
import Derived.Test.YtbpnacacnncopaaGreatDoorHXm
import Derived.Test.YtbpnacacnncopaaGreatDoorHIh
import Derived.Test.YtbpnacacnncopaaGreatDoorHTx
import Derived.Test.YtbpnacacnncopaaGreatDoorHXc
import Derived.Test.YtbpnacacnncopaaGreatDoorHXd
set_option linter.unusedVariables false
set_option linter.unusedSimpArgs false
namespace Go.Proofs.YtbpnacacnncopaaGreatDoor
open Go.RowKit Trig
theorem ed_mono {a b d : Int} (hd : 0 < d) (h : a ≤ b) : a / d ≤ b / d := Int.ediv_le_ediv hd h
theorem nd_mono {a b d : Int} (hd : 0 < d) (h : a ≤ b) : -(-a / d) ≤ -(-b / d) := Int.neg_le_neg (Int.ediv_le_ediv hd (Int.neg_le_neg h))
theorem sc_sub {p p' q' q n : Int} (h1 : p ≤ p') (h2 : p' ≤ q') (h3 : q' ≤ q) (n0 : 0 ≤ n) : scA p q n ≤ scA p' q' n ∧ scB p' q' n ≤ scB p q n := by
  have m1 := Int.mul_le_mul_of_nonneg_right h1 n0
  have m2 := Int.mul_le_mul_of_nonneg_right h2 n0
  have m3 := Int.mul_le_mul_of_nonneg_right h3 n0
  have hd : (0 : Int) < 1073741824 := by decide
  have a1 := ed_mono hd m1
  have a2 := ed_mono hd m2
  have b2 := nd_mono hd m2
  have b3 := nd_mono hd m3
  unfold scA scB
  exact ⟨by omega, by omega⟩
theorem tm_sub {a b p p' q' q : Int} (a0 : 0 ≤ a) (b0 : 0 ≤ b) (h1 : p ≤ p') (h2 : p' ≤ q') (h3 : q' ≤ q) : tmA a b p q ≤ tmA a b p' q' ∧ tmB a b p' q' ≤ tmB a b p q := by
  have x := sc_sub h1 h2 h3 a0
  have y := sc_sub h1 h2 h3 b0
  unfold tmA tmB
  exact ⟨by omega, by omega⟩
theorem smq_iff {a b : Int} (h : smP a b = true) : 0 ≤ a ∧ a ≤ b ∧ b ≤ 120000 := by
  unfold smP at h
  exact of_decide_eq_true h
theorem px_sub {a b lo lo' hi' hi : Int} (hs : smP a b = true) (h1 : lo ≤ lo') (h2 : lo' ≤ hi') (h3 : hi' ≤ hi) : pxA a b lo hi ≤ pxA a b lo' hi' ∧ pxB a b lo' hi' ≤ pxB a b lo hi := by
  obtain ⟨s1, s2, s3⟩ := smq_iff hs
  have e := en_sub (lo := lo + 5400000) (lo' := lo' + 5400000) (hi' := hi' + 5400000) (hi := hi + 5400000) (by omega) (by omega) (by omega)
  unfold pxA pxB
  exact tm_sub s1 (by omega) e.1 (en_le _ _).2.1 e.2
theorem mul_btw {x p t q : Int} (h1 : p ≤ t) (h2 : t ≤ q) : min (x * p) (x * q) ≤ x * t ∧ x * t ≤ max (x * p) (x * q) := by
  rcases Int.le_total 0 x with hx | hx
  · have m1 := Int.mul_le_mul_of_nonneg_left h1 hx
    have m2 := Int.mul_le_mul_of_nonneg_left h2 hx
    omega
  · have m1 := Int.mul_le_mul_of_nonpos_left hx h1
    have m2 := Int.mul_le_mul_of_nonpos_left hx h2
    omega
theorem ag_sub {c d lo lo' hi' hi : Int} (h1 : lo ≤ lo') (h2 : lo' ≤ hi') (h3 : hi' ≤ hi) : agL c d lo hi ≤ agL c d lo' hi' ∧ agH c d lo' hi' ≤ agH c d lo hi := by
  have e := en_sub h1 h2 h3
  have l := (en_le lo' hi').2.1
  unfold agL agH
  generalize enLo c d = x at *
  generalize enHi c d = y at *
  generalize enLo lo hi = p at *
  generalize enHi lo hi = q at *
  generalize enLo lo' hi' = p' at *
  generalize enHi lo' hi' = q' at *
  have a1 := mul_btw (x := x) e.1 (Int.le_trans l e.2)
  have a2 := mul_btw (x := x) (Int.le_trans e.1 l) e.2
  have a3 := mul_btw (x := y) e.1 (Int.le_trans l e.2)
  have a4 := mul_btw (x := y) (Int.le_trans e.1 l) e.2
  generalize x * p = xp at *
  generalize x * q = xq at *
  generalize y * p = yp at *
  generalize y * q = yq at *
  generalize x * p' = xp' at *
  generalize x * q' = xq' at *
  generalize y * p' = yp' at *
  generalize y * q' = yq' at *
  have hd : (0 : Int) < 1073741824 := by decide
  have k1 : min xp (min xq (min yp yq)) ≤ min xp' (min xq' (min yp' yq')) := by omega
  have k2 : max xp' (max xq' (max yp' yq')) ≤ max xp (max xq (max yp yq)) := by omega
  have j1 := ed_mono hd k1
  have j2 := nd_mono hd k2
  exact ⟨by omega, by omega⟩
theorem au_sub {a b c d lo lo' hi' hi : Int} (hs : smP a b = true) (h1 : lo ≤ lo') (h2 : lo' ≤ hi') (h3 : hi' ≤ hi) : auA a b c d lo hi ≤ auA a b c d lo' hi' ∧ auB a b c d lo' hi' ≤ auB a b c d lo hi := by
  obtain ⟨s1, s2, s3⟩ := smq_iff hs
  have e := ag_sub (c := c) (d := d) h1 h2 h3
  have t := tm_sub (a := a) (b := b) s1 (by omega) e.1 (ag_bd c d lo' hi').2.1 e.2
  unfold auA auB
  exact ⟨by omega, by omega⟩
theorem se_sub {limb a b c d lo lo' hi' hi : Int} (hs : smP a b = true) (h1 : lo ≤ lo') (h2 : lo' ≤ hi') (h3 : hi' ≤ hi) : seA limb a b c d lo hi ≤ seA limb a b c d lo' hi' ∧ seB limb a b c d lo' hi' ≤ seB limb a b c d lo hi := by
  have e := au_sub (c := c) (d := d) hs h1 h2 h3
  unfold seA seB
  split
  · exact e
  · split
    · exact ⟨by omega, by omega⟩
    · exact ⟨Int.le_refl _, Int.le_refl _⟩
/-- weather that is right -/
structure WtOk (T P : Int) : Prop where
  t0 : -500 ≤ T
  t1 : T ≤ 600
  p0 : 5000 ≤ P
  p1 : P ≤ 11000
theorem rf_sub {T P lo lo' hi' hi : Int} (h : WtOk T P) (h0 : -60000 ≤ lo) (h1 : lo ≤ lo') (h2 : lo' ≤ hi') (h3 : hi' ≤ hi) (h4 : hi ≤ 5400000) : rfL hi T P ≤ rfL hi' T P ∧ rfH lo' T P ≤ rfH lo T P := by
  obtain ⟨t0, t1, p0, p1⟩ := h
  have a := (o_anti (u := hi') (v := hi) (by omega) h3 h4).1
  have b := (o_anti (u := lo) (v := lo') h0 h1 (by omega)).2
  have k : (0 : Int) ≤ 283 * P := by omega
  have m1 := Int.mul_le_mul_of_nonneg_right a k
  have m2 := Int.mul_le_mul_of_nonneg_right (Int.neg_le_neg b) k
  have hd : (0 : Int) < 1010 * (2730 + T) := by omega
  unfold rfL rfH
  exact ⟨ed_mono hd m1, Int.neg_le_neg (ed_mono hd m2)⟩
theorem o_top : -3 ≤ oLo 5400000 := by decide +kernel
theorem rf_low {T P lo hi : Int} (h : WtOk T P) (h0 : -60000 ≤ lo) (h1 : lo ≤ hi) (h2 : hi ≤ 5400000) : -5 ≤ rfL hi T P := by
  obtain ⟨t0, t1, p0, p1⟩ := h
  have a := (o_anti (u := hi) (v := 5400000) (by omega) h2 (Int.le_refl _)).1
  have b := o_top
  have k : (0 : Int) ≤ 283 * P := by omega
  have m1 := Int.mul_le_mul_of_nonneg_right (Int.le_trans b a) k
  have hd : (0 : Int) < 1010 * (2730 + T) := by omega
  unfold rfL
  exact (Int.le_ediv_iff_mul_le hd).2 (by omega)
theorem sin2 : 0 ≤ enLo 0 120000 ∧ enHi 0 120000 ≤ 37500000 := by decide +kernel
theorem ag_top {c d lo hi : Int} (hp : smP c d = true) : agH c d lo hi ≤ 37500000 := by
  obtain ⟨s1, s2, s3⟩ := smq_iff hp
  have e := en_sub (lo := 0) (lo' := c) (hi' := d) (hi := 120000) s1 s2 s3
  have z := sin2
  have l := (en_le c d).2.1
  have t := en_le lo hi
  unfold agH
  generalize enLo c d = x at *
  generalize enHi c d = y at *
  generalize enLo lo hi = p at *
  generalize enHi lo hi = q at *
  have up : ∀ u v : Int, 0 ≤ u → u ≤ 37500000 → v ≤ 1073741824 → u * v ≤ 37500000 * 1073741824 := fun u v h1 h2 h3 => Int.le_trans (Int.mul_le_mul_of_nonneg_left h3 h1) (Int.mul_le_mul_of_nonneg_right h2 (by decide))
  have a1 := up x p (by omega) (by omega) (by omega)
  have a2 := up x q (by omega) (by omega) (by omega)
  have a3 := up y p (by omega) (by omega) (by omega)
  have a4 := up y q (by omega) (by omega) (by omega)
  generalize x * p = xp at *
  generalize x * q = xq at *
  generalize y * p = yp at *
  generalize y * q = yq at *
  have k : max xp (max xq (max yp yq)) ≤ 37500000 * 1073741824 := by omega
  have j := nd_mono (d := 1073741824) (by decide) k
  omega
theorem tm_top {a b p q : Int} (a0 : 0 ≤ a) (ab : a ≤ b) (b1 : b ≤ 120000) (p0 : 0 ≤ p) (pq : p ≤ q) (q1 : q ≤ 37500000) : tmB a b p q ≤ 4191 := by
  have up : ∀ u v : Int, 0 ≤ u → u ≤ 37500000 → 0 ≤ v → v ≤ 120000 → -(-(u * v) / 1073741824) ≤ 4191 := fun u v h1 h2 h3 h4 => by
    have m1 : u * v ≤ 37500000 * 120000 := Int.le_trans (Int.mul_le_mul_of_nonneg_left h4 h1) (Int.mul_le_mul_of_nonneg_right h2 (by decide))
    have := nd_mono (d := 1073741824) (by decide) m1
    omega
  have a1 := up p a p0 (by omega) a0 (by omega)
  have a2 := up q a (by omega) q1 a0 (by omega)
  have a3 := up p b p0 (by omega) (by omega) b1
  have a4 := up q b (by omega) q1 (by omega) b1
  unfold tmB scB
  omega
theorem se_top {limb a b c d lo hi : Int} (hs : smP a b = true) (hp : smP c d = true) : seA limb a b c d lo hi ≤ 124191 ∧ -124191 ≤ seB limb a b c d lo hi := by
  obtain ⟨s1, s2, s3⟩ := smq_iff hs
  have g := ag_bd c d lo hi
  have t := tm_top (a := a) (b := b) s1 s2 s3 g.1 g.2.1 (ag_top hp)
  have m := tm_bd (a := a) (b := b) s1 s2 g.1 g.2.1 g.2.2
  unfold seA seB auA auB
  split
  · omega
  · split <;> omega
theorem px_top {a b lo hi : Int} (hs : smP a b = true) (h0 : -5400000 ≤ lo) (h1 : lo ≤ hi) (h2 : hi ≤ 5400000) : 0 ≤ pxB a b lo hi := by
  obtain ⟨s1, s2, s3⟩ := smq_iff hs
  have e := half_en (lo := lo + 5400000) (hi := hi + 5400000) (by omega) (by omega) (by omega)
  have z : 0 ≤ enHi (lo + 5400000) (hi + 5400000) := by
    have h := (en_mid (lo := lo + 5400000) (n := hi + 5400000) (hi := hi + 5400000) (by omega) (by omega) (Int.le_refl _) (by omega)).2
    rw [half_lo (by omega) (by omega)] at h
    exact Int.le_trans (sF_bd (qrt_bd _).1 (qrt_bd _).2).1 h
  unfold pxB tmB scB
  have m1 := Int.mul_nonneg z s1
  have j := nd_mono (d := 1073741824) (by decide) m1
  omega
/-- the ends of a round: what the altitudes are, less refraction, and with parallax and semidiameter -/
def rdA (s : Sgt) (e0 e1 p0 p1 h lo hi : Int) : Int := h + rfL hi s.temp s.press - pxB p0 p1 lo hi - seB s.limb e0 e1 p0 p1 lo hi
def rdB (s : Sgt) (e0 e1 p0 p1 h lo hi : Int) : Int := h + rfH lo s.temp s.press - pxA p0 p1 lo hi - seA s.limb e0 e1 p0 p1 lo hi
/-- the altitude that is worked from an apparent one -/
def wrkA (s : Sgt) (e0 e1 p0 p1 x y : Int) : Int := x - rfH x s.temp s.press + pxA p0 p1 x y + seA s.limb e0 e1 p0 p1 x y
def wrkB (s : Sgt) (e0 e1 p0 p1 x y : Int) : Int := y - rfL y s.temp s.press + pxB p0 p1 x y + seB s.limb e0 e1 p0 p1 x y
structure DtOk (s : Sgt) (e0 e1 p0 p1 : Int) : Prop where
  wt : WtOk s.temp s.press
  se : smP e0 e1 = true
  px : smP p0 p1 = true
theorem round_has {s : Sgt} {e0 e1 p0 p1 x y lo hi h0 h1 : Int} (d : DtOk s e0 e1 p0 p1) (q0 : -60000 ≤ lo) (q1 : lo ≤ x) (q2 : x ≤ y) (q3 : y ≤ hi) (q4 : hi ≤ 5400000) (k0 : h0 ≤ wrkA s e0 e1 p0 p1 x y) (k1 : wrkB s e0 e1 p0 p1 x y ≤ h1) :
    rdA s e0 e1 p0 p1 h0 lo hi ≤ x ∧ y ≤ rdB s e0 e1 p0 p1 h1 lo hi := by
  obtain ⟨wt, hs, hp⟩ := d
  have a := rf_sub wt q0 q1 q2 q3 q4
  have b := px_sub hp q1 q2 q3
  have c := se_sub (limb := s.limb) (c := p0) (d := p1) hs q1 q2 q3
  have a' := rf_bd (lo := x) (hi := y) (by omega) q2 (by omega) wt.t0 wt.t1 wt.p0 wt.p1
  have b' := px_bd x y hp
  have c' := se_bd s.limb p0 p1 x y hs
  unfold wrkA at k0
  unfold wrkB at k1
  unfold rdA rdB
  exact ⟨by omega, by omega⟩
theorem round_mono {s : Sgt} {e0 e1 p0 p1 lo lo' hi' hi h0 h0' h1 h1' : Int} (d : DtOk s e0 e1 p0 p1) (q0 : -60000 ≤ lo) (q1 : lo ≤ lo') (q2 : lo' ≤ hi') (q3 : hi' ≤ hi) (q4 : hi ≤ 5400000) (k0 : h0 ≤ h0') (k1 : h1' ≤ h1) :
    rdA s e0 e1 p0 p1 h0 lo hi ≤ rdA s e0 e1 p0 p1 h0' lo' hi' ∧ rdB s e0 e1 p0 p1 h1' lo' hi' ≤ rdB s e0 e1 p0 p1 h1 lo hi := by
  obtain ⟨wt, hs, hp⟩ := d
  have a := rf_sub wt q0 q1 q2 q3 q4
  have b := px_sub hp q1 q2 q3
  have c := se_sub (limb := s.limb) (c := p0) (d := p1) hs q1 q2 q3
  unfold rdA rdB
  exact ⟨by omega, by omega⟩
/-- k rounds of the search for the apparent altitude -/
def upI (s : Sgt) (e0 e1 p0 p1 h0 h1 : Int) : Nat → Int → Int → Option (Int × Int)
  | 0, lo, hi => some (lo, hi)
  | k + 1, lo, hi => if max lo (rdA s e0 e1 p0 p1 h0 lo hi) ≤ min hi (rdB s e0 e1 p0 p1 h1 lo hi) then upI s e0 e1 p0 p1 h0 h1 k (max lo (rdA s e0 e1 p0 p1 h0 lo hi)) (min hi (rdB s e0 e1 p0 p1 h1 lo hi)) else none
theorem upI_has {s : Sgt} {e0 e1 p0 p1 x y h0 h1 : Int} (d : DtOk s e0 e1 p0 p1) (q2 : x ≤ y) (k0 : h0 ≤ wrkA s e0 e1 p0 p1 x y) (k1 : wrkB s e0 e1 p0 p1 x y ≤ h1) : ∀ (k : Nat) (lo hi : Int), -60000 ≤ lo → lo ≤ x → y ≤ hi → hi ≤ 5400000 →
    ∃ a b, upI s e0 e1 p0 p1 h0 h1 k lo hi = some (a, b) ∧ lo ≤ a ∧ a ≤ x ∧ y ≤ b ∧ b ≤ hi
  | 0, lo, hi, _, q1, q3, _ => ⟨lo, hi, rfl, Int.le_refl _, q1, q3, Int.le_refl _⟩
  | k + 1, lo, hi, q0, q1, q3, q4 => by
    obtain ⟨r1, r2⟩ := round_has d q0 q1 q2 q3 q4 k0 k1
    obtain ⟨a, b, e, a1, a2, a3, a4⟩ := upI_has d q2 k0 k1 k (max lo (rdA s e0 e1 p0 p1 h0 lo hi)) (min hi (rdB s e0 e1 p0 p1 h1 lo hi)) (by omega) (by omega) (by omega) (by omega)
    refine ⟨a, b, ?_, by omega, a2, a3, by omega⟩
    unfold upI
    rw [if_pos (by omega)]
    exact e
theorem upI_mono {s : Sgt} {e0 e1 p0 p1 h0 h0' h1 h1' : Int} (d : DtOk s e0 e1 p0 p1) (k0 : h0 ≤ h0') (k1 : h1' ≤ h1) : ∀ (k : Nat) (lo lo' hi' hi : Int) (a b a' b' : Int), -60000 ≤ lo → lo ≤ lo' → lo' ≤ hi' → hi' ≤ hi → hi ≤ 5400000 →
    upI s e0 e1 p0 p1 h0 h1 k lo hi = some (a, b) → upI s e0 e1 p0 p1 h0' h1' k lo' hi' = some (a', b') → a ≤ a' ∧ b' ≤ b
  | 0, lo, lo', hi', hi, a, b, a', b', _, q1, _, q3, _, e, e' => by
    unfold upI at e e'
    injection e with e
    injection e' with e'
    injection e with e1 e2
    injection e' with e3 e4
    omega
  | k + 1, lo, lo', hi', hi, a, b, a', b', q0, q1, q2, q3, q4, e, e' => by
    obtain ⟨r1, r2⟩ := round_mono d q0 q1 q2 q3 q4 k0 k1
    unfold upI at e e'
    split at e
    · split at e'
      · exact upI_mono d k0 k1 k _ _ _ _ a b a' b' (by omega) (by omega) (by omega) (by omega) (by omega) e e'
      · cases e'
    · cases e
end Go.Proofs.YtbpnacacnncopaaGreatDoor
namespace Go.Proofs.YtbpnacacnncopaaGreatDoor
open Go.RowKit Trig
theorem posT_at {T : List Ent} (h : TabOk T) {i : Nat} {z : Int} (hl : i ≤ T.length) (hp : ∀ p, 0 < i → T[i - 1]? = some p → p.1 < z) (hx : ∀ x, T[i]? = some x → z ≤ x.1) : posT T z = i := by
  refine posT_one T z i hl (fun k y hk hy => ?_) hx
  obtain ⟨p, hp'⟩ : ∃ p, T[i - 1]? = some p := ⟨_, List.getElem?_eq_getElem (by omega)⟩
  have h1 := hp p (by omega) hp'
  rcases Nat.lt_or_ge k (i - 1) with hlt | hge
  · have := h.sorted (i - 1) k y p hlt hy hp'
    omega
  · obtain rfl : k = i - 1 := by omega
    rw [hy] at hp'
    injection hp' with e
    rw [e]
    exact h1
theorem arc_ent {T : List Ent} (h : TabOk T) {i : Nat} {x : Ent} (hx : T[i]? = some x) : arcA T x.1 = (x.2, x.2) := by
  have hi := (List.getElem?_eq_some_iff.1 hx).1
  have hp : posT T x.1 = i := posT_at h (by omega) (fun p h0 hp => h.sorted i (i - 1) p x (by omega) hp hx) (fun y hy => by rw [hx] at hy; injection hy with e; rw [e]; exact Int.le_refl _)
  unfold arcA arcI
  rw [hp, if_neg (fun e => by rw [e] at hi; simp at hi), hx]
  simp
theorem arc_up {T : List Ent} (h : TabOk T) {p : Ent} (hT : 0 < T.length) (hp : T[T.length - 1]? = some p) {z : Int} (hz : p.1 < z) : arcA T z = (p.2, p.2) := by
  have e : posT T z = T.length := posT_at h (Nat.le_refl _) (fun q _ hq => by rw [hp] at hq; injection hq with e; rw [← e]; exact hz) (fun x hx => by simp at hx)
  unfold arcA arcI
  rw [e, if_neg (fun e => by rw [e] at hT; simp at hT), List.getElem?_eq_none (Nat.le_refl _)]
  simp only [List.getD_eq_getElem?_getD, hp, Option.getD_some]
theorem arc_down {T : List Ent} (h : TabOk T) {x : Ent} (hx : T[0]? = some x) {z : Int} (hz : z ≤ x.1) : arcA T z = (x.2, x.2) := by
  have hi := (List.getElem?_eq_some_iff.1 hx).1
  have e : posT T z = 0 := posT_at h (Nat.zero_le _) (fun p h0 => by omega) (fun y hy => by rw [hx] at hy; injection hy with e; rw [← e]; exact hz)
  unfold arcA arcI
  rw [e, if_neg (fun e => by rw [e] at hi; simp at hi), hx]
  simp
theorem arc_mid {T : List Ent} (h : TabOk T) {i : Nat} {p x : Ent} (h0 : 0 < i) (hp : T[i - 1]? = some p) (hx : T[i]? = some x) {z : Int} (h1 : p.1 ≤ z) (h2 : z ≤ x.1) : arcA T z = (itA p x z, itB p x z) := by
  have hi := (List.getElem?_eq_some_iff.1 hx).1
  have hlt := h.sorted i (i - 1) p x (by omega) hp hx
  have hd : 0 < x.1 - p.1 := by omega
  rcases Int.lt_or_le p.1 z with hz | hz
  · by_cases hzx : z = x.1
    · subst hzx
      rw [arc_ent h hx]
      unfold itA itB
      have e : p.2 * (x.1 - p.1) + (x.2 - p.2) * (x.1 - p.1) = x.2 * (x.1 - p.1) := by rw [← Int.add_mul]; congr 1; omega
      rw [e, Int.mul_ediv_cancel _ (by omega), ← Int.neg_mul, Int.mul_ediv_cancel _ (by omega), Int.neg_neg]
    · have e : posT T z = i := posT_at h (by omega) (fun q _ hq => by rw [hp] at hq; injection hq with e; rw [← e]; exact hz) (fun y hy => by rw [hx] at hy; injection hy with e; rw [← e]; exact h2)
      unfold arcA arcI
      rw [e, if_neg (fun e => by rw [e] at hi; simp at hi), hx]
      simp only [List.getD_eq_getElem?_getD, hp, Option.getD_some]
      rw [if_neg (by omega)]
  · obtain rfl : z = p.1 := by omega
    rw [arc_ent h hp]
    unfold itA itB
    rw [show p.1 - p.1 = 0 by omega, Int.mul_zero, Int.add_zero, Int.mul_ediv_cancel _ (by omega), ← Int.neg_mul, Int.mul_ediv_cancel _ (by omega), Int.neg_neg]
theorem it_btw {p x : Ent} {a z b : Int} (hd : p.1 < x.1) (h1 : a ≤ z) (h2 : z ≤ b) : min (itA p x a) (itA p x b) ≤ itA p x z ∧ itB p x z ≤ max (itB p x a) (itB p x b) := by
  have m := mul_btw (x := x.2 - p.2) (p := a - p.1) (t := z - p.1) (q := b - p.1) (by omega) (by omega)
  have hd' : 0 < x.1 - p.1 := by omega
  unfold itA itB
  generalize (x.2 - p.2) * (a - p.1) = A at *
  generalize (x.2 - p.2) * (z - p.1) = Z at *
  generalize (x.2 - p.2) * (b - p.1) = B at *
  generalize p.2 * (x.1 - p.1) = C at *
  generalize x.1 - p.1 = D at *
  have k1 : C + A ≤ C + Z ∨ C + B ≤ C + Z := by omega
  have k2 : C + Z ≤ C + A ∨ C + Z ≤ C + B := by omega
  constructor
  · rcases k1 with k | k
    · have := ed_mono hd' k; omega
    · have := ed_mono hd' k; omega
  · rcases k2 with k | k
    · have := nd_mono hd' k; omega
    · have := nd_mono hd' k; omega
/-- the hull of corrections over the entries of a table that lie in an arc -/
def huF (ix : Int) (T0 : List Ent) (lo hi : Int) : List Ent → Int × Int → Int × Int
  | [], o => o
  | x :: r, o => huF ix T0 lo hi r (if lo ≤ x.1 ∧ x.1 ≤ hi then (min o.1 (coA ix T0 x.1), max o.2 (coB ix T0 x.1)) else o)
def huV (ix : Int) (T : List Ent) (lo hi : Int) : Int × Int := huF ix T lo hi T (min (coA ix T lo) (coA ix T hi), max (coB ix T lo) (coB ix T hi))
theorem huF_out (ix : Int) (T0 : List Ent) (lo hi : Int) : ∀ (r : List Ent) (o : Int × Int), (huF ix T0 lo hi r o).1 ≤ o.1 ∧ o.2 ≤ (huF ix T0 lo hi r o).2
  | [], o => ⟨Int.le_refl _, Int.le_refl _⟩
  | x :: r, o => by
    unfold huF
    split
    · have := huF_out ix T0 lo hi r (min o.1 (coA ix T0 x.1), max o.2 (coB ix T0 x.1))
      simp only [] at this
      omega
    · exact huF_out ix T0 lo hi r o
theorem huF_has (ix : Int) (T0 : List Ent) (lo hi : Int) : ∀ (r : List Ent) (o : Int × Int) (x : Ent), x ∈ r → lo ≤ x.1 → x.1 ≤ hi → (huF ix T0 lo hi r o).1 ≤ coA ix T0 x.1 ∧ coB ix T0 x.1 ≤ (huF ix T0 lo hi r o).2
  | [], o, x, hx, _, _ => by simp at hx
  | y :: r, o, x, hx, h1, h2 => by
    unfold huF
    rcases List.mem_cons.1 hx with rfl | hx
    · rw [if_pos ⟨h1, h2⟩]
      have := huF_out ix T0 lo hi r (min o.1 (coA ix T0 x.1), max o.2 (coB ix T0 x.1))
      simp only [] at this
      omega
    · exact huF_has ix T0 lo hi r _ x hx h1 h2
theorem huF_in {ix : Int} {T0 : List Ent} {lo hi a b : Int} : ∀ (r : List Ent) (o : Int × Int), (∀ x, x ∈ r → lo ≤ x.1 → x.1 ≤ hi → a ≤ coA ix T0 x.1 ∧ coB ix T0 x.1 ≤ b) → a ≤ o.1 → o.2 ≤ b → a ≤ (huF ix T0 lo hi r o).1 ∧ (huF ix T0 lo hi r o).2 ≤ b
  | [], o, _, h1, h2 => ⟨h1, h2⟩
  | x :: r, o, h, h1, h2 => by
    unfold huF
    split
    · rename_i q
      have k := h x (by simp) q.1 q.2
      exact huF_in r _ (fun y hy => h y (by simp [hy])) (by simp only []; omega) (by simp only []; omega)
    · exact huF_in r o (fun y hy => h y (by simp [hy])) h1 h2
/-- each reading of the arc has its correction in the hull -/
theorem hu_has {ix : Int} {T : List Ent} (h : TabOk T) {lo z hi : Int} (h1 : lo ≤ z) (h2 : z ≤ hi) : (huV ix T lo hi).1 ≤ coA ix T z ∧ coB ix T z ≤ (huV ix T lo hi).2 := by
  have ho := huF_out ix T lo hi T (min (coA ix T lo) (coA ix T hi), max (coB ix T lo) (coB ix T hi))
  have hh := fun x (hx : x ∈ T) => huF_has ix T lo hi T (min (coA ix T lo) (coA ix T hi), max (coB ix T lo) (coB ix T hi)) x hx
  change (huV ix T lo hi).1 ≤ _ ∧ _ ≤ (huV ix T lo hi).2 at ho
  change ∀ x, x ∈ T → lo ≤ x.1 → x.1 ≤ hi → (huV ix T lo hi).1 ≤ coA ix T x.1 ∧ coB ix T x.1 ≤ (huV ix T lo hi).2 at hh
  generalize huV ix T lo hi = V at *
  simp only [] at ho
  have same : ∀ u, arcA T z = arcA T u → (u = lo ∨ u = hi ∨ ∃ x ∈ T, x.1 = u ∧ lo ≤ u ∧ u ≤ hi) → V.1 ≤ coA ix T z ∧ coB ix T z ≤ V.2 := fun u e hu => by
    have ea : coA ix T z = coA ix T u := by unfold coA; rw [e]
    have eb : coB ix T z = coB ix T u := by unfold coB; rw [e]
    rw [ea, eb]
    rcases hu with rfl | rfl | ⟨x, hx, rfl, k1, k2⟩
    · omega
    · omega
    · exact hh x hx k1 k2
  by_cases hT : T = []
  · exact same lo (by unfold arcA arcI; rw [if_pos hT, if_pos hT]) (.inl rfl)
  have hlen : 0 < T.length := List.length_pos_iff.2 hT
  obtain ⟨s1, s2, s3⟩ := posT_spec T z
  generalize posT T z = i at *
  cases hx : T[i]? with
  | none =>
    obtain ⟨p, hp⟩ : ∃ p, T[T.length - 1]? = some p := ⟨_, List.getElem?_eq_getElem (by omega)⟩
    have hge := List.getElem?_eq_none_iff.1 hx
    have hpz := s2 (T.length - 1) p (by omega) hp
    have e := arc_up h hlen hp hpz
    rcases Int.lt_or_le p.1 lo with hl | hl
    · exact same lo (by rw [e, arc_up h hlen hp hl]) (.inl rfl)
    · exact same p.1 (by rw [e, arc_ent h hp]) (.inr (.inr ⟨p, List.mem_of_getElem? hp, rfl, hl, by omega⟩))
  | some x =>
    have hzx := s3 x hx
    rcases Nat.eq_zero_or_pos i with rfl | hi0
    · have e := arc_down h hx hzx
      rcases Int.lt_or_le hi x.1 with hl | hl
      · exact same hi (by rw [e, arc_down h hx (by omega)]) (.inr (.inl rfl))
      · exact same x.1 (by rw [e, arc_ent h hx]) (.inr (.inr ⟨x, List.mem_of_getElem? hx, rfl, by omega, hl⟩))
    · obtain ⟨p, hp⟩ : ∃ p, T[i - 1]? = some p := ⟨_, List.getElem?_eq_getElem (by omega)⟩
      have hpz := s2 (i - 1) p (by omega) hp
      have e := arc_mid h hi0 hp hx (by omega) hzx
      have hlt := h.sorted i (i - 1) p x (by omega) hp hx
      have ea : coA ix T z = itA p x z + ix := by unfold coA; rw [e]
      have eb : coB ix T z = itB p x z + ix := by unfold coB; rw [e]
      have lend : ∃ a, p.1 ≤ a ∧ a ≤ z ∧ V.1 ≤ itA p x a + ix ∧ itB p x a + ix ≤ V.2 := by
        rcases Int.lt_or_le p.1 lo with hl | hl
        · have q := arc_mid h hi0 hp hx (z := lo) (by omega) (by omega)
          have qa : coA ix T lo = itA p x lo + ix := by unfold coA; rw [q]
          have qb : coB ix T lo = itB p x lo + ix := by unfold coB; rw [q]
          exact ⟨lo, by omega, h1, by omega, by omega⟩
        · have q := arc_mid h hi0 hp hx (z := p.1) (Int.le_refl _) (by omega)
          have k := hh p (List.mem_of_getElem? hp) hl (by omega)
          have qa : coA ix T p.1 = itA p x p.1 + ix := by unfold coA; rw [q]
          have qb : coB ix T p.1 = itB p x p.1 + ix := by unfold coB; rw [q]
          exact ⟨p.1, Int.le_refl _, by omega, by omega, by omega⟩
      have rend : ∃ b, z ≤ b ∧ b ≤ x.1 ∧ V.1 ≤ itA p x b + ix ∧ itB p x b + ix ≤ V.2 := by
        rcases Int.lt_or_le hi x.1 with hl | hl
        · have q := arc_mid h hi0 hp hx (z := hi) (by omega) (by omega)
          have qa : coA ix T hi = itA p x hi + ix := by unfold coA; rw [q]
          have qb : coB ix T hi = itB p x hi + ix := by unfold coB; rw [q]
          exact ⟨hi, h2, by omega, by omega, by omega⟩
        · have q := arc_mid h hi0 hp hx (z := x.1) (by omega) (Int.le_refl _)
          have k := hh x (List.mem_of_getElem? hx) (by omega) hl
          have qa : coA ix T x.1 = itA p x x.1 + ix := by unfold coA; rw [q]
          have qb : coB ix T x.1 = itB p x x.1 + ix := by unfold coB; rw [q]
          exact ⟨x.1, hzx, Int.le_refl _, by omega, by omega⟩
      obtain ⟨a, a1, a2, a3, a4⟩ := lend
      obtain ⟨b, b1, b2, b3, b4⟩ := rend
      have k := it_btw (p := p) (x := x) hlt a2 b1
      omega
theorem hu_sub {ix : Int} {T : List Ent} (h : TabOk T) {lo lo' hi' hi : Int} (h1 : lo ≤ lo') (h2 : lo' ≤ hi') (h3 : hi' ≤ hi) : (huV ix T lo hi).1 ≤ (huV ix T lo' hi').1 ∧ (huV ix T lo' hi').2 ≤ (huV ix T lo hi).2 := by
  have a := hu_has (ix := ix) h (lo := lo) (z := lo') (hi := hi) h1 (by omega)
  have b := hu_has (ix := ix) h (lo := lo) (z := hi') (hi := hi) (by omega) h3
  exact huF_in T _ (fun x _ k1 k2 => hu_has (ix := ix) h (by omega) (by omega)) (by simp only []; omega) (by simp only []; omega)
theorem hu_bd {ix : Int} {T : List Ent} (hv : insV ix T = true) (lo hi : Int) : -90000 ≤ (huV ix T lo hi).1 ∧ (huV ix T lo hi).1 ≤ (huV ix T lo hi).2 ∧ (huV ix T lo hi).2 ≤ 90000 := by
  have a := fun z => co_bd (hs := z) hv
  have o := huF_out ix T lo hi T (min (coA ix T lo) (coA ix T hi), max (coB ix T lo) (coB ix T hi))
  have i := huF_in (ix := ix) (T0 := T) (lo := lo) (hi := hi) (a := -90000) (b := 90000) T (min (coA ix T lo) (coA ix T hi), max (coB ix T lo) (coB ix T hi)) (fun x _ _ _ => ⟨(a x.1).1, (a x.1).2.2⟩) (by have := a lo; have := a hi; simp only []; omega) (by have := a lo; have := a hi; simp only []; omega)
  have l := a lo
  have e : huV ix T lo hi = huF ix T lo hi T (min (coA ix T lo) (coA ix T hi), max (coB ix T lo) (coB ix T hi)) := rfl
  rw [e]
  simp only [] at o i
  omega
/-- k rounds of the search for the reading -/
def dnI (ix : Int) (T : List Ent) (b0 b1 : Int) : Nat → Int → Int → Option (Int × Int)
  | 0, lo, hi => some (lo, hi)
  | k + 1, lo, hi => if max lo (b0 - (huV ix T lo hi).2) ≤ min hi (b1 - (huV ix T lo hi).1) then dnI ix T b0 b1 k (max lo (b0 - (huV ix T lo hi).2)) (min hi (b1 - (huV ix T lo hi).1)) else none
theorem dnI_has {ix : Int} {T : List Ent} (h : TabOk T) {b0 b1 z : Int} (hc : coA ix T z ≤ coB ix T z) (k0 : b0 ≤ z + coA ix T z) (k1 : z + coB ix T z ≤ b1) : ∀ (k : Nat) (lo hi : Int), lo ≤ z → z ≤ hi → ∃ a b, dnI ix T b0 b1 k lo hi = some (a, b) ∧ lo ≤ a ∧ a ≤ z ∧ z ≤ b ∧ b ≤ hi
  | 0, lo, hi, h1, h2 => ⟨lo, hi, rfl, Int.le_refl _, h1, h2, Int.le_refl _⟩
  | k + 1, lo, hi, h1, h2 => by
    have v := hu_has (ix := ix) h h1 h2
    obtain ⟨a, b, e, a1, a2, a3, a4⟩ := dnI_has h hc k0 k1 k (max lo (b0 - (huV ix T lo hi).2)) (min hi (b1 - (huV ix T lo hi).1)) (by omega) (by omega)
    refine ⟨a, b, ?_, by omega, a2, a3, by omega⟩
    unfold dnI
    rw [if_pos (by omega)]
    exact e
theorem dnI_mono {ix : Int} {T : List Ent} (h : TabOk T) {b0 b0' b1 b1' : Int} (k0 : b0 ≤ b0') (k1 : b1' ≤ b1) : ∀ (k : Nat) (lo lo' hi' hi a b a' b' : Int), lo ≤ lo' → lo' ≤ hi' → hi' ≤ hi →
    dnI ix T b0 b1 k lo hi = some (a, b) → dnI ix T b0' b1' k lo' hi' = some (a', b') → a ≤ a' ∧ b' ≤ b
  | 0, lo, lo', hi', hi, a, b, a', b', q1, _, q3, e, e' => by
    unfold dnI at e e'
    injection e with e
    injection e' with e'
    injection e with e1 e2
    injection e' with e3 e4
    omega
  | k + 1, lo, lo', hi', hi, a, b, a', b', q1, q2, q3, e, e' => by
    have v := hu_sub (ix := ix) h q1 q2 q3
    unfold dnI at e e'
    split at e
    · split at e'
      · exact dnI_mono h k0 k1 k _ _ _ _ a b a' b' (by omega) (by omega) (by omega) e e'
      · cases e'
    · cases e
/-- what the altitudes of an arc are read as: the apparent altitudes, those of the sextant, and the readings -/
def ftA (s : Sgt) (a : Int) : Int := if s.hor = 2 then 2 * a else a + depA s
def ftB (s : Sgt) (b : Int) : Int := if s.hor = 2 then 2 * b else b + depB s
/-- that the search ends with a reading -/
def RdIs (ix : Int) (T : List Ent) (s : Sgt) (e0 e1 p0 p1 h0 h1 a b : Int) : Prop :=
  max (h0 - 300000) (-60000) ≤ min (h1 + 300000) 5400000 ∧ ∃ x y, upI s e0 e1 p0 p1 h0 h1 8 (max (h0 - 300000) (-60000)) (min (h1 + 300000) 5400000) = some (x, y) ∧ -60000 ≤ x ∧ x ≤ y ∧ y ≤ 5400000 ∧
    max (ftA s x - 120000) (-60000) ≤ min (ftB s y + 120000) 7800000 ∧ dnI ix T (ftA s x) (ftB s y) 4 (max (ftA s x - 120000) (-60000)) (min (ftB s y + 120000) 7800000) = some (a, b) ∧ a ≤ b
theorem dep_le {s : Sgt} (h : siS s = true) : 0 ≤ depA s ∧ depA s ≤ depB s ∧ (s.hor = 2 → depA s = 0 ∧ depB s = 0) := by
  have k := si_ok h
  unfold depA depB
  refine ⟨?_, ?_, fun e => ?_⟩
  · split
    · omega
    · split
      · rename_i q
        have := si_shore h q
        exact (sh_bd k.eye.1 k.eye.2 this.1 this.2).1
      · omega
  · split
    · unfold dpH
      split <;> omega
    · split
      · rename_i q
        have := si_shore h q
        exact (sh_bd k.eye.1 k.eye.2 this.1 this.2).2.1
      · omega
  · rw [if_neg (by omega), if_neg (by omega), if_neg (by omega), if_neg (by omega)]
    exact ⟨rfl, rfl⟩
theorem giv_ok {ix : Int} {T : List Ent} {s : Sgt} {e0 e1 p0 p1 : Int} (h : givB ix T s e0 e1 p0 p1 = true) : insV ix T = true ∧ siS s = true ∧ DtOk s e0 e1 p0 p1 := by
  unfold givB at h
  simp only [Bool.and_eq_true] at h
  obtain ⟨h1, h2, h3, h4⟩ := h
  have k := si_ok h2
  exact ⟨h1, h2, ⟨k.temp.1, k.temp.2, k.press.1, k.press.2⟩, h3, h4⟩
/-- the reading of an altitude that contains the worked one contains the reading of the sight -/
theorem found_has {ix : Int} {T : List Ent} {s : Sgt} {e0 e1 p0 p1 h0 h1 : Int} (hg : givB ix T s e0 e1 p0 p1 = true) (hb : s.by_ = 0) (hin : inHa ix T s = true) (k0 : h0 ≤ hoA ix T s e0 e1 p0 p1) (k1 : hoB ix T s e0 e1 p0 p1 ≤ h1) :
    ∃ a b, RdIs ix T s e0 e1 p0 p1 h0 h1 a b ∧ a ≤ s.hs ∧ s.hs ≤ b := by
  obtain ⟨hv, hs, d⟩ := giv_ok hg
  have k := si_ok hs
  obtain ⟨-, -, hT⟩ := ins_ok hv
  have hd := dep_le hs
  have hc := co_bd (hs := s.hs) hv
  unfold inHa at hin
  simp only [Bool.and_eq_true, decide_eq_true_eq] at hin
  obtain ⟨x0, y1⟩ := hin
  have eA : hoA ix T s e0 e1 p0 p1 = wrkA s e0 e1 p0 p1 (haA ix T s) (haB ix T s) := rfl
  have eB : hoB ix T s e0 e1 p0 p1 = wrkB s e0 e1 p0 p1 (haA ix T s) (haB ix T s) := rfl
  rw [eA] at k0
  rw [eB] at k1
  have fa : ∀ a, a ≤ haA ix T s → ftA s a ≤ s.hs + coA ix T s.hs := fun a ha => by
    unfold haA apA at ha
    unfold ftA
    rw [hb] at ha
    split
    · rename_i q
      rw [if_pos q] at ha
      have := hd.2.2 q
      omega
    · rename_i q
      rw [if_neg q] at ha
      omega
  have fb : ∀ b, haB ix T s ≤ b → s.hs + coB ix T s.hs ≤ ftB s b := fun b hb' => by
    unfold haB apB at hb'
    unfold ftB
    rw [hb] at hb'
    split
    · rename_i q
      rw [if_pos q] at hb'
      have := hd.2.2 q
      omega
    · rename_i q
      rw [if_neg q] at hb'
      omega
  have hxy : haA ix T s ≤ haB ix T s := by
    unfold haA haB apA apB
    rw [hb]
    split <;> omega
  generalize haA ix T s = x at *
  generalize haB ix T s = y at *
  have w1 := k0
  have w2 := k1
  unfold wrkA at w1
  unfold wrkB at w2
  have c1 := rf_low (lo := x) (hi := y) d.wt x0 hxy y1
  have c2 := rf_bd (lo := x) (hi := y) x0 hxy y1 d.wt.t0 d.wt.t1 d.wt.p0 d.wt.p1
  have c3 := px_bd x y d.px
  have c4 := px_top (lo := x) (hi := y) d.px (by omega) hxy (by omega)
  have c5 := se_top (limb := s.limb) (lo := x) (hi := y) d.se d.px
  obtain ⟨a, b, e, a1, a2, a3, a4⟩ := upI_has d hxy k0 k1 8 (max (h0 - 300000) (-60000)) (min (h1 + 300000) 5400000) (by omega) (by omega) (by omega) (by omega)
  have f1 := fa a a2
  have f2 := fb b a3
  have hr := k.hs
  obtain ⟨u, v, e', u1, u2, u3, u4⟩ := dnI_has hT (b0 := ftA s a) (b1 := ftB s b) (z := s.hs) hc.2.1 f1 f2 4 (max (ftA s a - 120000) (-60000)) (min (ftB s b + 120000) 7800000) (by omega) (by omega)
  exact ⟨u, v, ⟨by omega, a, b, e, by omega, by omega, by omega, by omega, e', by omega⟩, u2, u3⟩
/-- the reading of a part of an altitude is a part of its reading -/
theorem found_mono {ix : Int} {T : List Ent} {s : Sgt} {e0 e1 p0 p1 h0 h1 h0' h1' a b a' b' : Int} (hg : givB ix T s e0 e1 p0 p1 = true) (k0 : h0 ≤ h0') (k1 : h1' ≤ h1) (r : RdIs ix T s e0 e1 p0 p1 h0 h1 a b) (r' : RdIs ix T s e0 e1 p0 p1 h0' h1' a' b') : a ≤ a' ∧ b' ≤ b := by
  obtain ⟨hv, hs, d⟩ := giv_ok hg
  obtain ⟨-, -, hT⟩ := ins_ok hv
  obtain ⟨n, x, y, e, x0, xy, y1, m, f, g⟩ := r
  obtain ⟨n', x', y', e', x0', xy', y1', m', f', g'⟩ := r'
  have q := upI_mono d k0 k1 8 _ _ _ _ x y x' y' (by omega) (by omega) n' (by omega) (by omega) e e'
  have fa : ftA s x ≤ ftA s x' := by unfold ftA; split <;> omega
  have fb : ftB s y' ≤ ftB s y := by unfold ftB; split <;> omega
  exact dnI_mono hT fa fb 4 _ _ _ _ a b a' b' (by omega) m' (by omega) f f'
end Go.Proofs.YtbpnacacnncopaaGreatDoor
namespace Go.Proofs.YtbpnacacnncopaaGreatDoor
open Go.RowKit
theorem fromC_any (n a b : Int) (w : World) : Calls Tryz.prog 48 #[.int .i64 n, .int .i64 a, .int .i64 b] w fun e w' => e = .returned (.bool (decide (a ≤ n) && decide (n ≤ b))) ∧ w' = w := by
  obtain ⟨p, hp⟩ : ∃ p, decide (a ≤ n) = p := ⟨_, rfl⟩
  obtain ⟨q, hq⟩ : ∃ q, decide (n ≤ b) = q := ⟨_, rfl⟩
  rw [hp, hq]
  cases p <;> cases q
  all_goals
    go_enter Tryz.func48, Tryz.ntmps48
    go_wp2
    go_ret
    exact ⟨rfl, rfl⟩
theorem rAlt_any (lo hi : Int) (w : World) : Calls Tryz.prog 18 #[.agg #[.int .i64 lo, .int .i64 hi]] w fun e w' => e = .returned (.bool (decide (-120000 ≤ lo) && decide (hi ≤ 5520000))) ∧ Below w.heap.size w w' := by
  have b0 := Lib.hid (bl_alloc w (.cells #[.int .i64 lo, .int .i64 hi] 41))
  obtain ⟨p, hp⟩ : ∃ p, decide (-120000 ≤ lo) = p := ⟨_, rfl⟩
  obtain ⟨q, hq⟩ : ∃ q, decide (hi ≤ 5520000) = q := ⟨_, rfl⟩
  rw [hp, hq]
  cases p <;> cases q
  all_goals
    go_enter Tryz.func18, Tryz.ntmps18
    go_wp2
    go_ret
    exact ⟨rfl, b0.out⟩
set_option maxHeartbeats 1000000 in
theorem widerC_any (a b n : Int) (w : World) (h0 : -1099511627776 ≤ a) (h1 : a ≤ 1099511627776) (h2 : -1099511627776 ≤ b) (h3 : b ≤ 1099511627776) (n0 : 0 ≤ n) (n1 : n ≤ 1000000) : Calls Tryz.prog 62 #[.agg #[.int .i64 a, .int .i64 b], .int .i64 n] w fun e w' => e = .returned (.agg #[.int .i64 (a - n), .int .i64 (b + n)]) ∧ Below w.heap.size w w' := by
  have s1 : wrap64 (a - n) = a - n := IntWalk.wrap64_in _ (by omega)
  have s2 : wrap64 (b + n) = b + n := IntWalk.wrap64_in _ (by omega)
  clear h0 h1 h2 h3 n0 n1
  have A0 := Lib.hid ((Blk.new w 41 #[.int .i64 a, .int .i64 b]).alloc (.cells #[.int .i64 0, .int .i64 0] 41))
  have R0 := Lib.hid (Blk.new (w.alloc (.cells #[.int .i64 a, .int .i64 b] 41)) 41 #[.int .i64 0, .int .i64 0])
  simp only [World.size_alloc] at R0
  have b0 := Lib.hid (((Below.refl w.heap.size w).alloc (Nat.le_refl _) (.cells #[.int .i64 a, .int .i64 b] 41)).alloc (by simp) (.cells #[.int .i64 0, .int .i64 0] 41))
  go_enter Tryz.func62, Tryz.ntmps62
  go_upto_region 1 with fail
  generalize ((w.alloc (.cells #[.int .i64 a, .int .i64 b] 41)).alloc (.cells #[.int .i64 0, .int .i64 0] 41)) = w1 at *
  have yA : ∀ i, w1.cell? ⟨w.heap.size, i, none⟩ = (#[.int .i64 a, .int .i64 b] : Array Value)[i]? := fun i => A0.out.cell i
  have yR : ∀ i, w1.cell? ⟨w.heap.size + 1, i, none⟩ = (#[.int .i64 0, .int .i64 0] : Array Value)[i]? := fun i => R0.out.cell i
  have zR : ∀ i, w1.frozen? ⟨w.heap.size + 1, i, none⟩ = false := fun i => R0.out.frozen i
  go_wp2
  refine bodyPost_ret (v := .agg #[.int .i64 (a - n), .int .i64 (b + n)]) (by simp [results, Tryz.results62, go_sem, *]; done) rfl ⟨rfl, ?_⟩
  exact (b0.out.setCell (by first | exact Nat.le_refl _ | (simp; done) | (simp; omega) | (simp only []; omega)) _).setCell (by first | exact Nat.le_refl _ | (simp; done) | (simp; omega) | (simp only []; omega)) _
set_option maxHeartbeats 1000000 in
theorem Meet_yes (a b c d : Int) (w : World) (h1 : avB a b = true) (h2 : avB c d = true) (h3 : max a c ≤ min b d) : Calls Tryz.prog 61 #[.agg #[.int .i64 a, .int .i64 b], .agg #[.int .i64 c, .int .i64 d]] w fun e w' => e = .returned (.tuple #[.agg #[.int .i64 (max a c), .int .i64 (min b d)], .int .i64 0]) ∧ Below w.heap.size w w' := by
  have K1 := Lib.hid (fun W => aValid_any a b W)
  have K2 := Lib.hid (fun W => aValid_any c d W)
  rw [h1] at K1
  rw [h2] at K2
  clear h1 h2
  obtain ⟨x, hx⟩ : ∃ x, max a c = x := ⟨_, rfl⟩
  obtain ⟨y, hy⟩ : ∃ y, min b d = y := ⟨_, rfl⟩
  rw [hx, hy] at h3
  have dxy : decide (y < x) = false := decide_eq_false (by omega)
  rw [hx, hy]
  have A0 := Lib.hid (((Blk.new w 41 #[.int .i64 a, .int .i64 b]).alloc (.cells #[.int .i64 c, .int .i64 d] 41)).alloc (.cells #[.int .i64 0, .int .i64 0] 41))
  have B0 := Lib.hid ((Blk.new (w.alloc (.cells #[.int .i64 a, .int .i64 b] 41)) 41 #[.int .i64 c, .int .i64 d]).alloc (.cells #[.int .i64 0, .int .i64 0] 41))
  simp only [World.size_alloc] at B0
  have R0 := Lib.hid (Blk.new ((w.alloc (.cells #[.int .i64 a, .int .i64 b] 41)).alloc (.cells #[.int .i64 c, .int .i64 d] 41)) 41 #[.int .i64 0, .int .i64 0])
  simp only [World.size_alloc] at R0
  have b0 := Lib.hid ((((Below.refl w.heap.size w).alloc (Nat.le_refl _) (.cells #[.int .i64 a, .int .i64 b] 41)).alloc (by simp) (.cells #[.int .i64 c, .int .i64 d] 41)).alloc (by simp; omega) (.cells #[.int .i64 0, .int .i64 0] 41))
  go_enter Tryz.func61, Tryz.ntmps61
  go_upto_region 1 with fail
  generalize (((w.alloc (.cells #[.int .i64 a, .int .i64 b] 41)).alloc (.cells #[.int .i64 c, .int .i64 d] 41)).alloc (.cells #[.int .i64 0, .int .i64 0] 41)) = w1 at *
  have yA : ∀ i, w1.cell? ⟨w.heap.size, i, none⟩ = (#[.int .i64 a, .int .i64 b] : Array Value)[i]? := fun i => A0.out.cell i
  go_wp2_with fail
  (with_reducible refine (K1.out _).mono ?_)
  rintro e w2 ⟨rfl, hb⟩
  have A2 := Lib.hid (A0.out.below hb A0.out.lt)
  have B2 := Lib.hid (B0.out.below hb B0.out.lt)
  have R2 := Lib.hid (R0.out.below hb R0.out.lt)
  have b2 := Lib.hid (b0.out.trans (hb.mono b0.out.size))
  clear hb A0 B0 R0 b0 yA
  have yB : ∀ i, w2.cell? ⟨w.heap.size + 1, i, none⟩ = (#[.int .i64 c, .int .i64 d] : Array Value)[i]? := fun i => B2.out.cell i
  go_wp2_with fail
  (with_reducible refine (K2.out _).mono ?_)
  rintro e w3 ⟨rfl, hb⟩
  have A3 := Lib.hid (A2.out.below hb A2.out.lt)
  have B3 := Lib.hid (B2.out.below hb B2.out.lt)
  have R3 := Lib.hid (R2.out.below hb R2.out.lt)
  have b3 := Lib.hid (b2.out.trans (hb.mono b2.out.size))
  clear hb A2 B2 R2 b2 yB
  have yA : ∀ i, w3.cell? ⟨w.heap.size, i, none⟩ = (#[.int .i64 a, .int .i64 b] : Array Value)[i]? := fun i => A3.out.cell i
  have yB : ∀ i, w3.cell? ⟨w.heap.size + 1, i, none⟩ = (#[.int .i64 c, .int .i64 d] : Array Value)[i]? := fun i => B3.out.cell i
  go_upto_region 3 with fail
  have A4 := Lib.hid (A3.out.alloc (.cells #[.int .i64 x, .int .i64 y] 41))
  have B4 := Lib.hid (B3.out.alloc (.cells #[.int .i64 x, .int .i64 y] 41))
  have R4 := Lib.hid (R3.out.alloc (.cells #[.int .i64 x, .int .i64 y] 41))
  have M4 := Lib.hid (Blk.new w3 41 #[.int .i64 x, .int .i64 y])
  have b4 := Lib.hid (b3.out.trans ((bl_alloc w3 (.cells #[.int .i64 x, .int .i64 y] 41)).mono b3.out.size))
  clear A3 B3 R3 b3
  go_upto_region 4 with fail
  clear yA yB
  generalize w3.alloc (.cells #[.int .i64 x, .int .i64 y] 41) = w5 at *
  have yM : ∀ i, w5.cell? ⟨w3.heap.size, i, none⟩ = (#[.int .i64 x, .int .i64 y] : Array Value)[i]? := fun i => M4.out.cell i
  have yR : ∀ i, w5.cell? ⟨w.heap.size + 1 + 1, i, none⟩ = (#[.int .i64 0, .int .i64 0] : Array Value)[i]? := fun i => R4.out.cell i
  have zR : ∀ i, w5.frozen? ⟨w.heap.size + 1 + 1, i, none⟩ = false := fun i => R4.out.frozen i
  go_wp2
  refine bodyPost_ret (v := .tuple #[.agg #[.int .i64 x, .int .i64 y], .int .i64 0]) (by simp [results, Tryz.results61, go_sem, *]; done) rfl ⟨rfl, ?_⟩
  exact (b4.out.setCell (by first | exact Nat.le_refl _ | (simp; done) | (simp; omega) | (simp only []; omega)) _).setCell (by first | exact Nat.le_refl _ | (simp; done) | (simp; omega) | (simp only []; omega)) _
set_option maxHeartbeats 1000000 in
theorem Hull_yes (a b c d : Int) (w : World) (h1 : avB a b = true) (h2 : avB c d = true) : Calls Tryz.prog 103 #[.agg #[.int .i64 a, .int .i64 b], .agg #[.int .i64 c, .int .i64 d]] w fun e w' => e = .returned (.tuple #[.agg #[.int .i64 (min a c), .int .i64 (max b d)], .int .i64 0]) ∧ Below w.heap.size w w' := by
  have K1 := Lib.hid (fun W => aValid_any a b W)
  have K2 := Lib.hid (fun W => aValid_any c d W)
  rw [h1] at K1
  rw [h2] at K2
  clear h1 h2
  obtain ⟨x, hx⟩ : ∃ x, min a c = x := ⟨_, rfl⟩
  obtain ⟨y, hy⟩ : ∃ y, max b d = y := ⟨_, rfl⟩
  rw [hx, hy]
  have A0 := Lib.hid (((Blk.new w 41 #[.int .i64 a, .int .i64 b]).alloc (.cells #[.int .i64 c, .int .i64 d] 41)).alloc (.cells #[.int .i64 0, .int .i64 0] 41))
  have B0 := Lib.hid ((Blk.new (w.alloc (.cells #[.int .i64 a, .int .i64 b] 41)) 41 #[.int .i64 c, .int .i64 d]).alloc (.cells #[.int .i64 0, .int .i64 0] 41))
  simp only [World.size_alloc] at B0
  have R0 := Lib.hid (Blk.new ((w.alloc (.cells #[.int .i64 a, .int .i64 b] 41)).alloc (.cells #[.int .i64 c, .int .i64 d] 41)) 41 #[.int .i64 0, .int .i64 0])
  simp only [World.size_alloc] at R0
  have b0 := Lib.hid ((((Below.refl w.heap.size w).alloc (Nat.le_refl _) (.cells #[.int .i64 a, .int .i64 b] 41)).alloc (by simp) (.cells #[.int .i64 c, .int .i64 d] 41)).alloc (by simp; omega) (.cells #[.int .i64 0, .int .i64 0] 41))
  go_enter Tryz.func103, Tryz.ntmps103
  go_upto_region 1 with fail
  generalize (((w.alloc (.cells #[.int .i64 a, .int .i64 b] 41)).alloc (.cells #[.int .i64 c, .int .i64 d] 41)).alloc (.cells #[.int .i64 0, .int .i64 0] 41)) = w1 at *
  have yA : ∀ i, w1.cell? ⟨w.heap.size, i, none⟩ = (#[.int .i64 a, .int .i64 b] : Array Value)[i]? := fun i => A0.out.cell i
  go_wp2_with fail
  (with_reducible refine (K1.out _).mono ?_)
  rintro e w2 ⟨rfl, hb⟩
  have A2 := Lib.hid (A0.out.below hb A0.out.lt)
  have B2 := Lib.hid (B0.out.below hb B0.out.lt)
  have R2 := Lib.hid (R0.out.below hb R0.out.lt)
  have b2 := Lib.hid (b0.out.trans (hb.mono b0.out.size))
  clear hb A0 B0 R0 b0 yA
  have yB : ∀ i, w2.cell? ⟨w.heap.size + 1, i, none⟩ = (#[.int .i64 c, .int .i64 d] : Array Value)[i]? := fun i => B2.out.cell i
  go_wp2_with fail
  (with_reducible refine (K2.out _).mono ?_)
  rintro e w3 ⟨rfl, hb⟩
  have A3 := Lib.hid (A2.out.below hb A2.out.lt)
  have B3 := Lib.hid (B2.out.below hb B2.out.lt)
  have R3 := Lib.hid (R2.out.below hb R2.out.lt)
  have b3 := Lib.hid (b2.out.trans (hb.mono b2.out.size))
  clear hb A2 B2 R2 b2 yB
  have yA : ∀ i, w3.cell? ⟨w.heap.size, i, none⟩ = (#[.int .i64 a, .int .i64 b] : Array Value)[i]? := fun i => A3.out.cell i
  have yB : ∀ i, w3.cell? ⟨w.heap.size + 1, i, none⟩ = (#[.int .i64 c, .int .i64 d] : Array Value)[i]? := fun i => B3.out.cell i
  have yR : ∀ i, w3.cell? ⟨w.heap.size + 1 + 1, i, none⟩ = (#[.int .i64 0, .int .i64 0] : Array Value)[i]? := fun i => R3.out.cell i
  have zR : ∀ i, w3.frozen? ⟨w.heap.size + 1 + 1, i, none⟩ = false := fun i => R3.out.frozen i
  go_wp2
  refine bodyPost_ret (v := .tuple #[.agg #[.int .i64 x, .int .i64 y], .int .i64 0]) (by simp [results, Tryz.results103, go_sem, *]; done) rfl ⟨rfl, ?_⟩
  exact (b3.out.setCell (by first | exact Nat.le_refl _ | (simp; done) | (simp; omega) | (simp only []; omega)) _).setCell (by first | exact Nat.le_refl _ | (simp; done) | (simp; omega) | (simp only []; omega)) _
end Go.Proofs.YtbpnacacnncopaaGreatDoor
namespace Go.Proofs.YtbpnacacnncopaaGreatDoor
open Go.RowKit Go.Shelf Frm
abbrev w3 (l : List Bs) : Array Value := (l.map tx).toArray
end Go.Proofs.YtbpnacacnncopaaGreatDoor
namespace Go.Proofs.YtbpnacacnncopaaGreatDoor
open Go.RowKit Go.Shelf Frm
open Lib (decDigits)
/-- the values of done operations, one more -/
def upd (v : Nat → Value) (i : Nat) (x : Value) : Nat → Value := fun j => if j = i then x else v j
theorem stepS {S : Nat → Value → World → Prop} {M : Nat → Bool} {v : Nat → Value} {i : Nat} {x : Value} {w w' : World} (h : ∀ j, M j = true → S j (v j) w) (hk : ∀ j y, S j y w → S j y w') (hx : S i x w') : ∀ j, mkd M i j = true → S j (upd v i x j) w' := by
  intro j hj
  unfold upd
  by_cases e : j = i
  · subst e
    rw [if_pos rfl]
    exact hx
  · rw [if_neg e]
    rw [mkd_ne e] at hj
    exact hk _ _ (h j hj)
end Go.Proofs.YtbpnacacnncopaaGreatDoor
