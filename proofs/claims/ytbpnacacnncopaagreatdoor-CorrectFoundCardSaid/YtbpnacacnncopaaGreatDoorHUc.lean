/- The walk of trig's angle of some units. -/
import Derived.Lib.ItoaNum
import Derived.LoopN
import Derived.Test.YtbpnacacnncopaaGreatDoorHShelfT
import Derived.Test.YtbpnacacnncopaaGreatDoorHUe
set_option linter.unusedVariables false
set_option linter.unusedSimpArgs false
namespace Go.Proofs.YtbpnacacnncopaaGreatDoor
open Go.RowKit Go.Shelf
theorem lz64 (x : Int) (w : World) (h0 : 0 ≤ x) (h1 : x ≤ 18446744073709551615) : Calls Tryz.prog 255 #[.int .u64 x] w fun e w' => e = .returned (.int .i64 (64 - (Lib.bitLen x.toNat : Int))) ∧ w' = w :=
  Any.bits_LeadingZeros64 Tryz.lz64 x w h0 h1
/-- how far a divisor is shifted -/
theorem shift_bd {y : Nat} (h0 : 0 < y) (h1 : y < 4294967296) : ∃ k : Nat, k ≤ 31 ∧ 64 - (Lib.bitLen y : Int) = ((32 + k : Nat) : Int) ∧ 2147483648 ≤ y * 2 ^ k ∧ y * 2 ^ k < 4294967296 := by
  obtain ⟨a, b, c⟩ := Lib.bitLenAux_bounds 64 y (Nat.lt_trans h1 (by decide)) (by omega)
  have hl := Lib.bitLen_le y 32 (by omega) (by simpa using h1)
  unfold Lib.bitLen at *
  generalize Lib.bitLenAux 64 y = n at *
  refine ⟨32 - n, by omega, by omega, ?_, ?_⟩
  · have := Nat.mul_le_mul_right (2 ^ (32 - n)) b
    rw [← Nat.pow_add, show n - 1 + (32 - n) = 31 by omega] at this
    exact this
  · have := Nat.mul_lt_mul_of_pos_right c (Nat.two_pow_pos (32 - n))
    rw [← Nat.pow_add, show n + (32 - n) = 32 by omega] at this
    exact this
theorem hE_gen (B q1 q0 yn1 r1 r0 un1 un0 Y : Nat) (hY : yn1 * B = Y) (hU : yn1 * q0 + r0 = r1 * B + un1) : (yn1 * q1 + r1) * (B * B) + un1 * B + un0 = (q1 * B + q0) * Y + (r0 * B + un0) := by
  subst hY
  have h2 : (yn1 * q0 + r0) * B = (r1 * B + un1) * B := by rw [hU]
  grind
/-- what Div64 reckons, for a divisor y of at most 32 digits: s is how far it is shifted -/
theorem div_small {N y s yn1 un32 un1 un0 : Nat} (hy : 0 < y) (hN : N < y * 18446744073709551616) (hn : yn1 * 4294967296 = y * 2 ^ s) (hu : un32 * 18446744073709551616 + un1 * 4294967296 + un0 = N * 2 ^ s)
    (h1 : un1 < 4294967296) (h0 : un0 < 4294967296) :
    un32 / yn1 < 4294967296 ∧ (un32 % yn1 * 4294967296 + un1) / yn1 < 4294967296 ∧
    un32 / yn1 * 4294967296 + (un32 % yn1 * 4294967296 + un1) / yn1 = N / y ∧
    ((un32 % yn1 * 4294967296 + un1) % yn1 * 4294967296 + un0) / 2 ^ s = N % y := by
  have hp : 0 < 2 ^ s := Nat.two_pow_pos s
  have hYp : 0 < y * 2 ^ s := Nat.mul_pos hy hp
  have hyn : 0 < yn1 := by omega
  have q1e := Nat.div_add_mod un32 yn1
  have r1b := Nat.mod_lt un32 hyn
  obtain ⟨q1, hq1d⟩ : ∃ q, q = un32 / yn1 := ⟨_, rfl⟩
  obtain ⟨r1, hr1d⟩ : ∃ q, q = un32 % yn1 := ⟨_, rfl⟩
  rw [← hq1d, ← hr1d] at q1e ⊢
  rw [← hr1d] at r1b
  clear hq1d hr1d
  obtain ⟨U, hU⟩ : ∃ U, U = r1 * 4294967296 + un1 := ⟨_, rfl⟩
  rw [← hU]
  have q0e := Nat.div_add_mod U yn1
  have r0b := Nat.mod_lt U hyn
  obtain ⟨q0, hq0d⟩ : ∃ q, q = U / yn1 := ⟨_, rfl⟩
  obtain ⟨r0, hr0d⟩ : ∃ q, q = U % yn1 := ⟨_, rfl⟩
  rw [← hq0d, ← hr0d] at q0e ⊢
  rw [← hr0d] at r0b
  clear hq0d hr0d
  have hN2 : N * 2 ^ s < y * 2 ^ s * 18446744073709551616 := by
    have := Nat.mul_lt_mul_of_pos_right hN hp
    rw [Nat.mul_right_comm] at this
    exact this
  have hq1 : q1 < 4294967296 := by
    rcases Nat.lt_or_ge q1 4294967296 with hlt | hge
    · exact hlt
    · have := Nat.mul_le_mul_left yn1 hge
      omega
  have hq0 : q0 < 4294967296 := by
    rcases Nat.lt_or_ge q0 4294967296 with hlt | hge
    · exact hlt
    · have := Nat.mul_le_mul_left yn1 hge
      omega
  obtain ⟨Q, hQ⟩ : ∃ Q, Q = q1 * 4294967296 + q0 := ⟨_, rfl⟩
  obtain ⟨R, hRd⟩ : ∃ R, R = r0 * 4294967296 + un0 := ⟨_, rfl⟩
  have hE : N * 2 ^ s = Q * (y * 2 ^ s) + R := by
    have := hE_gen 4294967296 q1 q0 yn1 r1 r0 un1 un0 (y * 2 ^ s) hn (q0e.trans hU)
    rw [q1e, show 4294967296 * 4294967296 = 18446744073709551616 from rfl, ← hQ, ← hRd] at this
    rw [← hu]
    exact this
  have hR : R < y * 2 ^ s := by omega
  rw [← hQ, ← hRd]
  have hd : N = Q * y + R / 2 ^ s := by
    have h3 : N * 2 ^ s / 2 ^ s = N := Nat.mul_div_cancel _ hp
    have h4 : (Q * (y * 2 ^ s) + R) / 2 ^ s = Q * y + R / 2 ^ s := by
      rw [← Nat.mul_assoc, Nat.add_comm, Nat.add_mul_div_right _ _ hp, Nat.add_comm]
    rw [← h3, hE, h4]
  have hr : R / 2 ^ s < y := (Nat.div_lt_iff_lt_mul hp).2 hR
  refine ⟨hq1, hq0, ?_, ?_⟩
  · rw [hd, Nat.mul_comm Q y, Nat.mul_add_div hy, Nat.div_eq_of_lt hr, Nat.add_zero]
  · rw [hd, Nat.mul_comm Q y, Nat.mul_add_mod, Nat.mod_eq_of_lt hr]
/-- what the steps of Div64 give -/
structure DivF (hi lo y : Int) (k : Nat) (Yv yn1 A B u32 C u1 q1 P1 v q0 P0 : Int) : Prop where
  e1 : IntKind.u64.wrap (y * 2 ^ (32 + k)) = Yv
  e2 : Yv / 4294967296 = yn1
  e3 : bits BinOp.and IntKind.u64 Yv 4294967295 = 0
  e4 : IntKind.u64.wrap (hi * 2 ^ (32 + k)) = A
  e5 : lo / 2 ^ (64 - (32 + k)) = B
  e6 : bits BinOp.or IntKind.u64 A B = u32
  e7 : IntKind.u64.wrap (lo * 2 ^ (32 + k)) = C
  e8 : C / 4294967296 = u1
  e9 : bits BinOp.and IntKind.u64 C 4294967295 = 0
  e10 : u32 / yn1 = q1
  e11 : IntKind.u64.wrap (q1 * yn1) = P1
  b1 : 0 ≤ u32 ∧ u32 ≤ 18446744073709551615
  b2 : 2147483648 ≤ yn1 ∧ yn1 ≤ 4294967295
  b3 : 0 ≤ u1 ∧ u1 ≤ 4294967295
  b4 : 0 ≤ q1 ∧ q1 ≤ 4294967295
  b5 : P1 ≤ u32 ∧ u32 - P1 ≤ 4294967294 ∧ 0 ≤ P1
  e12 : IntKind.u64.wrap (IntKind.u64.wrap (IntKind.u64.wrap (u32 * 4294967296) + u1) - IntKind.u64.wrap (q1 * Yv)) = v
  b6 : 0 ≤ v ∧ v ≤ 18446744073709551615
  e13 : v / yn1 = q0
  e14 : IntKind.u64.wrap (q0 * yn1) = P0
  b7 : P0 ≤ v ∧ v - P0 ≤ 4294967294 ∧ 0 ≤ P0
  b8 : 0 ≤ q0 ∧ q0 ≤ 4294967295
  r1 : q1 * 4294967296 + q0 = (hi * 18446744073709551616 + lo) / y
  r2 : IntKind.u64.wrap (IntKind.u64.wrap (IntKind.u64.wrap (v * 4294967296)) - IntKind.u64.wrap (q0 * Yv)) / 2 ^ (32 + k) = (hi * 18446744073709551616 + lo) % y
theorem mask32 {a : Nat} (h : a < 4294967296) : bits BinOp.and IntKind.u64 ((a * 4294967296 : Nat) : Int) 4294967295 = 0 := by
  rw [Mul64.maskN (a * 4294967296) (by omega)]
  omega
theorem or32 {a b c s : Nat} (ha : a < 4294967296) (hb : b < 18446744073709551616) (hbs : b < 2 ^ s) (hc : a * 4294967296 = 2 ^ s * c) : bits BinOp.or IntKind.u64 ((a * 4294967296 : Nat) : Int) (b : Int) = ((a * 4294967296 + b : Nat) : Int) := by
  rw [bits_or_u64_nat (a * 4294967296) b (by omega) hb, hc, ← Nat.two_pow_add_eq_or_of_lt hbs]
theorem wr12 {u r u1 P : Int} (h : P + r = u) (r0 : 0 ≤ r) (r1 : r ≤ 4294967295) (b0 : 0 ≤ u1) (b1 : u1 ≤ 4294967295) :
    IntKind.u64.wrap (IntKind.u64.wrap (IntKind.u64.wrap (u * 4294967296) + u1) - IntKind.u64.wrap (P * 4294967296)) = r * 4294967296 + u1 := by
  rw [IntKind.wrap_u64, IntKind.wrap_u64, IntKind.wrap_u64, IntKind.wrap_u64]
  omega
theorem wr15 {v r P : Int} (h : P + r = v) (r0 : 0 ≤ r) (r1 : r ≤ 4294967295) :
    IntKind.u64.wrap (IntKind.u64.wrap (IntKind.u64.wrap (v * 4294967296)) - IntKind.u64.wrap (P * 4294967296)) = r * 4294967296 := by
  rw [IntKind.wrap_u64, IntKind.wrap_u64, IntKind.wrap_u64, IntKind.wrap_u64]
  omega
set_option maxHeartbeats 1000000 in
set_option maxRecDepth 100000 in
theorem divF {h l y : Nat} (hy : y < 4294967296) (h1 : h < y) (hl : l < 18446744073709551616) {k : Nat} (hk : k ≤ 31) (hp1 : 2147483648 ≤ y * 2 ^ k) (hp2 : y * 2 ^ k < 4294967296) :
    ∃ Yv yn1 A B u32 C u1 q1 P1 v q0 P0 : Int, DivF h l y k Yv yn1 A B u32 C u1 q1 P1 v q0 P0 := by
  have hpp : 0 < 2 ^ k := Nat.two_pow_pos k
  have hcp : 2 ^ (32 - k) * 2 ^ k = 4294967296 := by rw [← Nat.pow_add, show 32 - k + k = 32 by omega]
  have hs : 2 ^ (32 + k) = 4294967296 * 2 ^ k := by rw [Nat.pow_add]
  have hsI : ((2 : Int) ^ (32 + k)) = ((4294967296 * 2 ^ k : Nat) : Int) := by rw [← hs]; simp
  have hcI : ((2 : Int) ^ (64 - (32 + k))) = ((2 ^ (32 - k) : Nat) : Int) := by rw [show 64 - (32 + k) = 32 - k by omega]; simp
  have hc0 : 0 < 2 ^ (32 - k) := Nat.two_pow_pos _
  generalize 2 ^ (32 - k) = c at *
  obtain ⟨p, hp⟩ : ∃ p, p = 2 ^ k := ⟨_, rfl⟩
  rw [← hp] at hpp hcp hs hsI hp1 hp2
  obtain ⟨yn, hyn⟩ : ∃ n, n = y * p := ⟨_, rfl⟩
  rw [← hyn] at hp1 hp2
  obtain ⟨lq, hlq⟩ : ∃ n, n = l / c := ⟨_, rfl⟩
  obtain ⟨lr, hlr⟩ : ∃ n, n = l % c := ⟨_, rfl⟩
  have hlc : lq * c + lr = l := by rw [hlq, hlr]; exact Nat.div_add_mod' l c
  have hlrc : lr < c := by rw [hlr]; exact Nat.mod_lt l hc0
  have hlrp : lr * p + p ≤ 4294967296 := by
    have := Nat.mul_le_mul_right p (show lr + 1 ≤ c from hlrc)
    rw [hcp, Nat.add_mul] at this
    omega
  have hlp : l * p = lq * 4294967296 + lr * p := by rw [← hlc, Nat.add_mul, Nat.mul_assoc, hcp]
  have hhp : h * p + p ≤ yn := by
    have := Nat.mul_le_mul_right p (show h + 1 ≤ y from h1)
    rw [Nat.add_mul] at this
    omega
  have hlqp : lq < 4294967296 * p := by
    rcases Nat.lt_or_ge lq (4294967296 * p) with hlt | hge
    · exact hlt
    · have h3 := Nat.mul_le_mul_right c hge
      rw [Nat.mul_assoc, Nat.mul_comm p c, hcp] at h3
      omega
  obtain ⟨hpv, hhpv⟩ : ∃ n, n = h * p := ⟨_, rfl⟩
  obtain ⟨lrp, hlrpv⟩ : ∃ n, n = lr * p := ⟨_, rfl⟩
  rw [← hhpv] at hhp
  rw [← hlrpv] at hlrp hlp
  have hN : h * 18446744073709551616 + l < y * 18446744073709551616 := by
    have := Nat.mul_le_mul_right 18446744073709551616 (show h + 1 ≤ y from h1)
    omega
  have hhs : h * (4294967296 * p) = hpv * 4294967296 := by rw [hhpv, Nat.mul_left_comm, Nat.mul_comm]
  have hls : l * (4294967296 * p) = lq * 18446744073709551616 + lrp * 4294967296 := by
    rw [Nat.mul_left_comm, hlp]
    omega
  have hys : y * (4294967296 * p) = yn * 4294967296 := by rw [hyn, Nat.mul_left_comm, Nat.mul_comm]
  obtain ⟨a1, a2, a3, a4⟩ := div_small (N := h * 18446744073709551616 + l) (y := y) (s := 32 + k) (yn1 := yn) (un32 := hpv * 4294967296 + lq) (un1 := lrp) (un0 := 0) (by omega) hN (by rw [hs, hys]) (by
    have e9 := Nat.add_mul (h * 18446744073709551616) l (4294967296 * p)
    rw [hls, Nat.mul_right_comm h, hhs] at e9
    rw [hs, e9]
    omega) (by omega) (by omega)
  obtain ⟨u, hu⟩ : ∃ u, u = hpv * 4294967296 + lq := ⟨_, rfl⟩
  rw [← hu] at a1 a2 a3 a4
  have q1e := Nat.div_add_mod' u yn
  have r1b := Nat.mod_lt u (show 0 < yn by omega)
  obtain ⟨q1, hq1⟩ : ∃ q, q = u / yn := ⟨_, rfl⟩
  obtain ⟨r1, hr1⟩ : ∃ q, q = u % yn := ⟨_, rfl⟩
  rw [← hq1, ← hr1] at q1e
  rw [← hr1] at r1b a2 a3 a4
  rw [← hq1] at a1 a3
  obtain ⟨v, hv⟩ : ∃ v, v = r1 * 4294967296 + lrp := ⟨_, rfl⟩
  rw [← hv] at a2 a3 a4
  have q0e := Nat.div_add_mod' v yn
  have r0b := Nat.mod_lt v (show 0 < yn by omega)
  obtain ⟨q0, hq0⟩ : ∃ q, q = v / yn := ⟨_, rfl⟩
  obtain ⟨r0, hr0⟩ : ∃ q, q = v % yn := ⟨_, rfl⟩
  rw [← hq0, ← hr0] at q0e
  rw [← hr0] at r0b a4
  rw [← hq0] at a2 a3
  obtain ⟨P1, hP1⟩ : ∃ n, n = q1 * yn := ⟨_, rfl⟩
  obtain ⟨P0, hP0⟩ : ∃ n, n = q0 * yn := ⟨_, rfl⟩
  rw [← hP1] at q1e
  rw [← hP0] at q0e
  have i1 : ((y : Nat) : Int) * ((4294967296 * p : Nat) : Int) = ((yn * 4294967296 : Nat) : Int) := by rw [← Int.natCast_mul, hys]
  have i2 : ((h : Nat) : Int) * ((4294967296 * p : Nat) : Int) = ((hpv * 4294967296 : Nat) : Int) := by rw [← Int.natCast_mul, hhs]
  have i3 : ((l : Nat) : Int) * ((4294967296 * p : Nat) : Int) = ((lq * 18446744073709551616 + lrp * 4294967296 : Nat) : Int) := by rw [← Int.natCast_mul, hls]
  have i4 : ((q1 : Nat) : Int) * ((yn : Nat) : Int) = ((P1 : Nat) : Int) := by rw [← Int.natCast_mul, hP1]
  have i5 : ((q0 : Nat) : Int) * ((yn : Nat) : Int) = ((P0 : Nat) : Int) := by rw [← Int.natCast_mul, hP0]
  have i6 : ((q1 : Nat) : Int) * ((yn * 4294967296 : Nat) : Int) = ((P1 * 4294967296 : Nat) : Int) := by rw [← Int.natCast_mul, hP1, Nat.mul_assoc]
  have i7 : ((q0 : Nat) : Int) * ((yn * 4294967296 : Nat) : Int) = ((P0 * 4294967296 : Nat) : Int) := by rw [← Int.natCast_mul, hP0, Nat.mul_assoc]
  refine ⟨((yn * 4294967296 : Nat) : Int), (yn : Int), ((hpv * 4294967296 : Nat) : Int), (lq : Int), (u : Int), ((lrp * 4294967296 : Nat) : Int), (lrp : Int), (q1 : Int), (P1 : Int), (v : Int), (q0 : Int), (P0 : Int), ?_⟩
  refine { e1 := ?_, e2 := ?_, e3 := ?_, e4 := ?_, e5 := ?_, e6 := ?_, e7 := ?_, e8 := ?_, e9 := ?_, e10 := ?_, e11 := ?_, b1 := ?_, b2 := ?_, b3 := ?_, b4 := ?_, b5 := ?_, e12 := ?_, b6 := ?_, e13 := ?_, e14 := ?_, b7 := ?_, b8 := ?_, r1 := ?_, r2 := ?_ }
  · rw [hsI, i1, IntKind.wrap_u64]; omega
  · omega
  · exact mask32 (by omega)
  · rw [hsI, i2, IntKind.wrap_u64]; omega
  · rw [hcI, hlq]; exact (Int.natCast_ediv l c).symm
  · rw [hu]
    exact or32 (by omega) (by omega) (by rw [hs]; exact hlqp) (by rw [hs, ← hhs, Nat.mul_comm])
  · rw [hsI, i3, IntKind.wrap_u64]; omega
  · omega
  · exact mask32 (by omega)
  · rw [hq1]; exact (Int.natCast_ediv u yn).symm
  · rw [i4, IntKind.wrap_u64]; omega
  · omega
  · omega
  · omega
  · omega
  · omega
  · have e := wr12 (u := (u : Int)) (r := (r1 : Int)) (u1 := (lrp : Int)) (P := (P1 : Int)) (by omega) (by omega) (by omega) (by omega) (by omega)
    rw [i6, Int.natCast_mul P1, hv, Int.natCast_add, Int.natCast_mul r1]
    exact e
  · omega
  · rw [hq0]; exact (Int.natCast_ediv v yn).symm
  · rw [i5, IntKind.wrap_u64]; omega
  · omega
  · omega
  · have : ((q1 * 4294967296 + q0 : Nat) : Int) = (((h * 18446744073709551616 + l) / y : Nat) : Int) := by rw [a3]
    rw [Int.natCast_ediv, Int.natCast_add, Int.natCast_add, Int.natCast_mul, Int.natCast_mul] at this
    exact this
  · have e := wr15 (v := (v : Int)) (r := (r0 : Int)) (P := (P0 : Int)) (by omega) (by omega) (by omega)
    rw [i7, Int.natCast_mul P0]
    refine Eq.trans (congrArg (· / (2 : Int) ^ (32 + k)) e) ?_
    have e3 : ((r0 : Nat) : Int) * 4294967296 = ((r0 * 4294967296 + 0 : Nat) : Int) := by clear hs hsI hcI a4 a3; omega
    show (r0 : Int) * 4294967296 / (2 : Int) ^ (32 + k) = _
    rw [e3, hsI, ← hs, ← Int.natCast_ediv, a4, Int.natCast_emod, Int.natCast_add, Int.natCast_mul]
    rfl
set_option maxHeartbeats 2000000 in
set_option maxRecDepth 100000 in
theorem div64_pos (hi lo y : Int) (w : World) (hy1 : y < 4294967296) (h0 : 0 < hi) (h1 : hi < y) (hl : U64 lo) (k : Nat) (hk : k ≤ 31) (hs : 64 - (Lib.bitLen y.toNat : Int) = ((32 + k : Nat) : Int)) (Yv yn1 A B u32 C u1 q1 P1 v q0 P0 : Int) (F : DivF hi lo y k Yv yn1 A B u32 C u1 q1 P1 v q0 P0) :
    Calls Tryz.prog 250 #[.int .u64 hi, .int .u64 lo, .int .u64 y] w fun e w' => e = .returned (.tuple #[.int .u64 ((hi * 18446744073709551616 + lo) / y), .int .u64 ((hi * 18446744073709551616 + lo) % y)]) ∧ w' = w := by
  obtain ⟨l0, l1⟩ := hl
  have KL := lz64 y w (by omega) (by omega)
  rw [hs] at KL
  have KL := Lib.hid KL
  have y0 : (y == 0) = false := by rw [beq_eq_false_iff_ne]; omega
  have y1 : decide (y ≤ hi) = false := decide_eq_false (by omega)
  have hz : (hi == 0) = false := by rw [beq_eq_false_iff_ne]; omega
  obtain ⟨e1, e2, e3, e4, e5, e6, e7, e8, e9, e10, e11, ⟨b10, b11⟩, ⟨b20, b21⟩, ⟨b30, b31⟩, ⟨b40, b41⟩, ⟨b50, b51, b52⟩, e12, ⟨b60, b61⟩, e13, e14, ⟨b70, b71, b72⟩, ⟨b80, b81⟩, r1, r2⟩ := F
  have hyn : (yn1 == 0) = false := by rw [beq_eq_false_iff_ne]; clear e1 e2 e3 e4 e5 e6 e7 e8 e9 e10 e11 e12 e13 e14 r1 r2; omega
  have hyn' : ¬ (yn1 = 0) := by clear e1 e2 e3 e4 e5 e6 e7 e8 e9 e10 e11 e12 e13 e14 r1 r2; omega
  have R1 := Lib.hid r1
  have R2 := Lib.hid r2
  clear hs r1 r2
  go_enter Tryz.func250, Tryz.ntmps250
  go_wp2_with (go_at_call 255; (with_reducible refine KL.out.mono ?_); rintro e w1 ⟨rfl, rfl⟩)
  refine wp_loop_rounds 1 ?_
  rw [rounds_succ]
  go_wp2
  refine wp_loop_rounds 1 ?_
  rw [rounds_succ]
  go_wp2
  go_ret2
  exact ⟨by rw [R1.out, R2.out]; rfl, rfl⟩
/-- Div64 at a divisor of at most 32 digits -/
theorem div64 (hi lo y : Int) (w : World) (hy0 : 0 < y) (hy1 : y < 4294967296) (h0 : 0 ≤ hi) (h1 : hi < y) (hl : U64 lo) :
    Calls Tryz.prog 250 #[.int .u64 hi, .int .u64 lo, .int .u64 y] w fun e w' => e = .returned (.tuple #[.int .u64 ((hi * 18446744073709551616 + lo) / y), .int .u64 ((hi * 18446744073709551616 + lo) % y)]) ∧ ∃ n, w' = w.drewN n := by
  by_cases hz : hi = 0
  · subst hz
    obtain ⟨l0, l1⟩ := hl
    have y0 : (y == 0) = false := by rw [beq_eq_false_iff_ne]; omega
    have y2 : ¬ (y = 0) := by omega
    have y1 : decide (y ≤ 0) = false := decide_eq_false (by omega)
    simp only [Int.zero_mul, Int.zero_add]
    go_enter Tryz.func250, Tryz.ntmps250
    go_wp2
    go_quiet (fail)
    go_wp2
    go_ret2
    exact ⟨rfl, _, rfl⟩
  · obtain ⟨k, hk, hs, hp1, hp2⟩ := shift_bd (y := y.toNat) (by omega) (by omega)
    have hl2 := hl
    obtain ⟨l0, l1⟩ := hl
    obtain ⟨Yv, yn1, A, B, u32, C, u1, q1, P1, v, q0, P0, F⟩ := divF (h := hi.toNat) (l := lo.toNat) (y := y.toNat) (by omega) (by omega) (by omega) hk hp1 hp2
    rw [Int.toNat_of_nonneg h0, Int.toNat_of_nonneg l0, Int.toNat_of_nonneg (Int.le_of_lt hy0)] at F
    exact (div64_pos hi lo y w hy1 (by omega) h1 hl2 k hk hs _ _ _ _ _ _ _ _ _ _ _ _ F).mono fun e w' ⟨he, hw⟩ => ⟨he, 0, hw⟩
end Go.Proofs.YtbpnacacnncopaaGreatDoor
namespace Go.Proofs.YtbpnacacnncopaaGreatDoor
open Go.RowKit
/-- two blocks of four words, at the end of the memory that was there -/
structure One4 (w wx : World) (a0 a1 a2 a3 : Int) : Prop where
  bl : Below w.heap.size w wx
  A : Blk wx w.heap.size 254 (arr4 a0 a1 a2 a3)
  C : Blk wx (w.heap.size + 1) 254 (arr4 0 0 0 0)
theorem One4.drewN {w wx : World} {a0 a1 a2 a3 : Int} (h : One4 w wx a0 a1 a2 a3) (n : Nat) : One4 w (wx.drewN n) a0 a1 a2 a3 := ⟨bl_drewN h.bl n, h.A, h.C⟩
theorem One4.start (w : World) (a0 a1 a2 a3 : Int) : One4 w ((w.alloc (.cells (arr4 a0 a1 a2 a3) 254)).alloc (.cells (arr4 0 0 0 0) 254)) a0 a1 a2 a3 := by
  refine ⟨?_, ?_, ?_⟩
  · exact ((Below.refl _ _).alloc (Nat.le_refl _) _).alloc (by simp) _
  · exact (Blk.new w 254 (arr4 a0 a1 a2 a3)).alloc _
  · have := Blk.new (w.alloc (.cells (arr4 a0 a1 a2 a3) 254)) 254 (arr4 0 0 0 0)
    simpa using this
theorem One4.set_ {w wx : World} {a0 a1 a2 a3 : Int} (h : One4 w wx a0 a1 a2 a3) (i : Nat) (u : Value) : 
    Below w.heap.size w (wx.setCell ⟨w.heap.size, i, none⟩ u) ∧ Blk (wx.setCell ⟨w.heap.size, i, none⟩ u) w.heap.size 254 ((arr4 a0 a1 a2 a3).setIfInBounds i u) ∧ Blk (wx.setCell ⟨w.heap.size, i, none⟩ u) (w.heap.size + 1) 254 (arr4 0 0 0 0) :=
  ⟨h.bl.setCell (Nat.le_refl _) _, h.A.set_ i u, h.C.far (by simp) u⟩

theorem One4.set0 {w wx : World} {a0 a1 a2 a3 d : Int} (h : One4 w wx a0 a1 a2 a3) : One4 w (wx.setCell ⟨w.heap.size, 0, none⟩ (.int .u64 d)) d a1 a2 a3 := by
  obtain ⟨h1, h2, h3⟩ := h.set_ 0 (.int .u64 d)
  exact ⟨h1, h2, h3⟩
theorem One4.set1 {w wx : World} {a0 a1 a2 a3 d : Int} (h : One4 w wx a0 a1 a2 a3) : One4 w (wx.setCell ⟨w.heap.size, 1, none⟩ (.int .u64 d)) a0 d a2 a3 := by
  obtain ⟨h1, h2, h3⟩ := h.set_ 1 (.int .u64 d)
  exact ⟨h1, h2, h3⟩
theorem One4.set2 {w wx : World} {a0 a1 a2 a3 d : Int} (h : One4 w wx a0 a1 a2 a3) : One4 w (wx.setCell ⟨w.heap.size, 2, none⟩ (.int .u64 d)) a0 a1 d a3 := by
  obtain ⟨h1, h2, h3⟩ := h.set_ 2 (.int .u64 d)
  exact ⟨h1, h2, h3⟩
theorem One4.set3 {w wx : World} {a0 a1 a2 a3 d : Int} (h : One4 w wx a0 a1 a2 a3) : One4 w (wx.setCell ⟨w.heap.size, 3, none⟩ (.int .u64 d)) a0 a1 a2 d := by
  obtain ⟨h1, h2, h3⟩ := h.set_ 3 (.int .u64 d)
  exact ⟨h1, h2, h3⟩
def dvQ (t a d : Int) : Int := (t * 18446744073709551616 + a) / d
def dvR (t a d : Int) : Int := (t * 18446744073709551616 + a) % d
theorem dv_eq (t a d : Int) : dvQ t a d * d + dvR t a d = t * 18446744073709551616 + a := by
  unfold dvQ dvR
  rw [Int.mul_comm]
  exact Int.mul_ediv_add_emod _ _
theorem dvR_bd (t a : Int) {d : Int} (hd : 0 < d) : 0 ≤ dvR t a d ∧ dvR t a d < d := ⟨Int.emod_nonneg _ (by omega), Int.emod_lt_of_pos _ hd⟩
theorem dvQ_u {t a d : Int} (hd : 0 < d) (t0 : 0 ≤ t) (t1 : t < d) (ha : U64 a) : U64 (dvQ t a d) := by
  obtain ⟨a0, a1⟩ := ha
  refine ⟨Int.ediv_nonneg (by omega) (by omega), ?_⟩
  unfold dvQ
  refine Int.ediv_lt_of_lt_mul hd ?_
  have := Int.mul_le_mul_of_nonneg_right (show t + 1 ≤ d by omega) (show (0 : Int) ≤ 18446744073709551616 by omega)
  rw [Int.mul_comm d] at this
  omega
set_option maxHeartbeats 2000000 in
set_option maxRecDepth 100000 in
theorem divN_any (a0 a1 a2 a3 t0 d : Int) (w : World) (ha0 : U64 a0) (ha1 : U64 a1) (ha2 : U64 a2) (ha3 : U64 a3) (hd0 : 0 < d) (hd1 : d < 4294967296) (h0 : 0 ≤ t0) (h1 : t0 < d) :
    Calls Tryz.prog 257 #[num4 a0 a1 a2 a3, .int .u64 t0, .int .u64 d] w fun e w' => e = .returned (num4 (dvQ t0 a0 d) (dvQ (dvR t0 a0 d) a1 d) (dvQ (dvR (dvR t0 a0 d) a1 d) a2 d) (dvQ (dvR (dvR (dvR t0 a0 d) a1 d) a2 d) a3 d)) ∧ Below w.heap.size w w' := by
  have K0 : Hid (∀ W, Calls Tryz.prog 250 #[.int .u64 t0, .int .u64 a0, .int .u64 d] W fun e w' => e = .returned (.tuple #[.int .u64 (dvQ t0 a0 d), .int .u64 (dvR t0 a0 d)]) ∧ ∃ n, w' = W.drewN n) := Lib.hid (fun W => div64 t0 a0 d W hd0 hd1 h0 h1 ha0)
  have c0 := dvR_bd t0 a0 hd0
  generalize dvR t0 a0 d = t1 at *
  generalize dvQ t0 a0 d = q0 at *
  have K1 : Hid (∀ W, Calls Tryz.prog 250 #[.int .u64 t1, .int .u64 a1, .int .u64 d] W fun e w' => e = .returned (.tuple #[.int .u64 (dvQ t1 a1 d), .int .u64 (dvR t1 a1 d)]) ∧ ∃ n, w' = W.drewN n) := Lib.hid (fun W => div64 t1 a1 d W hd0 hd1 c0.1 c0.2 ha1)
  have c1 := dvR_bd t1 a1 hd0
  generalize dvR t1 a1 d = t2 at *
  generalize dvQ t1 a1 d = q1 at *
  have K2 : Hid (∀ W, Calls Tryz.prog 250 #[.int .u64 t2, .int .u64 a2, .int .u64 d] W fun e w' => e = .returned (.tuple #[.int .u64 (dvQ t2 a2 d), .int .u64 (dvR t2 a2 d)]) ∧ ∃ n, w' = W.drewN n) := Lib.hid (fun W => div64 t2 a2 d W hd0 hd1 c1.1 c1.2 ha2)
  have c2 := dvR_bd t2 a2 hd0
  generalize dvR t2 a2 d = t3 at *
  generalize dvQ t2 a2 d = q2 at *
  have K3 : Hid (∀ W, Calls Tryz.prog 250 #[.int .u64 t3, .int .u64 a3, .int .u64 d] W fun e w' => e = .returned (.tuple #[.int .u64 (dvQ t3 a3 d), .int .u64 (dvR t3 a3 d)]) ∧ ∃ n, w' = W.drewN n) := Lib.hid (fun W => div64 t3 a3 d W hd0 hd1 c2.1 c2.2 ha3)
  have c3 := dvR_bd t3 a3 hd0
  generalize dvR t3 a3 d = t4 at *
  generalize dvQ t3 a3 d = q3 at *
  clear ha0 ha1 ha2 ha3 hd0 hd1 h0 h1 c0 c1 c2 c3
  go_enter Tryz.func257, Tryz.ntmps257
  go_wp2
  have T0 := Lib.hid (One4.start w a0 a1 a2 a3)
  unfold arr4 at T0
  generalize (w.alloc (.cells #[.int .u64 a0, .int .u64 a1, .int .u64 a2, .int .u64 a3] 254)).alloc (.cells #[.int .u64 0, .int .u64 0, .int .u64 0, .int .u64 0] 254) = w0 at *
  refine wp_loop_rounds 5 ?_
  rw [rounds_succ]
  have x := T0.out.A.cell 0
  simp at x
  go_wp2_with fail
  (with_reducible refine (K0.out _).mono ?_)
  rintro e wy ⟨rfl, n, rfl⟩
  have x := (T0.out.drewN n).A.cell 0
  have f := (T0.out.drewN n).A.frozen 0
  simp at x
  go_wp2
  have T1 := Lib.hid ((T0.out.drewN n).set0 (d := q0))
  generalize ((w0.drewN n).setCell ⟨w.heap.size, 0, none⟩ (.int .u64 q0)) = w1 at *
  clear x f K0 T0
  rw [rounds_succ]
  have x := T1.out.A.cell 1
  simp at x
  go_wp2_with fail
  (with_reducible refine (K1.out _).mono ?_)
  rintro e wy ⟨rfl, n, rfl⟩
  have x := (T1.out.drewN n).A.cell 1
  have f := (T1.out.drewN n).A.frozen 1
  simp at x
  go_wp2
  have T2 := Lib.hid ((T1.out.drewN n).set1 (d := q1))
  generalize ((w1.drewN n).setCell ⟨w.heap.size, 1, none⟩ (.int .u64 q1)) = w2 at *
  clear x f K1 T1
  rw [rounds_succ]
  have x := T2.out.A.cell 2
  simp at x
  go_wp2_with fail
  (with_reducible refine (K2.out _).mono ?_)
  rintro e wy ⟨rfl, n, rfl⟩
  have x := (T2.out.drewN n).A.cell 2
  have f := (T2.out.drewN n).A.frozen 2
  simp at x
  go_wp2
  have T3 := Lib.hid ((T2.out.drewN n).set2 (d := q2))
  generalize ((w2.drewN n).setCell ⟨w.heap.size, 2, none⟩ (.int .u64 q2)) = w3 at *
  clear x f K2 T2
  rw [rounds_succ]
  have x := T3.out.A.cell 3
  simp at x
  go_wp2_with fail
  (with_reducible refine (K3.out _).mono ?_)
  rintro e wy ⟨rfl, n, rfl⟩
  have x := (T3.out.drewN n).A.cell 3
  have f := (T3.out.drewN n).A.frozen 3
  simp at x
  go_wp2
  have T4 := Lib.hid ((T3.out.drewN n).set3 (d := q3))
  generalize ((w3.drewN n).setCell ⟨w.heap.size, 3, none⟩ (.int .u64 q3)) = w4 at *
  clear x f K3 T3
  rw [rounds_succ]
  have x0 := T4.out.A.cell 0
  have x1 := T4.out.A.cell 1
  have x2 := T4.out.A.cell 2
  have x3 := T4.out.A.cell 3
  have z0 := T4.out.C.cell 0
  have z1 := T4.out.C.cell 1
  have z2 := T4.out.C.cell 2
  have z3 := T4.out.C.cell 3
  have f0 := T4.out.C.frozen 0
  have f1 := T4.out.C.frozen 1
  have f2 := T4.out.C.frozen 2
  have f3 := T4.out.C.frozen 3
  simp at x0 x1 x2 x3 z0 z1 z2 z3
  go_wp2
  refine bodyPost_ret (v := num4 q0 q1 q2 q3) (by simp [results, Tryz.results257, go_sem, *]) rfl ⟨rfl, ?_⟩
  exact (((T4.out.bl.setCell (by simp) _).setCell (by simp) _).setCell (by simp) _).setCell (by simp) _
end Go.Proofs.YtbpnacacnncopaaGreatDoor
namespace Go.Proofs.YtbpnacacnncopaaGreatDoor
open Go.RowKit
theorem prod_gen (M M2 M3 M4 a0 a1 a2 a3 b0 b1 b2 b3 : Int) (h2 : M2 = M * M) (h3 : M3 = M2 * M) (h4 : M4 = M3 * M) :
    (a0 * M3 + a1 * M2 + a2 * M + a3) * (b0 * M3 + b1 * M2 + b2 * M + b3) = (a3 * b1 + a3 * b0 * M + (a2 * b2 + a2 * b1 * M + a2 * b0 * M2) + (a1 * b3 + a1 * b2 * M + a1 * b1 * M2 + a1 * b0 * M3) + (a0 * b3 * M + a0 * b2 * M2 + a0 * b1 * M3 + a0 * b0 * M4)) * M2 + (a2 * b3 + a3 * b2) * M + a3 * b3 := by
  subst h2 h3 h4
  grind
/-- a number of 256 digits, and its value -/
structure NV (a0 a1 a2 a3 : Int) (n : Nat) : Prop where
  u0 : U64 a0
  u1 : U64 a1
  u2 : U64 a2
  u3 : U64 a3
  v : nv a0 a1 a2 a3 = n
theorem nv_bd {a0 a1 a2 a3 : Int} (h0 : U64 a0) (h1 : U64 a1) (h2 : U64 a2) (h3 : U64 a3) : 0 ≤ nv a0 a1 a2 a3 ∧ nv a0 a1 a2 a3 < 115792089237316195423570985008687907853269984665640564039457584007913129639936 := by
  unfold U64 nv at *
  omega
theorem NV.lt {a0 a1 a2 a3 : Int} {n : Nat} (h : NV a0 a1 a2 a3 n) : n < Trig.ZN := by
  have := nv_bd h.u0 h.u1 h.u2 h.u3
  rw [h.v] at this
  unfold Trig.ZN
  omega
theorem NV.of {a0 a1 a2 a3 : Int} (h0 : U64 a0) (h1 : U64 a1) (h2 : U64 a2) (h3 : U64 a3) : NV a0 a1 a2 a3 (nv a0 a1 a2 a3).toNat := ⟨h0, h1, h2, h3, (Int.toNat_of_nonneg (nv_bd h0 h1 h2 h3).1).symm⟩
/-- a call returns a number of which something is said -/
def RetN (p : Nat → Prop) (w : World) (e : Ending) (w' : World) : Prop := ∃ v0 v1 v2 v3 : Int, ∃ V : Nat, e = .returned (num4 v0 v1 v2 v3) ∧ NV v0 v1 v2 v3 V ∧ p V ∧ Below w.heap.size w w'
theorem prod_eq (a0 a1 a2 a3 b0 b1 b2 b3 : Int) : nv a0 a1 a2 a3 * nv b0 b1 b2 b3 = (a3 * b1 + a3 * b0 * 18446744073709551616 + (a2 * b2 + a2 * b1 * 18446744073709551616 + a2 * b0 * 340282366920938463463374607431768211456) + (a1 * b3 + a1 * b2 * 18446744073709551616 + a1 * b1 * 340282366920938463463374607431768211456 + a1 * b0 * 6277101735386680763835789423207666416102355444464034512896) + (a0 * b3 * 18446744073709551616 + a0 * b2 * 340282366920938463463374607431768211456 + a0 * b1 * 6277101735386680763835789423207666416102355444464034512896 + a0 * b0 * 115792089237316195423570985008687907853269984665640564039457584007913129639936)) * 340282366920938463463374607431768211456 + (a2 * b3 + a3 * b2) * 18446744073709551616 + a3 * b3 :=
  prod_gen 18446744073709551616 340282366920938463463374607431768211456 6277101735386680763835789423207666416102355444464034512896 115792089237316195423570985008687907853269984665640564039457584007913129639936 a0 a1 a2 a3 b0 b1 b2 b3 (by decide) (by decide) (by decide)
theorem mulV {a0 a1 a2 a3 b0 b1 b2 b3 : Int} {A B : Nat} (ha : NV a0 a1 a2 a3 A) (hb : NV b0 b1 b2 b3 B) (w : World) :
    Calls Tryz.prog 253 #[num4 a0 a1 a2 a3, num4 b0 b1 b2 b3] w (RetN (fun V => Trig.MulOk A B V) w) := by
  have hp := prod_eq a0 a1 a2 a3 b0 b1 b2 b3
  have la := nv_bd ha.u0 ha.u1 ha.u2 ha.u3
  have lb := nv_bd hb.u0 hb.u1 hb.u2 hb.u3
  have hlt : nv a0 a1 a2 a3 * nv b0 b1 b2 b3 ≤ 115792089237316195423570985008687907853269984665640564039457584007913129639935 * 115792089237316195423570985008687907853269984665640564039457584007913129639935 := Int.mul_le_mul (by omega) (by omega) lb.1 (by omega)
  have m1 := mul_lt ha.u2 hb.u3
  have m2 := mul_lt ha.u3 hb.u2
  have m3 := mul_lt ha.u3 hb.u3
  generalize hT : a3 * b1 + a3 * b0 * 18446744073709551616 + (a2 * b2 + a2 * b1 * 18446744073709551616 + a2 * b0 * 340282366920938463463374607431768211456) + (a1 * b3 + a1 * b2 * 18446744073709551616 + a1 * b1 * 340282366920938463463374607431768211456 + a1 * b0 * 6277101735386680763835789423207666416102355444464034512896) + (a0 * b3 * 18446744073709551616 + a0 * b2 * 340282366920938463463374607431768211456 + a0 * b1 * 6277101735386680763835789423207666416102355444464034512896 + a0 * b0 * 115792089237316195423570985008687907853269984665640564039457584007913129639936) = T at hp
  generalize a2 * b3 = x1 at *
  generalize a3 * b2 = x2 at *
  generalize a3 * b3 = x3 at *
  have hpp : ((A * B : Nat) : Int) = nv a0 a1 a2 a3 * nv b0 b1 b2 b3 := by rw [ha.v, hb.v, Int.natCast_mul]
  rw [hp] at hpp hlt
  refine (mulW a0 a1 a2 a3 b0 b1 b2 b3 w ha.u0 ha.u1 ha.u2 ha.u3 hb.u0 hb.u1 hb.u2 hb.u3 ?_).mono ?_
  · omega
  · rintro e w' ⟨⟨v0, v1, v2, v3, v4, v5, rfl, ⟨u0, u1, u2, u3, u4, u5⟩, hv⟩, hbl⟩
    have hv2 : nv6 v0 v1 v2 v3 v4 v5 = T := by rw [hv, ← hT]; omega
    refine ⟨v0, v1, v2, v3, (nv v0 v1 v2 v3).toNat, rfl, NV.of u0 u1 u2 u3, ?_, hbl⟩
    have hn := nv_bd u0 u1 u2 u3
    have e6 : nv6 v0 v1 v2 v3 v4 v5 = nv v0 v1 v2 v3 * 340282366920938463463374607431768211456 + v4 * 18446744073709551616 + v5 := by unfold nv6 nv; omega
    rw [hv2] at e6
    have hVc : (((nv v0 v1 v2 v3).toNat : Nat) : Int) = nv v0 v1 v2 v3 := Int.toNat_of_nonneg hn.1
    unfold U64 at u4 u5
    clear hv hv2 hT hp hlt
    generalize (nv v0 v1 v2 v3).toNat = V at *
    generalize nv v0 v1 v2 v3 = n at *
    subst hVc
    show Trig.MulOk A B V
    unfold Trig.MulOk Trig.ZN
    generalize A * B = P at *
    constructor
    · omega
    · omega
theorem divV {a0 a1 a2 a3 t d : Int} {A : Nat} (ha : NV a0 a1 a2 a3 A) (hd0 : 0 < d) (hd1 : d < 4294967296) (h0 : 0 ≤ t) (h1 : t < d) (w : World) :
    Calls Tryz.prog 257 #[num4 a0 a1 a2 a3, .int .u64 t, .int .u64 d] w (RetN (fun V => (V : Int) = (t * 115792089237316195423570985008687907853269984665640564039457584007913129639936 + A) / d) w) := by
  refine (divN_any a0 a1 a2 a3 t d w ha.u0 ha.u1 ha.u2 ha.u3 hd0 hd1 h0 h1).mono ?_
  rintro e w' ⟨rfl, hbl⟩
  have c0 := dvR_bd t a0 hd0
  have e0 := dv_eq t a0 d
  have q0 := dvQ_u hd0 h0 h1 ha.u0
  generalize dvQ t a0 d = Q0 at *
  generalize dvR t a0 d = R0 at *
  have c1 := dvR_bd R0 a1 hd0
  have e1 := dv_eq R0 a1 d
  have q1 := dvQ_u hd0 c0.1 c0.2 ha.u1
  generalize dvQ R0 a1 d = Q1 at *
  generalize dvR R0 a1 d = R1 at *
  have c2 := dvR_bd R1 a2 hd0
  have e2 := dv_eq R1 a2 d
  have q2 := dvQ_u hd0 c1.1 c1.2 ha.u2
  generalize dvQ R1 a2 d = Q2 at *
  generalize dvR R1 a2 d = R2 at *
  have c3 := dvR_bd R2 a3 hd0
  have e3 := dv_eq R2 a3 d
  have q3 := dvQ_u hd0 c2.1 c2.2 ha.u3
  generalize dvQ R2 a3 d = Q3 at *
  generalize dvR R2 a3 d = R3 at *
  refine ⟨Q0, Q1, Q2, Q3, (nv Q0 Q1 Q2 Q3).toNat, rfl, NV.of q0 q1 q2 q3, ?_, hbl⟩
  show (((nv Q0 Q1 Q2 Q3).toNat : Nat) : Int) = _
  rw [Int.toNat_of_nonneg (nv_bd q0 q1 q2 q3).1, ← ha.v]
  refine (((Int.ediv_emod_unique (r := R3) hd0).2 ⟨?_, c3⟩).1).symm
  unfold nv
  have f0 : d * (Q0 * 6277101735386680763835789423207666416102355444464034512896 + Q1 * 340282366920938463463374607431768211456 + Q2 * 18446744073709551616 + Q3) = Q0 * d * 6277101735386680763835789423207666416102355444464034512896 + Q1 * d * 340282366920938463463374607431768211456 + Q2 * d * 18446744073709551616 + Q3 * d := by grind
  rw [f0]
  omega
theorem subV {a0 a1 a2 a3 b0 b1 b2 b3 : Int} {A B : Nat} (ha : NV a0 a1 a2 a3 A) (hb : NV b0 b1 b2 b3 B) (w : World) :
    Calls Tryz.prog 252 #[num4 a0 a1 a2 a3, num4 b0 b1 b2 b3] w (RetN (fun V => (B ≤ A → V = A - B) ∧ (A < B → V = A + Trig.ZN - B)) w) := by
  refine (subN_any a0 a1 a2 a3 b0 b1 b2 b3 w ha.u0 ha.u1 ha.u2 ha.u3 hb.u0 hb.u1 hb.u2 hb.u3).mono ?_
  rintro e w' ⟨rfl, hbl⟩
  have e3 := su_eq ha.u3 hb.u3 (by omega : (0 : Int) ≤ 0) (by omega)
  have c3 := suB_bd a3 b3 0
  have u3 := suD_u a3 b3 0
  generalize suB a3 b3 0 = k3 at *
  generalize suD a3 b3 0 = d3 at *
  have e2 := su_eq ha.u2 hb.u2 c3.1 c3.2
  have c2 := suB_bd a2 b2 k3
  have u2 := suD_u a2 b2 k3
  generalize suB a2 b2 k3 = k2 at *
  generalize suD a2 b2 k3 = d2 at *
  have e1 := su_eq ha.u1 hb.u1 c2.1 c2.2
  have c1 := suB_bd a1 b1 k2
  have u1 := suD_u a1 b1 k2
  generalize suB a1 b1 k2 = k1 at *
  generalize suD a1 b1 k2 = d1 at *
  have e0 := su_eq ha.u0 hb.u0 c1.1 c1.2
  have c0 := suB_bd a0 b0 k1
  have u0 := suD_u a0 b0 k1
  generalize suB a0 b0 k1 = k0 at *
  generalize suD a0 b0 k1 = d0 at *
  refine ⟨d0, d1, d2, d3, (nv d0 d1 d2 d3).toNat, rfl, NV.of u0 u1 u2 u3, ?_, hbl⟩
  have hn := nv_bd u0 u1 u2 u3
  have hA := ha.v
  have hB := hb.v
  have lA := ha.lt
  have lB := hb.lt
  have hVc : (((nv d0 d1 d2 d3).toNat : Nat) : Int) = nv d0 d1 d2 d3 := Int.toNat_of_nonneg hn.1
  have hk : nv d0 d1 d2 d3 = nv a0 a1 a2 a3 - nv b0 b1 b2 b3 + k0 * 115792089237316195423570985008687907853269984665640564039457584007913129639936 := by
    unfold nv
    omega
  rw [hA, hB, ← hVc] at hk
  rw [← hVc] at hn
  generalize (nv d0 d1 d2 d3).toNat = V at *
  unfold Trig.ZN at *
  clear hA hB hVc e0 e1 e2 e3 u0 u1 u2 u3
  constructor
  · intro h
    have : k0 = 0 ∨ k0 = 1 := by omega
    rcases this with rfl | rfl <;> omega
  · intro h
    have : k0 = 0 ∨ k0 = 1 := by omega
    rcases this with rfl | rfl <;> omega
end Go.Proofs.YtbpnacacnncopaaGreatDoor
namespace Go.Proofs.YtbpnacacnncopaaGreatDoor
open Go.RowKit
/-- a result and a number, at the end of the memory that was there -/
structure R2 (w wx : World) (a0 a1 a2 a3 : Int) : Prop where
  bl : Below w.heap.size w wx
  A : Blk wx (w.heap.size + 1) 254 (arr4 a0 a1 a2 a3)
  C : Blk wx w.heap.size 254 (arr4 0 0 0 0)
theorem R2.start (w : World) (a0 a1 a2 a3 : Int) : R2 w ((w.alloc (.cells (arr4 0 0 0 0) 254)).alloc (.cells (arr4 a0 a1 a2 a3) 254)) a0 a1 a2 a3 := by
  refine ⟨?_, ?_, ?_⟩
  · exact ((Below.refl _ _).alloc (Nat.le_refl _) _).alloc (by simp) _
  · have := Blk.new (w.alloc (.cells (arr4 0 0 0 0) 254)) 254 (arr4 a0 a1 a2 a3)
    simpa using this
  · exact (Blk.new w 254 (arr4 0 0 0 0)).alloc _
theorem R2.set_ {w wx : World} {a0 a1 a2 a3 : Int} (h : R2 w wx a0 a1 a2 a3) (i : Nat) (u : Value) : 
    Below w.heap.size w (wx.setCell ⟨w.heap.size + 1, i, none⟩ u) ∧ Blk (wx.setCell ⟨w.heap.size + 1, i, none⟩ u) (w.heap.size + 1) 254 ((arr4 a0 a1 a2 a3).setIfInBounds i u) ∧ Blk (wx.setCell ⟨w.heap.size + 1, i, none⟩ u) w.heap.size 254 (arr4 0 0 0 0) :=
  ⟨h.bl.setCell (show w.heap.size ≤ w.heap.size + 1 by omega) _, h.A.set_ i u, h.C.far (show w.heap.size ≠ w.heap.size + 1 by omega) u⟩
theorem R2.set0 {w wx : World} {a0 a1 a2 a3 d : Int} (h : R2 w wx a0 a1 a2 a3) : R2 w (wx.setCell ⟨w.heap.size + 1, 0, none⟩ (.int .u64 d)) d a1 a2 a3 := by
  obtain ⟨h1, h2, h3⟩ := h.set_ 0 (.int .u64 d)
  exact ⟨h1, h2, h3⟩
theorem R2.set1 {w wx : World} {a0 a1 a2 a3 d : Int} (h : R2 w wx a0 a1 a2 a3) : R2 w (wx.setCell ⟨w.heap.size + 1, 1, none⟩ (.int .u64 d)) a0 d a2 a3 := by
  obtain ⟨h1, h2, h3⟩ := h.set_ 1 (.int .u64 d)
  exact ⟨h1, h2, h3⟩
theorem R2.set2 {w wx : World} {a0 a1 a2 a3 d : Int} (h : R2 w wx a0 a1 a2 a3) : R2 w (wx.setCell ⟨w.heap.size + 1, 2, none⟩ (.int .u64 d)) a0 a1 d a3 := by
  obtain ⟨h1, h2, h3⟩ := h.set_ 2 (.int .u64 d)
  exact ⟨h1, h2, h3⟩
theorem R2.set3 {w wx : World} {a0 a1 a2 a3 d : Int} (h : R2 w wx a0 a1 a2 a3) : R2 w (wx.setCell ⟨w.heap.size + 1, 3, none⟩ (.int .u64 d)) a0 a1 a2 d := by
  obtain ⟨h1, h2, h3⟩ := h.set_ 3 (.int .u64 d)
  exact ⟨h1, h2, h3⟩
theorem radStep {p n t : Int} (hp : U64 p) (hn0 : 0 ≤ n) (hn1 : n ≤ 2700000) (ht0 : 0 ≤ t) (ht1 : t ≤ n) : ∃ H L S C t' : Int,
    (∀ W, Calls Tryz.prog 228 #[.int .u64 p, .int .u64 n] W fun e w' => e = .returned (.tuple #[.int .u64 H, .int .u64 L]) ∧ w' = W) ∧
    (∀ W, (callFunc 256 #[.int .u64 L, .int .u64 t, .int .u64 0]).run Tryz.prog W = .ok (.value (.tuple #[.int .u64 S, .int .u64 C])) W) ∧
    0 ≤ H ∧ H ≤ 18446744073709551614 ∧ 0 ≤ C ∧ C ≤ 1 ∧ H + C = t' ∧ 0 ≤ t' ∧ t' ≤ n ∧ U64 S ∧ S + 18446744073709551616 * t' = p * n + t := by
  have hn : U64 n := ⟨hn0, by omega⟩
  have ht : U64 t := ⟨ht0, by omega⟩
  have hL := muL_u p n
  have hH := muH_bd hp hn
  have e1 := mu_eq p n
  have e2 := ad_eq (muL p n) t 0
  have b2 := adC_bd hL ht (by omega : (0 : Int) ≤ 0) (by omega)
  have u2 := adS_u (muL p n) t 0
  have hb : p * n ≤ 18446744073709551615 * n := Int.mul_le_mul_of_nonneg_right (by have := hp.2; omega) hn0
  refine ⟨muH p n, muL p n, adS (muL p n) t 0, adC (muL p n) t 0, _, fun W => mul64 p n hp hn W, fun W => add64_0 _ t hL ht W, hH.1, hH.2, b2.1, b2.2, rfl, by omega, ?_, u2, by omega⟩
  unfold U64 at *
  generalize muL p n = L at *
  generalize muH p n = H at *
  generalize p * n = q at *
  generalize adS L t 0 = S at *
  generalize adC L t 0 = C at *
  omega
set_option maxHeartbeats 4000000 in
set_option maxRecDepth 100000 in
theorem radiansV (n : Int) (w : World) (h0 : 0 ≤ n) (h1 : n ≤ 2700000) : Calls Tryz.prog 251 #[.int .i64 n] w (RetN (fun V => V = Trig.radN n.toNat) w) := by
  have hw : IntKind.u64.wrap n = n := by rw [IntKind.wrap_u64]; omega
  obtain ⟨H3, L3, S3, C3, t3, km, ka, bh03, bh13, bc03, bc13, ec, bt03, bt13, us3, es3⟩ := radStep (p := 589684135938649225) (n := n) (t := 0) ⟨by omega, by omega⟩ h0 h1 (by omega) h0
  have KM3 := Lib.hid km
  have KA3 := Lib.hid ka
  have EC3 := Lib.hid ec
  have US3 := Lib.hid us3
  have ES3 := Lib.hid es3
  clear km ka ec us3 es3
  obtain ⟨H2, L2, S2, C2, t2, km, ka, bh02, bh12, bc02, bc12, ec, bt02, bt12, us2, es2⟩ := radStep (p := 11820040416388919760) (n := n) (t := t3) ⟨by omega, by omega⟩ h0 h1 bt03 bt13
  have KM2 := Lib.hid km
  have KA2 := Lib.hid ka
  have EC2 := Lib.hid ec
  have US2 := Lib.hid us2
  have ES2 := Lib.hid es2
  clear km ka ec us2 es2
  obtain ⟨H1, L1, S1, C1, t1, km, ka, bh01, bh11, bc01, bc11, ec, bt01, bt11, us1, es1⟩ := radStep (p := 1376283091369227076) (n := n) (t := t2) ⟨by omega, by omega⟩ h0 h1 bt02 bt12
  have KM1 := Lib.hid km
  have KA1 := Lib.hid ka
  have EC1 := Lib.hid ec
  have US1 := Lib.hid us1
  have ES1 := Lib.hid es1
  clear km ka ec us1 es1
  obtain ⟨H0, L0, S0, C0, t0, km, ka, bh00, bh10, bc00, bc10, ec, bt00, bt10, us0, es0⟩ := radStep (p := 2611923443488327891) (n := n) (t := t1) ⟨by omega, by omega⟩ h0 h1 bt01 bt11
  have KM0 := Lib.hid km
  have KA0 := Lib.hid ka
  have EC0 := Lib.hid ec
  have US0 := Lib.hid us0
  have ES0 := Lib.hid es0
  clear km ka ec us0 es0
  have ht : 0 ≤ t0 + 3 * n ∧ t0 + 3 * n < 10800000 := by
    by_cases hz : n = 0
    · omega
    · have e0 := ES0.out
      have e1 := US0.out.1
      omega
  have KD := Lib.hid (fun W => divV (NV.of US0.out US1.out US2.out US3.out) (show (0 : Int) < 10800000 by omega) (by omega) ht.1 ht.2 W)
  go_enter Tryz.func251, Tryz.ntmps251
  go_wp2
  have T4 := Lib.hid (R2.start w 2611923443488327891 1376283091369227076 11820040416388919760 589684135938649225)
  unfold arr4 at T4
  generalize (w.alloc (.cells #[.int .u64 0, .int .u64 0, .int .u64 0, .int .u64 0] 254)).alloc (.cells #[.int .u64 2611923443488327891, .int .u64 1376283091369227076, .int .u64 11820040416388919760, .int .u64 589684135938649225] 254) = w4 at *
  refine wp_loop_rounds 5 ?_
  rw [rounds_succ]
  have x := T4.out.A.cell 3
  have f := T4.out.A.frozen 3
  simp at x
  have ka := KA3.out
  have ec := EC3.out
  go_wp2_with (go_at_call 228; (with_reducible refine (KM3.out _).mono ?_); rintro e wy ⟨rfl, rfl⟩)
  rename World => w4
  have T3 := Lib.hid (T4.out.set3 (d := S3))
  generalize (w4.setCell ⟨w.heap.size + 1, 3, none⟩ (.int .u64 S3)) = w3' at *
  clear x f ka ec KM3 KA3 EC3 T4
  rw [rounds_succ]
  have x := T3.out.A.cell 2
  have f := T3.out.A.frozen 2
  simp at x
  have ka := KA2.out
  have ec := EC2.out
  go_wp2_with (go_at_call 228; (with_reducible refine (KM2.out _).mono ?_); rintro e wy ⟨rfl, rfl⟩)
  rename World => w3
  have T2 := Lib.hid (T3.out.set2 (d := S2))
  generalize (w3.setCell ⟨w.heap.size + 1, 2, none⟩ (.int .u64 S2)) = w2' at *
  clear x f ka ec KM2 KA2 EC2 T3
  rw [rounds_succ]
  have x := T2.out.A.cell 1
  have f := T2.out.A.frozen 1
  simp at x
  have ka := KA1.out
  have ec := EC1.out
  go_wp2_with (go_at_call 228; (with_reducible refine (KM1.out _).mono ?_); rintro e wy ⟨rfl, rfl⟩)
  rename World => w2
  have T1 := Lib.hid (T2.out.set1 (d := S1))
  generalize (w2.setCell ⟨w.heap.size + 1, 1, none⟩ (.int .u64 S1)) = w1' at *
  clear x f ka ec KM1 KA1 EC1 T2
  rw [rounds_succ]
  have x := T1.out.A.cell 0
  have f := T1.out.A.frozen 0
  simp at x
  have ka := KA0.out
  have ec := EC0.out
  go_wp2_with (go_at_call 228; (with_reducible refine (KM0.out _).mono ?_); rintro e wy ⟨rfl, rfl⟩)
  rename World => w1
  have T0 := Lib.hid (T1.out.set0 (d := S0))
  generalize (w1.setCell ⟨w.heap.size + 1, 0, none⟩ (.int .u64 S0)) = w0' at *
  clear x f ka ec KM0 KA0 EC0 T1
  rw [rounds_succ]
  have x0 := T0.out.A.cell 0
  have x1 := T0.out.A.cell 1
  have x2 := T0.out.A.cell 2
  have x3 := T0.out.A.cell 3
  simp at x0 x1 x2 x3
  have hmod : (t0 + 3 * n) % 10800000 = t0 + 3 * n := Int.emod_eq_of_lt ht.1 ht.2
  obtain ⟨ht0, ht1⟩ := ht
  go_wp2_with fail
  (with_reducible refine (KD.out _).mono ?_)
  rintro e w9 ⟨v0, v1, v2, v3, V, rfl, hV, hq, hb⟩
  have hC := T0.out.C.below hb T0.out.C.lt
  have z0 := hC.cell 0
  have z1 := hC.cell 1
  have z2 := hC.cell 2
  have z3 := hC.cell 3
  have f0 := hC.frozen 0
  have f1 := hC.frozen 1
  have f2 := hC.frozen 2
  have f3 := hC.frozen 3
  simp at z0 z1 z2 z3
  have hbl := T0.out.bl.trans (hb.mono T0.out.bl.size)
  have HQ := Lib.hid hq
  clear hq x0 x1 x2 x3 hmod
  go_wp2
  refine bodyPost_ret (v := num4 v0 v1 v2 v3) (by simp [results, Tryz.results251, go_sem, *]) rfl ⟨v0, v1, v2, v3, V, rfl, hV, ?_, ?_⟩
  · have hq := HQ.out
    have e3 := ES3.out
    have e2 := ES2.out
    have e1 := ES1.out
    have e0 := ES0.out
    have hnn := Int.toNat_of_nonneg (nv_bd US0.out US1.out US2.out US3.out).1
    have hnv : nv S0 S1 S2 S3 = S0 * 6277101735386680763835789423207666416102355444464034512896 + S1 * 340282366920938463463374607431768211456 + S2 * 18446744073709551616 + S3 := rfl
    have hN : ((n.toNat : Nat) : Int) = n := Int.toNat_of_nonneg h0
    have hI : (V : Int) = ((Trig.PiN * n.toNat / 10800000 : Nat) : Int) := by
      rw [hq, hnn, Int.natCast_ediv, Int.natCast_mul, hN]
      have hnum : (t0 + 3 * n) * 115792089237316195423570985008687907853269984665640564039457584007913129639936 + nv S0 S1 S2 S3 = (Trig.PiN : Int) * n := by
        have hP : ((Trig.PiN : Nat) : Int) = 363771576891766324280234942777729862653393377328392429958772151117938894466185 := rfl
        rw [hnv, hP]
        clear hP hq hnn hnv hN z0 z1 z2 z3 f0 f1 f2 f3
        omega
      rw [hnum]
      rfl
    show V = Trig.radN n.toNat
    unfold Trig.radN
    omega
  · exact (((hbl.setCell (Nat.le_refl _) _).setCell (Nat.le_refl _) _).setCell (Nat.le_refl _) _).setCell (Nat.le_refl _) _
end Go.Proofs.YtbpnacacnncopaaGreatDoor
