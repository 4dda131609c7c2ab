/- Arcs: angle.result, Add, Neg, Sub, Inside where nothing is too great. -/
import Derived.Test.YtbpnacacnncopaaGreatDoorHMn
import Derived.Test.YtbpnacacnncopaaGreatDoorHTx
set_option linter.unusedVariables false
set_option linter.unusedSimpArgs false
namespace Go.Proofs.YtbpnacacnncopaaGreatDoor
open Go.RowKit
theorem floor_td (a : Int) {d : Int} (hd : 0 < d) : (if a.tmod d < 0 then a.tdiv d - 1 else a.tdiv d) = a / d := by
  have h1 := Int.tmod_add_mul_tdiv a d
  have h2 := Int.tmod_lt_of_pos a hd
  have h3 := Int.lt_tmod_of_pos a hd
  split
  · exact ((Int.ediv_emod_unique (r := a.tmod d + d) hd).2 ⟨by rw [Int.mul_sub]; omega, by omega, by omega⟩).1.symm
  · exact ((Int.ediv_emod_unique (r := a.tmod d) hd).2 ⟨h1, by omega, h2⟩).1.symm
/-- the arc of the bent altitude -/
def btL (u : Int) : Int := u + 26316000000 / (u + 264000)
def btH (u : Int) : Int := if 26316000000 % (u + 264000) = 0 then btL u else btL u + 1
theorem bt_bd {u : Int} (h0 : -60000 ≤ u) (h1 : u ≤ 5400000) : 69000 ≤ btL u ∧ btL u ≤ btH u ∧ btH u ≤ btL u + 1 ∧ btH u ≤ 5404647 := by
  unfold btH btL
  obtain ⟨x, hx⟩ : ∃ x, u + 264000 = x := ⟨_, rfl⟩
  obtain ⟨q, hq⟩ : ∃ q, 26316000000 / x = q := ⟨_, rfl⟩
  have p1 : 0 ≤ (x - 204000) * (x - 129000) := Int.mul_nonneg (by omega) (by omega)
  have p2 : 0 ≤ (x - 204000) * (5664000 - x) := Int.mul_nonneg (by omega) (by omega)
  have e1 : (x - 204000) * (x - 129000) = x * x - 333000 * x + 26316000000 := by rw [Int.sub_mul, Int.mul_sub, Int.mul_sub]; omega
  have e2 : (x - 204000) * (5664000 - x) = 5868000 * x - x * x - 1155456000000 := by rw [Int.sub_mul, Int.mul_sub, Int.mul_sub]; omega
  have f1 : 333000 - x ≤ q := by
    rw [← hq]
    refine (Int.le_ediv_iff_mul_le (by omega)).2 ?_
    rw [Int.sub_mul]
    omega
  have f2 : q < 5668647 - x := by
    rw [← hq]
    refine Int.ediv_lt_of_lt_mul (by omega) ?_
    rw [Int.sub_mul]
    omega
  rw [hx, hq]
  split <;> omega
set_option maxHeartbeats 1000000 in
theorem bent_any (u : Int) (w : World) (h0 : -60000 ≤ u) (h1 : u ≤ 5400000) : Calls Tryz.prog 219 #[.int .i64 u] w fun e w' => e = .returned (.agg #[.int .i64 (btL u), .int .i64 (btH u)]) ∧ Below w.heap.size w w' := by
  have hb := bt_bd h0 h1
  have hu : btH u = if 26316000000 % (u + 264000) = 0 then btL u else btL u + 1 := rfl
  have hl : btL u = u + 26316000000 / (u + 264000) := rfl
  have t1 : (26316000000 : Int).tdiv (u + 264000) = 26316000000 / (u + 264000) := Int.tdiv_eq_ediv_of_nonneg (by omega)
  have t2 : (26316000000 : Int).tmod (u + 264000) = 26316000000 % (u + 264000) := Int.tmod_eq_emod_of_nonneg (by omega)
  obtain ⟨q, hq⟩ : ∃ q, 26316000000 / (u + 264000) = q := ⟨_, rfl⟩
  obtain ⟨r, hr⟩ : ∃ r, 26316000000 % (u + 264000) = r := ⟨_, rfl⟩
  rw [hq] at t1 hl
  rw [hr] at t2 hu
  have hz : ((u + 264000 : Int) == 0) = false := by simp; omega
  have hz2 : ¬ u + 264000 = 0 := by omega
  generalize btL u = L at *
  generalize btH u = H at *
  subst hl
  by_cases h : r = 0
  · subst h
    rw [if_pos rfl] at hu
    subst hu
    go_enter Tryz.func219, Tryz.ntmps219
    go_wp2
    refine bodyPost_ret (v := .agg #[.int .i64 ((u + q)), .int .i64 ((u + q))]) (by simp [results, Tryz.results219, go_sem, *]; done) rfl ⟨rfl, ?_⟩
    repeat (first | exact Below.refl _ _ | assumption | refine bl_drew ?_ | refine bl_drewN ?_ _ | refine Below.setCell ?_ (by first | assumption | omega | (simp; done) | (simp; omega)) _ | refine Below.alloc ?_ (by first | assumption | omega | (simp; done) | (simp; omega)) _)
  · rw [if_neg h] at hu
    subst hu
    have hr0 : ((r : Int) != 0) = true := by simpa using h
    go_enter Tryz.func219, Tryz.ntmps219
    go_wp2
    refine bodyPost_ret (v := .agg #[.int .i64 ((u + q)), .int .i64 ((u + q + 1))]) (by simp [results, Tryz.results219, go_sem, *]; done) rfl ⟨rfl, ?_⟩
    repeat (first | exact Below.refl _ _ | assumption | refine bl_drew ?_ | refine bl_drewN ?_ _ | refine Below.setCell ?_ (by first | assumption | omega | (simp; done) | (simp; omega)) _ | refine Below.alloc ?_ (by first | assumption | omega | (simp; done) | (simp; omega)) _)
/-- the ends of the cosine and the sine of the bent altitude -/
def cLo (u : Int) : Int := Trig.enLo (btL u + 5400000) (btH u + 5400000)
def cHi (u : Int) : Int := Trig.enHi (btL u + 5400000) (btH u + 5400000)
def sLo (u : Int) : Int := Trig.enLo (btL u) (btH u)
def sHi (u : Int) : Int := Trig.enHi (btL u) (btH u)
theorem sF_low : 20000000 ≤ Trig.sF 69000 := by decide +kernel
theorem sLo_bd {u : Int} (h0 : -60000 ≤ u) (h1 : u ≤ 5400000) : 20000000 ≤ sLo u ∧ sLo u ≤ sHi u ∧ sHi u ≤ 1073741824 := by
  obtain ⟨a, b, c, d⟩ := bt_bd h0 h1
  have e := en_le (btL u) (btH u)
  refine ⟨?_, e.2.1, e.2.2⟩
  unfold sLo
  have hq : ∀ n, 69000 ≤ n → n ≤ 5404647 → 20000000 ≤ Trig.loB n := fun n n0 n1 => by
    rw [Trig.half_lo (by omega) (by omega), Trig.half_qrt (by omega) (by omega)]
    have := sF_low
    split
    · have := Trig.sF_mono (a := 69000) (b := 10800000 - n) (by omega) (by omega) (by omega)
      omega
    · have := Trig.sF_mono (a := 69000) (b := n) (by omega) (by omega) (by omega)
      omega
  rw [(Trig.half_en (lo := btL u) (hi := btH u) (by omega) b (by omega)).1]
  have := hq (btL u) a (by omega)
  have := hq (btH u) (by omega) d
  omega
theorem cLo_bd (u : Int) : -1073741824 ≤ cLo u ∧ cLo u ≤ cHi u ∧ cHi u ≤ 1073741824 := en_le _ _
/-- the refraction of an integer -/
def oLo (u : Int) : Int := qgA (cLo u) (cHi u) (sLo u) (sHi u) 1000
def oHi (u : Int) : Int := qgB (cLo u) (cHi u) (sLo u) (sHi u) 1000
theorem quo_bd {x p : Int} (x0 : -1073741824 ≤ x) (x1 : x ≤ 1073741824) (hp : 20000000 ≤ p) : -53688 ≤ x * 1000 / p ∧ x * 1000 / p ≤ -(-(x * 1000) / p) ∧ -(-(x * 1000) / p) ≤ 53688 := by
  have q1 : -53688 ≤ x * 1000 / p := (Int.le_ediv_iff_mul_le (by omega)).2 (by
    have := Int.mul_le_mul_of_nonneg_left hp (show (0 : Int) ≤ 53688 by omega)
    omega)
  have q2 : -53688 ≤ -(x * 1000) / p := (Int.le_ediv_iff_mul_le (by omega)).2 (by
    have := Int.mul_le_mul_of_nonneg_left hp (show (0 : Int) ≤ 53688 by omega)
    omega)
  have q3 := Int.mul_ediv_self_le (x := x * 1000) (k := p) (by omega)
  have q4 := Int.mul_ediv_self_le (x := -(x * 1000)) (k := p) (by omega)
  refine ⟨q1, ?_, by omega⟩
  have q5 : p * (x * 1000 / p + -(x * 1000) / p) ≤ 0 := by rw [Int.mul_add]; omega
  rcases Int.lt_or_le 0 (x * 1000 / p + -(x * 1000) / p) with h | h
  · have := Int.mul_pos (show 0 < p by omega) h
    omega
  · omega
theorem o_bd {u : Int} (h0 : -60000 ≤ u) (h1 : u ≤ 5400000) : -53688 ≤ oLo u ∧ oLo u ≤ oHi u ∧ oHi u ≤ 53688 := by
  obtain ⟨a, b, c⟩ := sLo_bd h0 h1
  obtain ⟨d, e, f⟩ := cLo_bd u
  have k1 := quo_bd (x := cLo u) (p := sLo u) d (by omega) a
  have k2 := quo_bd (x := cLo u) (p := sHi u) d (by omega) (by omega)
  have k3 := quo_bd (x := cHi u) (p := sLo u) (by omega) f a
  have k4 := quo_bd (x := cHi u) (p := sHi u) (by omega) f (by omega)
  simp only [oLo, oHi, qgA, qgB, loR, hiR]
  omega
set_option maxHeartbeats 4000000 in
set_option maxRecDepth 100000 in
theorem one_any (u : Int) (w : World) (h0 : -60000 ≤ u) (h1 : u ≤ 5400000) : Calls Tryz.prog 188 #[.int .i64 u] w fun e w' => e = .returned (.agg #[.int .i64 (oLo u), .int .i64 (oHi u)]) ∧ Below w.heap.size w w' := by
  obtain ⟨a, b, c, d⟩ := bt_bd h0 h1
  have KB := Lib.hid (fun W => bent_any u W h0 h1)
  have hv : avB (btL u) (btH u) = true := by rw [avB_true]; omega
  have KC := Lib.hid (fun W => Cos_yes (btL u) (btH u) W hv)
  have KS := Lib.hid (fun W => Sin_yes (btL u) (btH u) W hv)
  obtain ⟨s1, s2, s3⟩ := sLo_bd h0 h1
  obtain ⟨c1, c2, c3⟩ := cLo_bd u
  have KQ := Lib.hid (fun W => QuotientG_any (cLo u) (cHi u) (sLo u) (sHi u) 1000 W (by rw [fv_iff]; omega) (by omega) (by omega) (by omega) s2 (by omega))
  obtain ⟨o1, o2, o3⟩ := o_bd h0 h1
  have hg : qgG (cLo u) (cHi u) (sLo u) (sHi u) 1000 = true := by
    unfold qgG rchB
    rw [Bool.and_eq_true, decide_eq_true_eq, decide_eq_true_eq]
    unfold oLo at o1 o2
    unfold oHi at o2 o3
    omega
  have hqv : qgV (cLo u) (cHi u) (sLo u) (sHi u) 1000 = .tuple #[.int .i64 (oLo u), .int .i64 (oHi u), .int .i64 0] := if_pos hg
  rw [hqv] at KQ
  change Hid (∀ W, Calls Tryz.prog 190 #[.agg #[.int .i64 (btL u), .int .i64 (btH u)]] W fun e w' => e = .returned (.tuple #[.agg #[.int .i64 (cLo u), .int .i64 (cHi u)], .int .i64 0]) ∧ Below W.heap.size W w') at KC
  change Hid (∀ W, Calls Tryz.prog 195 #[.agg #[.int .i64 (btL u), .int .i64 (btH u)]] W fun e w' => e = .returned (.tuple #[.agg #[.int .i64 (sLo u), .int .i64 (sHi u)], .int .i64 0]) ∧ Below W.heap.size W w') at KS
  clear hg hqv hv a b c d s1 s2 s3 c1 c2 c3 o1 o2 o3
  generalize btL u = L at *
  generalize btH u = H at *
  generalize cLo u = cL at *
  generalize cHi u = cH at *
  generalize sLo u = sL at *
  generalize sHi u = sH at *
  generalize oLo u = x at *
  generalize oHi u = y at *
  have R0 := Lib.hid (Blk.new w 41 #[.int .i64 0, .int .i64 0])
  have b0 := Lib.hid ((Below.refl w.heap.size w).alloc (Nat.le_refl _) (.cells #[.int .i64 0, .int .i64 0] 41))
  go_enter Tryz.func188, Tryz.ntmps188
  go_wp2_with fail
  (with_reducible refine (KB.out _).mono ?_)
  rintro e w1 ⟨rfl, hb⟩
  have R1 := Lib.hid (R0.out.below hb R0.out.lt)
  have b1 := Lib.hid (b0.out.trans (hb.mono b0.out.size))
  clear hb R0 b0
  have R2 := Lib.hid (R1.out.alloc (.cells #[.int .i64 L, .int .i64 H] 41))
  have A2 := Lib.hid (Blk.new w1 41 #[.int .i64 L, .int .i64 H])
  have b2 := Lib.hid (b1.out.trans ((bl_alloc w1 (.cells #[.int .i64 L, .int .i64 H] 41)).mono b1.out.size))
  clear R1 b1
  go_upto_region 2 with fail
  generalize w1.alloc (.cells #[.int .i64 L, .int .i64 H] 41) = w3 at *
  have yA : ∀ i, w3.cell? ⟨w1.heap.size, i, none⟩ = (#[.int .i64 L, .int .i64 H] : Array Value)[i]? := fun i => A2.out.cell i
  go_wp2_with fail
  (with_reducible refine (KC.out _).mono ?_)
  rintro e w4 ⟨rfl, hb⟩
  have R4 := Lib.hid (R2.out.below hb R2.out.lt)
  have A4 := Lib.hid (A2.out.below hb A2.out.lt)
  have b4 := Lib.hid (b2.out.trans (hb.mono b2.out.size))
  clear hb R2 A2 b2 yA
  have R5 := Lib.hid (R4.out.alloc (.cells #[.int .i64 cL, .int .i64 cH] 166))
  have A5 := Lib.hid (A4.out.alloc (.cells #[.int .i64 cL, .int .i64 cH] 166))
  have C5 := Lib.hid (Blk.new w4 166 #[.int .i64 cL, .int .i64 cH])
  have b5 := Lib.hid (b4.out.trans ((bl_alloc w4 (.cells #[.int .i64 cL, .int .i64 cH] 166)).mono b4.out.size))
  clear R4 A4 b4
  go_upto_region 3 with fail
  generalize w4.alloc (.cells #[.int .i64 cL, .int .i64 cH] 166) = w6 at *
  have yA : ∀ i, w6.cell? ⟨w1.heap.size, i, none⟩ = (#[.int .i64 L, .int .i64 H] : Array Value)[i]? := fun i => A5.out.cell i
  go_wp2_with fail
  (with_reducible refine (KS.out _).mono ?_)
  rintro e w7 ⟨rfl, hb⟩
  have R7 := Lib.hid (R5.out.below hb R5.out.lt)
  have A7 := Lib.hid (A5.out.below hb A5.out.lt)
  have C7 := Lib.hid (C5.out.below hb C5.out.lt)
  have b7 := Lib.hid (b5.out.trans (hb.mono b5.out.size))
  clear hb R5 A5 C5 b5 yA
  have R8 := Lib.hid (R7.out.alloc (.cells #[.int .i64 sL, .int .i64 sH] 166))
  have A8 := Lib.hid (A7.out.alloc (.cells #[.int .i64 sL, .int .i64 sH] 166))
  have C8 := Lib.hid (C7.out.alloc (.cells #[.int .i64 sL, .int .i64 sH] 166))
  have S8 := Lib.hid (Blk.new w7 166 #[.int .i64 sL, .int .i64 sH])
  have b8 := Lib.hid (b7.out.trans ((bl_alloc w7 (.cells #[.int .i64 sL, .int .i64 sH] 166)).mono b7.out.size))
  clear R7 A7 C7 b7
  go_upto_region 4 with fail
  generalize w7.alloc (.cells #[.int .i64 sL, .int .i64 sH] 166) = w9 at *
  have yC : ∀ i, w9.cell? ⟨w4.heap.size, i, none⟩ = (#[.int .i64 cL, .int .i64 cH] : Array Value)[i]? := fun i => C8.out.cell i
  have yS : ∀ i, w9.cell? ⟨w7.heap.size, i, none⟩ = (#[.int .i64 sL, .int .i64 sH] : Array Value)[i]? := fun i => S8.out.cell i
  go_wp2_with fail
  (with_reducible refine (KQ.out _).mono ?_)
  rintro e w10 ⟨rfl, hb⟩
  have R10 := Lib.hid (R8.out.below hb R8.out.lt)
  have A10 := Lib.hid (A8.out.below hb A8.out.lt)
  have C10 := Lib.hid (C8.out.below hb C8.out.lt)
  have S10 := Lib.hid (S8.out.below hb S8.out.lt)
  have b10 := Lib.hid (b8.out.trans (hb.mono b8.out.size))
  clear hb R8 A8 C8 S8 b8 yC yS
  have yR : ∀ i, w10.cell? ⟨w.heap.size, i, none⟩ = (#[.int .i64 0, .int .i64 0] : Array Value)[i]? := fun i => R10.out.cell i
  have zR : ∀ i, w10.frozen? ⟨w.heap.size, i, none⟩ = false := fun i => R10.out.frozen i
  go_wp2
  refine bodyPost_ret (v := .agg #[.int .i64 x, .int .i64 y]) (by simp [results, Tryz.results188, go_sem, *]; done) rfl ⟨rfl, ?_⟩
  exact (b10.out.setCell (by simp) _).setCell (by simp) _
set_option maxHeartbeats 4000000 in
set_option maxRecDepth 100000 in
theorem mean_any (lo hi : Int) (w : World) (h0 : -60000 ≤ lo) (h1 : lo ≤ hi) (h2 : hi ≤ 5400000) : Calls Tryz.prog 144 #[.agg #[.int .i64 lo, .int .i64 hi]] w fun e w' => e = .returned (.agg #[.int .i64 (oLo hi), .int .i64 (oHi lo)]) ∧ Below w.heap.size w w' := by
  have KL := Lib.hid (fun W => one_any lo W h0 (by omega))
  have KH := Lib.hid (fun W => one_any hi W (by omega) h2)
  generalize oLo lo = x1 at *
  generalize oHi lo = y1 at *
  generalize oLo hi = x0 at *
  generalize oHi hi = y0 at *
  have fx : ∀ (a b : Int) W, (Instr.field 41 (.agg #[.int .i64 a, .int .i64 b]) 0).run Tryz.prog W = .ok (.int .i64 a) W := fun a b W => by simp [Instr.field, run_underlying Tryz.underlying41, go_sem, part, asAgg]
  have fy : ∀ (a b : Int) W, (Instr.field 41 (.agg #[.int .i64 a, .int .i64 b]) 1).run Tryz.prog W = .ok (.int .i64 b) W := fun a b W => by simp [Instr.field, run_underlying Tryz.underlying41, go_sem, part, asAgg]
  have A0 := Lib.hid ((Blk.new w 41 #[.int .i64 lo, .int .i64 hi]).alloc (.cells #[.int .i64 0, .int .i64 0] 41))
  have R0 := Lib.hid (Blk.new (w.alloc (.cells #[.int .i64 lo, .int .i64 hi] 41)) 41 #[.int .i64 0, .int .i64 0])
  simp only [World.size_alloc] at R0
  have b0 := Lib.hid (((Below.refl w.heap.size w).alloc (Nat.le_refl _) (.cells #[.int .i64 lo, .int .i64 hi] 41)).alloc (by simp) (.cells #[.int .i64 0, .int .i64 0] 41))
  go_enter Tryz.func144, Tryz.ntmps144
  go_upto_region 1 with fail
  generalize ((w.alloc (.cells #[.int .i64 lo, .int .i64 hi] 41)).alloc (.cells #[.int .i64 0, .int .i64 0] 41)) = w1 at *
  have yA : ∀ (s : BQ w1) i, s.w.cell? ⟨w.heap.size, i, none⟩ = (#[.int .i64 lo, .int .i64 hi] : Array Value)[i]? := fun s i => (A0.out.below s.hb A0.out.lt).cell i
  refine wp_region_bqt 9 w1 (by kernel_rfl) (by kernel_rfl) (by kernel_rfl) (by kernel_rfl) (Below.refl _ _) ?_
  simp only [List.take_succ_cons, List.take_zero, List.drop_succ_cons, List.drop_zero]
  repeat (go_big_quiet_step (first | (go_at_call 188; first | with_reducible exact quiet_bq (KH.out _) | with_reducible exact quiet_bq (KL.out _)) | fail))
  refine wpQuiet_nil ?_
  intro w2 hb
  have A2 := Lib.hid (A0.out.below hb A0.out.lt)
  have R2 := Lib.hid (R0.out.below hb R0.out.lt)
  have b2 := Lib.hid (b0.out.trans (hb.mono b0.out.size))
  clear hb A0 R0 b0 yA
  have yR : ∀ i, w2.cell? ⟨w.heap.size + 1, i, none⟩ = (#[.int .i64 0, .int .i64 0] : Array Value)[i]? := fun i => R2.out.cell i
  have zR : ∀ i, w2.frozen? ⟨w.heap.size + 1, i, none⟩ = false := fun i => R2.out.frozen i
  go_wp2
  refine bodyPost_ret (v := .agg #[.int .i64 x0, .int .i64 y1]) (by simp [results, Tryz.results144, go_sem, *]; done) rfl ⟨rfl, ?_⟩
  exact (b2.out.setCell (by simp) _).setCell (by simp) _
theorem mul_bdN {n k B C : Int} (h0 : -B ≤ n) (h1 : n ≤ B) (k0 : 0 ≤ k) (k1 : k ≤ C) (hB : 0 ≤ B) : -(B * C) ≤ n * k ∧ n * k ≤ B * C := by
  have a1 := Int.mul_le_mul_of_nonneg_right h1 k0
  have a2 := Int.mul_le_mul_of_nonneg_right h0 k0
  have a3 := Int.mul_le_mul_of_nonneg_left k1 hB
  rw [Int.neg_mul] at a2
  omega
set_option maxHeartbeats 1000000 in
theorem down_any (n num den : Int) (gN gD : Nat) (w : World) (hN : Blk w gN 3 #[.int .i64 num]) (hD : Blk w gD 3 #[.int .i64 den]) (n0 : -1000000 ≤ n) (n1 : n ≤ 1000000) (k0 : 0 ≤ num) (k1 : num ≤ 4000000) (d0 : 0 < den) (d1 : den ≤ 4000000) :
    Calls Tryz.prog 187 #[.int .i64 n, .pointer (some ⟨gN, 0, none⟩), .pointer (some ⟨gD, 0, none⟩)] w fun e w' => e = .returned (.int .i64 (n * num / den)) ∧ Below w.heap.size w w' := by
  have hb := mul_bdN n0 n1 k0 k1 (by omega)
  have hf := floor_td (n * num) d0
  obtain ⟨m, hm⟩ : ∃ m, n * num = m := ⟨_, rfl⟩
  rw [hm] at hb hf
  have hq := Int.natAbs_tdiv_le_natAbs m den
  have e1 : IntKind.i64.wrap (n * num) = m := by rw [hm, IntKind.wrap_i64]; omega
  have hz : (den == 0) = false := by simp; omega
  have hz2 : ¬ den = 0 := by omega
  rw [hm, ← hf]
  clear hf
  obtain ⟨q, hq0⟩ : ∃ q, m.tdiv den = q := ⟨_, rfl⟩
  obtain ⟨r, hr0⟩ : ∃ r, m.tmod den = r := ⟨_, rfl⟩
  rw [hq0] at hq
  rw [hq0, hr0]
  have q0 : -4000000000000 ≤ q := by omega
  have q1 : q ≤ 4000000000000 := by omega
  have y0 : ∀ s : BQ w, s.w.cell? ⟨gN, 0, none⟩ = some (.int .i64 num) := fun s => (hN.below s.hb hN.lt).cell 0
  have y1 : ∀ s : BQ w, s.w.cell? ⟨gD, 0, none⟩ = some (.int .i64 den) := fun s => (hD.below s.hb hD.lt).cell 0
  have e2 : wrap64 m = m := IntWalk.wrap64_in _ (by omega)
  have e3 : IntKind.i64.wrap q = q := IntWalk.i64_in q (by omega)
  clear hN hD hb hq
  by_cases h : r < 0
  · rw [if_pos h]
    have d0 : decide (r < 0) = true := decide_eq_true h
    go_enter Tryz.func187, Tryz.ntmps187
    go_upto_region 1 with fail
    refine wp_region_bq w (by kernel_rfl) (by kernel_rfl) (Below.refl _ _) ?_
    repeat (go_big_quiet_step (first | fail))
    refine wpQuiet_nil ?_
    intro w1 hb
    go_wp2
    go_ret
    exact ⟨rfl, hb⟩
  · rw [if_neg h]
    have d0 : decide (r < 0) = false := decide_eq_false h
    go_enter Tryz.func187, Tryz.ntmps187
    go_upto_region 1 with fail
    refine wp_region_bq w (by kernel_rfl) (by kernel_rfl) (Below.refl _ _) ?_
    repeat (go_big_quiet_step (first | fail))
    refine wpQuiet_nil ?_
    intro w1 hb
    go_wp2
    go_ret
    exact ⟨rfl, hb⟩
set_option maxHeartbeats 4000000 in
set_option maxRecDepth 100000 in
theorem times_rf (lo hi T P : Int) (w : World) (a0 : -1000000 ≤ lo) (a1 : lo ≤ 1000000) (b0 : -1000000 ≤ hi) (b1 : hi ≤ 1000000) (t0 : -500 ≤ T) (t1 : T ≤ 600) (p0 : 5000 ≤ P) (p1 : P ≤ 11000) :
    Calls Tryz.prog 143 #[.agg #[.int .i64 lo, .int .i64 hi], .int .i64 T, .int .i64 P] w fun e w' => e = .returned (.agg #[.int .i64 (lo * (283 * P) / (1010 * (2730 + T))), .int .i64 (-(-hi * (283 * P) / (1010 * (2730 + T))))]) ∧ Below w.heap.size w w' := by
  have m1 : wrap64 (283 * P) = 283 * P := IntWalk.wrap64_in _ (by omega)
  have m2 : wrap64 (2730 + T) = 2730 + T := IntWalk.wrap64_in _ (by omega)
  have m3 : wrap64 (1010 * (2730 + T)) = 1010 * (2730 + T) := IntWalk.wrap64_in _ (by omega)
  have k0 : 0 ≤ 283 * P := by omega
  have k1 : 283 * P ≤ 4000000 := by omega
  have k2 : 0 < 1010 * (2730 + T) := by omega
  have k3 : 1010 * (2730 + T) ≤ 4000000 := by omega
  have KL := Lib.hid (fun (gN gD : Nat) (W : World) (hN : Blk W gN 3 #[.int .i64 (283 * P)]) (hD : Blk W gD 3 #[.int .i64 (1010 * (2730 + T))]) => down_any lo (283 * P) (1010 * (2730 + T)) gN gD W hN hD a0 a1 k0 k1 k2 k3)
  have KH := Lib.hid (fun (gN gD : Nat) (W : World) (hN : Blk W gN 3 #[.int .i64 (283 * P)]) (hD : Blk W gD 3 #[.int .i64 (1010 * (2730 + T))]) => down_any (-hi) (283 * P) (1010 * (2730 + T)) gN gD W hN hD (by omega) (by omega) k0 k1 k2 k3)
  have q2 := mul_bdN (n := -hi) (k := 283 * P) (B := 1000000) (C := 4000000) (by omega) (by omega) k0 k1 (by omega)
  have q3 := Int.natAbs_ediv_le_natAbs (-hi * (283 * P)) (1010 * (2730 + T))
  generalize lo * (283 * P) / (1010 * (2730 + T)) = x at *
  generalize -hi * (283 * P) / (1010 * (2730 + T)) = y at *
  have y2 : -4000000000001 ≤ y := by omega
  have y3 : y ≤ 4000000000001 := by omega
  have eh : IntKind.i64.wrap (-hi) = -hi := IntWalk.i64_in _ (by omega)
  have ey : IntKind.i64.wrap (-y) = -y := IntWalk.i64_in _ (by omega)
  clear q2 q3
  have A0 := Lib.hid ((Blk.new w 41 #[.int .i64 lo, .int .i64 hi]).alloc (.cells #[.int .i64 0, .int .i64 0] 41))
  have R0 := Lib.hid (Blk.new (w.alloc (.cells #[.int .i64 lo, .int .i64 hi] 41)) 41 #[.int .i64 0, .int .i64 0])
  simp only [World.size_alloc] at R0
  have b0 := Lib.hid (((Below.refl w.heap.size w).alloc (Nat.le_refl _) (.cells #[.int .i64 lo, .int .i64 hi] 41)).alloc (by simp) (.cells #[.int .i64 0, .int .i64 0] 41))
  go_enter Tryz.func143, Tryz.ntmps143
  go_upto_region 1 with fail
  generalize ((w.alloc (.cells #[.int .i64 lo, .int .i64 hi] 41)).alloc (.cells #[.int .i64 0, .int .i64 0] 41)) = w1 at *
  have A2 := Lib.hid (A0.out.alloc (.cells #[.int .i64 ((283 * P))] 3))
  have R2 := Lib.hid (R0.out.alloc (.cells #[.int .i64 ((283 * P))] 3))
  have N2 := Lib.hid (Blk.new w1 3 #[.int .i64 ((283 * P))])
  have b2 := Lib.hid (b0.out.trans ((bl_alloc w1 (.cells #[.int .i64 ((283 * P))] 3)).mono b0.out.size))
  clear A0 R0 b0
  have A3 := Lib.hid (A2.out.alloc (.cells #[.int .i64 ((1010 * (2730 + T)))] 3))
  have R3 := Lib.hid (R2.out.alloc (.cells #[.int .i64 ((1010 * (2730 + T)))] 3))
  have N3 := Lib.hid (N2.out.alloc (.cells #[.int .i64 ((1010 * (2730 + T)))] 3))
  have D3 := Lib.hid (Blk.new (w1.alloc (.cells #[.int .i64 ((283 * P))] 3)) 3 #[.int .i64 ((1010 * (2730 + T)))])
  have b3 := Lib.hid (b2.out.trans ((bl_alloc (w1.alloc (.cells #[.int .i64 ((283 * P))] 3)) (.cells #[.int .i64 ((1010 * (2730 + T)))] 3)).mono b2.out.size))
  clear A2 R2 N2 b2
  go_upto_region 3 with fail
  simp only [World.size_alloc] at *
  generalize (w1.alloc (.cells #[.int .i64 ((283 * P))] 3)).alloc (.cells #[.int .i64 ((1010 * (2730 + T)))] 3) = w4 at *
  have yA : ∀ (s : BQ w4) i, s.w.cell? ⟨w.heap.size, i, none⟩ = (#[.int .i64 lo, .int .i64 hi] : Array Value)[i]? := fun s i => (A3.out.below s.hb A3.out.lt).cell i
  have KLq := Lib.hid (fun (s : BQ w4) => KL.out (w1.heap.size) (w1.heap.size + 1) s.w (N3.out.below s.hb N3.out.lt) (D3.out.below s.hb D3.out.lt))
  have KHq := Lib.hid (fun (s : BQ w4) => KH.out (w1.heap.size) (w1.heap.size + 1) s.w (N3.out.below s.hb N3.out.lt) (D3.out.below s.hb D3.out.lt))
  refine wp_region_bqt 11 w4 (by kernel_rfl) (by kernel_rfl) (by kernel_rfl) (by kernel_rfl) (Below.refl _ _) ?_
  simp only [List.take_succ_cons, List.take_zero, List.drop_succ_cons, List.drop_zero]
  repeat (go_big_quiet_step (first | (go_at_call 187; first | with_reducible exact quiet_bq (KLq.out _) | with_reducible exact quiet_bq (KHq.out _)) | fail))
  refine wpQuiet_nil ?_
  intro w5 hb
  have A5 := Lib.hid (A3.out.below hb A3.out.lt)
  have R5 := Lib.hid (R3.out.below hb R3.out.lt)
  have N5 := Lib.hid (N3.out.below hb N3.out.lt)
  have D5 := Lib.hid (D3.out.below hb D3.out.lt)
  have b5 := Lib.hid (b3.out.trans (hb.mono b3.out.size))
  clear hb A3 R3 N3 D3 b3 yA
  have yR : ∀ i, w5.cell? ⟨w.heap.size + 1, i, none⟩ = (#[.int .i64 0, .int .i64 0] : Array Value)[i]? := fun i => R5.out.cell i
  have zR : ∀ i, w5.frozen? ⟨w.heap.size + 1, i, none⟩ = false := fun i => R5.out.frozen i
  go_wp2
  refine bodyPost_ret (v := .agg #[.int .i64 x, .int .i64 ((-y))]) (by simp [results, Tryz.results143, go_sem, *]; done) rfl ⟨rfl, ?_⟩
  exact (b5.out.setCell (by simp) _).setCell (by simp) _
theorem weather_any (T P : Int) (w : World) (t0 : -500 ≤ T) (t1 : T ≤ 600) (p0 : 5000 ≤ P) (p1 : P ≤ 11000) : Calls Tryz.prog 142 #[.int .i64 T, .int .i64 P] w fun e w' => e = .returned (.bool true) ∧ w' = w := by
  have KI := Lib.hid (fun (n a b : Int) (W : World) (h0 : a ≤ n) (h1 : n ≤ b) => show Calls Tryz.prog 186 #[.int .i64 n, .int .i64 a, .int .i64 b] W fun e w' => e = .returned (.bool true) ∧ w' = W from by
    have d0 : decide (a ≤ n) = true := decide_eq_true h0
    have d1 : decide (n ≤ b) = true := decide_eq_true h1
    go_enter Tryz.func186, Tryz.ntmps186
    go_wp2
    go_ret
    exact ⟨rfl, rfl⟩)
  have K1 := Lib.hid (fun W => KI.out T (-500) 600 W t0 t1)
  have K2 := Lib.hid (fun W => KI.out P 5000 11000 W p0 p1)
  clear KI
  go_enter Tryz.func142, Tryz.ntmps142
  go_wp2_with fail
  (with_reducible refine (K1.out _).mono ?_)
  rintro e w1 ⟨rfl, rfl⟩
  go_wp2_with fail
  (with_reducible refine (K2.out _).mono ?_)
  rintro e w1 ⟨rfl, rfl⟩
  go_wp2
  go_ret
  exact ⟨rfl, rfl⟩
theorem check_any (lo hi : Int) (w : World) (h0 : -60000 ≤ lo) (h1 : lo ≤ hi) (h2 : hi ≤ 5400000) : Calls Tryz.prog 141 #[.agg #[.int .i64 lo, .int .i64 hi]] w fun e w' => e = .returned (.int .i64 0) ∧ Below w.heap.size w w' := by
  have KV := Lib.hid (fun W => aValid_any lo hi W)
  rw [show avB lo hi = true by rw [avB_true]; omega] at KV
  have d0 : decide (lo < -60000) = false := decide_eq_false (by omega)
  have d1 : decide (5400000 < hi) = false := decide_eq_false (by omega)
  have A0 := Lib.hid (Blk.new w 41 #[.int .i64 lo, .int .i64 hi])
  have b0 := Lib.hid ((Below.refl w.heap.size w).alloc (Nat.le_refl _) (.cells #[.int .i64 lo, .int .i64 hi] 41))
  go_enter Tryz.func141, Tryz.ntmps141
  go_wp2_with fail
  (with_reducible refine (KV.out _).mono ?_)
  rintro e w1 ⟨rfl, hb⟩
  have A1 := Lib.hid (A0.out.below hb A0.out.lt)
  have b1 := Lib.hid (b0.out.trans (hb.mono b0.out.size))
  clear hb A0 b0
  have yA : ∀ i, w1.cell? ⟨w.heap.size, i, none⟩ = (#[.int .i64 lo, .int .i64 hi] : Array Value)[i]? := fun i => A1.out.cell i
  go_wp2
  go_ret
  exact ⟨rfl, b1.out⟩
/-- the refraction at a temperature and a pressure -/
def rfL (hi T P : Int) : Int := oLo hi * (283 * P) / (1010 * (2730 + T))
def rfH (lo T P : Int) : Int := -(-oHi lo * (283 * P) / (1010 * (2730 + T)))
set_option maxHeartbeats 4000000 in
set_option maxRecDepth 100000 in
theorem rfAt_any (lo hi T P : Int) (w : World) (h0 : -60000 ≤ lo) (h1 : lo ≤ hi) (h2 : hi ≤ 5400000) (t0 : -500 ≤ T) (t1 : T ≤ 600) (p0 : 5000 ≤ P) (p1 : P ≤ 11000) :
    Calls Tryz.prog 99 #[.agg #[.int .i64 lo, .int .i64 hi], .int .i64 T, .int .i64 P] w fun e w' => e = .returned (.tuple #[.agg #[.int .i64 (rfL hi T P), .int .i64 (rfH lo T P)], .int .i64 0]) ∧ Below w.heap.size w w' := by
  have K1 := Lib.hid (fun W => check_any lo hi W h0 h1 h2)
  have K2 := Lib.hid (fun W => weather_any T P W t0 t1 p0 p1)
  have K3 := Lib.hid (fun W => mean_any lo hi W h0 h1 h2)
  have o1 := o_bd (u := hi) (by omega) h2
  have o2 := o_bd (u := lo) h0 (by omega)
  have K4 := Lib.hid (fun W => times_rf (oLo hi) (oHi lo) T P W (by omega) (by omega) (by omega) (by omega) t0 t1 p0 p1)
  change Hid (∀ W, Calls Tryz.prog 143 #[.agg #[.int .i64 (oLo hi), .int .i64 (oHi lo)], .int .i64 T, .int .i64 P] W fun e w' => e = .returned (.agg #[.int .i64 (rfL hi T P), .int .i64 (rfH lo T P)]) ∧ Below W.heap.size W w') at K4
  clear o1 o2
  generalize rfL hi T P = x at *
  generalize rfH lo T P = y at *
  generalize oLo hi = x0 at *
  generalize oHi lo = y0 at *
  clear h0 h1 h2 t0 t1 p0 p1
  have A0 := Lib.hid ((Blk.new w 41 #[.int .i64 lo, .int .i64 hi]).alloc (.cells #[.int .i64 0, .int .i64 0] 41))
  have R0 := Lib.hid (Blk.new (w.alloc (.cells #[.int .i64 lo, .int .i64 hi] 41)) 41 #[.int .i64 0, .int .i64 0])
  simp only [World.size_alloc] at R0
  have b0 := Lib.hid (((Below.refl w.heap.size w).alloc (Nat.le_refl _) (.cells #[.int .i64 lo, .int .i64 hi] 41)).alloc (by simp) (.cells #[.int .i64 0, .int .i64 0] 41))
  go_enter Tryz.func99, Tryz.ntmps99
  go_wp2_with fail
  (with_reducible refine (K1.out _).mono ?_)
  rintro e w1 ⟨rfl, hb⟩
  have A1 := Lib.hid (A0.out.below hb A0.out.lt)
  have R1 := Lib.hid (R0.out.below hb R0.out.lt)
  have b1 := Lib.hid (b0.out.trans (hb.mono b0.out.size))
  clear hb A0 R0 b0
  go_wp2_with fail
  (with_reducible refine (K2.out _).mono ?_)
  rintro e w2 ⟨rfl, rfl⟩
  have yA : ∀ i, w2.cell? ⟨w.heap.size, i, none⟩ = (#[.int .i64 lo, .int .i64 hi] : Array Value)[i]? := fun i => A1.out.cell i
  go_wp2_with fail
  (with_reducible refine (K3.out _).mono ?_)
  rintro e w3 ⟨rfl, hb⟩
  have A3 := Lib.hid (A1.out.below hb A1.out.lt)
  have R3 := Lib.hid (R1.out.below hb R1.out.lt)
  have b3 := Lib.hid (b1.out.trans (hb.mono b1.out.size))
  clear hb A1 R1 b1 yA
  go_wp2_with fail
  (with_reducible refine (K4.out _).mono ?_)
  rintro e w4 ⟨rfl, hb⟩
  have A4 := Lib.hid (A3.out.below hb A3.out.lt)
  have R4 := Lib.hid (R3.out.below hb R3.out.lt)
  have b4 := Lib.hid (b3.out.trans (hb.mono b3.out.size))
  clear hb A3 R3 b3
  have yR : ∀ i, w4.cell? ⟨w.heap.size + 1, i, none⟩ = (#[.int .i64 0, .int .i64 0] : Array Value)[i]? := fun i => R4.out.cell i
  have zR : ∀ i, w4.frozen? ⟨w.heap.size + 1, i, none⟩ = false := fun i => R4.out.frozen i
  go_wp2
  refine bodyPost_ret (v := .tuple #[.agg #[.int .i64 x, .int .i64 y], .int .i64 0]) (by simp [results, Tryz.results99, go_sem, *]; done) rfl ⟨rfl, ?_⟩
  exact (b4.out.setCell (by simp) _).setCell (by simp) _
end Go.Proofs.YtbpnacacnncopaaGreatDoor
namespace Go.Proofs.YtbpnacacnncopaaGreatDoor
open Go.RowKit
set_option maxHeartbeats 1000000 in
theorem arRes_any (a b : Int) (w : World) (ha : rchB a = true) (hb : rchB b = true) : Calls Tryz.prog 102 #[.int .i64 a, .int .i64 b] w fun e w' => e = .returned (.tuple #[.agg #[.int .i64 a, .int .i64 b], .int .i64 0]) ∧ Below w.heap.size w w' := by
  have K1 := Lib.hid (fun W => fits_any a W)
  have K2 := Lib.hid (fun W => fits_any b W)
  rw [ha] at K1
  rw [hb] at K2
  clear ha hb
  have R0 := Lib.hid (Blk.new w 41 #[.int .i64 0, .int .i64 0])
  have b0 := Lib.hid ((Below.refl w.heap.size w).alloc (Nat.le_refl _) (.cells #[.int .i64 0, .int .i64 0] 41))
  go_enter Tryz.func102, Tryz.ntmps102
  go_upto_region 1 with fail
  generalize (w.alloc (.cells #[.int .i64 0, .int .i64 0] 41)) = w1 at *
  go_wp2_with fail
  (with_reducible refine (K1.out _).mono ?_)
  rintro e w2 ⟨rfl, rfl⟩
  go_wp2_with fail
  (with_reducible refine (K2.out _).mono ?_)
  rintro e w3 ⟨rfl, rfl⟩
  have yR : ∀ i, w3.cell? ⟨w.heap.size, i, none⟩ = (#[.int .i64 0, .int .i64 0] : Array Value)[i]? := fun i => R0.out.cell i
  have zR : ∀ i, w3.frozen? ⟨w.heap.size, i, none⟩ = false := fun i => R0.out.frozen i
  go_wp2
  refine bodyPost_ret (v := .tuple #[.agg #[.int .i64 a, .int .i64 b], .int .i64 0]) (by simp [results, Tryz.results102, go_sem, *]; done) rfl ⟨rfl, ?_⟩
  exact (b0.out.setCell (by first | exact Nat.le_refl _ | (simp; done) | (simp; omega) | (simp only []; omega)) _).setCell (by first | exact Nat.le_refl _ | (simp; done) | (simp; omega) | (simp only []; omega)) _
set_option maxHeartbeats 1000000 in
theorem arAdd_any (a b c d : Int) (w : World) (h1 : avB a b = true) (h2 : avB c d = true) (h3 : rchB (a + c) = true) (h4 : rchB (b + d) = true) : Calls Tryz.prog 59 #[.agg #[.int .i64 a, .int .i64 b], .agg #[.int .i64 c, .int .i64 d]] w fun e w' => e = .returned (.tuple #[.agg #[.int .i64 (a + c), .int .i64 (b + d)], .int .i64 0]) ∧ Below w.heap.size w w' := by
  have K1 := Lib.hid (fun W => aValid_any a b W)
  have K2 := Lib.hid (fun W => aValid_any c d W)
  have K3 := Lib.hid (fun W => arRes_any (a + c) (b + d) W h3 h4)
  rw [h1] at K1
  rw [h2] at K2
  have g3 := rch_iff.1 h3
  have g4 := rch_iff.1 h4
  have s1 : wrap64 (a + c) = a + c := IntWalk.wrap64_in _ (by omega)
  have s2 : wrap64 (b + d) = b + d := IntWalk.wrap64_in _ (by omega)
  clear h1 h2 h3 h4 g3 g4
  have A0 := Lib.hid (((Blk.new w 41 #[.int .i64 a, .int .i64 b]).alloc (.cells #[.int .i64 c, .int .i64 d] 41)).alloc (.cells #[.int .i64 0, .int .i64 0] 41))
  have B0 := Lib.hid ((Blk.new (w.alloc (.cells #[.int .i64 a, .int .i64 b] 41)) 41 #[.int .i64 c, .int .i64 d]).alloc (.cells #[.int .i64 0, .int .i64 0] 41))
  simp only [World.size_alloc] at B0
  have R0 := Lib.hid (Blk.new ((w.alloc (.cells #[.int .i64 a, .int .i64 b] 41)).alloc (.cells #[.int .i64 c, .int .i64 d] 41)) 41 #[.int .i64 0, .int .i64 0])
  simp only [World.size_alloc] at R0
  have b0 := Lib.hid ((((Below.refl w.heap.size w).alloc (Nat.le_refl _) (.cells #[.int .i64 a, .int .i64 b] 41)).alloc (by simp) (.cells #[.int .i64 c, .int .i64 d] 41)).alloc (by simp; omega) (.cells #[.int .i64 0, .int .i64 0] 41))
  go_enter Tryz.func59, Tryz.ntmps59
  go_upto_region 1 with fail
  generalize (((w.alloc (.cells #[.int .i64 a, .int .i64 b] 41)).alloc (.cells #[.int .i64 c, .int .i64 d] 41)).alloc (.cells #[.int .i64 0, .int .i64 0] 41)) = w1 at *
  have yA : ∀ i, w1.cell? ⟨w.heap.size, i, none⟩ = (#[.int .i64 a, .int .i64 b] : Array Value)[i]? := fun i => A0.out.cell i
  go_wp2_with fail
  (with_reducible refine (K1.out _).mono ?_)
  rintro e w2 ⟨rfl, hb⟩
  have A2 := Lib.hid (A0.out.below hb A0.out.lt)
  have B2 := Lib.hid (B0.out.below hb B0.out.lt)
  have R2 := Lib.hid (R0.out.below hb R0.out.lt)
  have b2 := Lib.hid (b0.out.trans (hb.mono b0.out.size))
  clear hb A0 B0 R0 b0 yA
  have yB : ∀ i, w2.cell? ⟨w.heap.size + 1, i, none⟩ = (#[.int .i64 c, .int .i64 d] : Array Value)[i]? := fun i => B2.out.cell i
  go_wp2_with fail
  (with_reducible refine (K2.out _).mono ?_)
  rintro e w3 ⟨rfl, hb⟩
  have A3 := Lib.hid (A2.out.below hb A2.out.lt)
  have B3 := Lib.hid (B2.out.below hb B2.out.lt)
  have R3 := Lib.hid (R2.out.below hb R2.out.lt)
  have b3 := Lib.hid (b2.out.trans (hb.mono b2.out.size))
  clear hb A2 B2 R2 b2 yB
  have yA : ∀ i, w3.cell? ⟨w.heap.size, i, none⟩ = (#[.int .i64 a, .int .i64 b] : Array Value)[i]? := fun i => A3.out.cell i
  have yB : ∀ i, w3.cell? ⟨w.heap.size + 1, i, none⟩ = (#[.int .i64 c, .int .i64 d] : Array Value)[i]? := fun i => B3.out.cell i
  go_wp2_with fail
  (with_reducible refine (K3.out _).mono ?_)
  rintro e w4 ⟨rfl, hb⟩
  have A4 := Lib.hid (A3.out.below hb A3.out.lt)
  have B4 := Lib.hid (B3.out.below hb B3.out.lt)
  have R4 := Lib.hid (R3.out.below hb R3.out.lt)
  have b4 := Lib.hid (b3.out.trans (hb.mono b3.out.size))
  clear hb A3 B3 R3 b3 yA yB
  have yR : ∀ i, w4.cell? ⟨w.heap.size + 1 + 1, i, none⟩ = (#[.int .i64 0, .int .i64 0] : Array Value)[i]? := fun i => R4.out.cell i
  have zR : ∀ i, w4.frozen? ⟨w.heap.size + 1 + 1, i, none⟩ = false := fun i => R4.out.frozen i
  go_wp2
  refine bodyPost_ret (v := .tuple #[.agg #[.int .i64 ((a + c)), .int .i64 ((b + d))], .int .i64 0]) (by simp [results, Tryz.results59, go_sem, *]; done) rfl ⟨rfl, ?_⟩
  exact (b4.out.setCell (by first | exact Nat.le_refl _ | (simp; done) | (simp; omega) | (simp only []; omega)) _).setCell (by first | exact Nat.le_refl _ | (simp; done) | (simp; omega) | (simp only []; omega)) _
set_option maxHeartbeats 1000000 in
theorem arNeg_any (a b : Int) (w : World) (h1 : avB a b = true) : Calls Tryz.prog 98 #[.agg #[.int .i64 a, .int .i64 b]] w fun e w' => e = .returned (.tuple #[.agg #[.int .i64 (-b), .int .i64 (-a)], .int .i64 0]) ∧ Below w.heap.size w w' := by
  have K1 := Lib.hid (fun W => aValid_any a b W)
  rw [h1] at K1
  have g1 := avB_true.1 h1
  have K3 := Lib.hid (fun W => arRes_any (-b) (-a) W (rch_iff.2 (by omega)) (rch_iff.2 (by omega)))
  have s1 : wrap64 (-a) = -a := IntWalk.wrap64_in _ (by omega)
  have s2 : wrap64 (-b) = -b := IntWalk.wrap64_in _ (by omega)
  clear h1
  have A0 := Lib.hid ((Blk.new w 41 #[.int .i64 a, .int .i64 b]).alloc (.cells #[.int .i64 0, .int .i64 0] 41))
  have R0 := Lib.hid (Blk.new (w.alloc (.cells #[.int .i64 a, .int .i64 b] 41)) 41 #[.int .i64 0, .int .i64 0])
  simp only [World.size_alloc] at R0
  have b0 := Lib.hid (((Below.refl w.heap.size w).alloc (Nat.le_refl _) (.cells #[.int .i64 a, .int .i64 b] 41)).alloc (by simp) (.cells #[.int .i64 0, .int .i64 0] 41))
  go_enter Tryz.func98, Tryz.ntmps98
  go_upto_region 1 with fail
  generalize ((w.alloc (.cells #[.int .i64 a, .int .i64 b] 41)).alloc (.cells #[.int .i64 0, .int .i64 0] 41)) = w1 at *
  have yA : ∀ i, w1.cell? ⟨w.heap.size, i, none⟩ = (#[.int .i64 a, .int .i64 b] : Array Value)[i]? := fun i => A0.out.cell i
  go_wp2_with fail
  (with_reducible refine (K1.out _).mono ?_)
  rintro e w2 ⟨rfl, hb⟩
  have A2 := Lib.hid (A0.out.below hb A0.out.lt)
  have R2 := Lib.hid (R0.out.below hb R0.out.lt)
  have b2 := Lib.hid (b0.out.trans (hb.mono b0.out.size))
  clear hb A0 R0 b0 yA
  have yA : ∀ i, w2.cell? ⟨w.heap.size, i, none⟩ = (#[.int .i64 a, .int .i64 b] : Array Value)[i]? := fun i => A2.out.cell i
  go_wp2_with fail
  (with_reducible refine (K3.out _).mono ?_)
  rintro e w3 ⟨rfl, hb⟩
  have A3 := Lib.hid (A2.out.below hb A2.out.lt)
  have R3 := Lib.hid (R2.out.below hb R2.out.lt)
  have b3 := Lib.hid (b2.out.trans (hb.mono b2.out.size))
  clear hb A2 R2 b2 yA
  have yR : ∀ i, w3.cell? ⟨w.heap.size + 1, i, none⟩ = (#[.int .i64 0, .int .i64 0] : Array Value)[i]? := fun i => R3.out.cell i
  have zR : ∀ i, w3.frozen? ⟨w.heap.size + 1, i, none⟩ = false := fun i => R3.out.frozen i
  go_wp2
  refine bodyPost_ret (v := .tuple #[.agg #[.int .i64 ((-b)), .int .i64 ((-a))], .int .i64 0]) (by simp [results, Tryz.results98, go_sem, *]; done) rfl ⟨rfl, ?_⟩
  exact (b3.out.setCell (by first | exact Nat.le_refl _ | (simp; done) | (simp; omega) | (simp only []; omega)) _).setCell (by first | exact Nat.le_refl _ | (simp; done) | (simp; omega) | (simp only []; omega)) _
set_option maxHeartbeats 1000000 in
theorem arSub_any (a b c d : Int) (w : World) (h1 : avB a b = true) (h2 : avB c d = true) (h3 : rchB (a - d) = true) (h4 : rchB (b - c) = true) : Calls Tryz.prog 56 #[.agg #[.int .i64 a, .int .i64 b], .agg #[.int .i64 c, .int .i64 d]] w fun e w' => e = .returned (.tuple #[.agg #[.int .i64 (a - d), .int .i64 (b - c)], .int .i64 0]) ∧ Below w.heap.size w w' := by
  have K1 := Lib.hid (fun W => arNeg_any c d W h2)
  have K2 := Lib.hid (fun W => arAdd_any a b (-d) (-c) W h1 (by rw [avB_true] at h2 ⊢; omega) (by rwa [← Int.sub_eq_add_neg]) (by rwa [← Int.sub_eq_add_neg]))
  rw [Int.sub_eq_add_neg, Int.sub_eq_add_neg]
  clear h1 h2 h3 h4
  have A0 := Lib.hid (((Blk.new w 41 #[.int .i64 a, .int .i64 b]).alloc (.cells #[.int .i64 c, .int .i64 d] 41)).alloc (.cells #[.int .i64 0, .int .i64 0] 41))
  have B0 := Lib.hid ((Blk.new (w.alloc (.cells #[.int .i64 a, .int .i64 b] 41)) 41 #[.int .i64 c, .int .i64 d]).alloc (.cells #[.int .i64 0, .int .i64 0] 41))
  simp only [World.size_alloc] at B0
  have R0 := Lib.hid (Blk.new ((w.alloc (.cells #[.int .i64 a, .int .i64 b] 41)).alloc (.cells #[.int .i64 c, .int .i64 d] 41)) 41 #[.int .i64 0, .int .i64 0])
  simp only [World.size_alloc] at R0
  have b0 := Lib.hid ((((Below.refl w.heap.size w).alloc (Nat.le_refl _) (.cells #[.int .i64 a, .int .i64 b] 41)).alloc (by simp) (.cells #[.int .i64 c, .int .i64 d] 41)).alloc (by simp; omega) (.cells #[.int .i64 0, .int .i64 0] 41))
  go_enter Tryz.func56, Tryz.ntmps56
  go_upto_region 1 with fail
  generalize (((w.alloc (.cells #[.int .i64 a, .int .i64 b] 41)).alloc (.cells #[.int .i64 c, .int .i64 d] 41)).alloc (.cells #[.int .i64 0, .int .i64 0] 41)) = w1 at *
  have yB : ∀ i, w1.cell? ⟨w.heap.size + 1, i, none⟩ = (#[.int .i64 c, .int .i64 d] : Array Value)[i]? := fun i => B0.out.cell i
  go_wp2_with fail
  (with_reducible refine (K1.out _).mono ?_)
  rintro e w2 ⟨rfl, hb⟩
  have A2 := Lib.hid (A0.out.below hb A0.out.lt)
  have B2 := Lib.hid (B0.out.below hb B0.out.lt)
  have R2 := Lib.hid (R0.out.below hb R0.out.lt)
  have b2 := Lib.hid (b0.out.trans (hb.mono b0.out.size))
  clear hb A0 B0 R0 b0 yB
  have A3 := Lib.hid (A2.out.alloc (.cells #[.int .i64 ((-d)), .int .i64 ((-c))] 41))
  have B3 := Lib.hid (B2.out.alloc (.cells #[.int .i64 ((-d)), .int .i64 ((-c))] 41))
  have R3 := Lib.hid (R2.out.alloc (.cells #[.int .i64 ((-d)), .int .i64 ((-c))] 41))
  have C3 := Lib.hid (Blk.new w2 41 #[.int .i64 ((-d)), .int .i64 ((-c))])
  have b3 := Lib.hid (b2.out.trans ((bl_alloc w2 (.cells #[.int .i64 ((-d)), .int .i64 ((-c))] 41)).mono b2.out.size))
  clear A2 B2 R2 b2
  go_upto_region 2 with fail
  generalize w2.alloc (.cells #[.int .i64 ((-d)), .int .i64 ((-c))] 41) = w4 at *
  have yA : ∀ i, w4.cell? ⟨w.heap.size, i, none⟩ = (#[.int .i64 a, .int .i64 b] : Array Value)[i]? := fun i => A3.out.cell i
  have yC : ∀ i, w4.cell? ⟨w2.heap.size, i, none⟩ = (#[.int .i64 ((-d)), .int .i64 ((-c))] : Array Value)[i]? := fun i => C3.out.cell i
  go_wp2_with fail
  (with_reducible refine (K2.out _).mono ?_)
  rintro e w5 ⟨rfl, hb⟩
  have A5 := Lib.hid (A3.out.below hb A3.out.lt)
  have B5 := Lib.hid (B3.out.below hb B3.out.lt)
  have R5 := Lib.hid (R3.out.below hb R3.out.lt)
  have C5 := Lib.hid (C3.out.below hb C3.out.lt)
  have b5 := Lib.hid (b3.out.trans (hb.mono b3.out.size))
  clear hb A3 B3 R3 C3 b3 yA yC
  have yR : ∀ i, w5.cell? ⟨w.heap.size + 1 + 1, i, none⟩ = (#[.int .i64 0, .int .i64 0] : Array Value)[i]? := fun i => R5.out.cell i
  have zR : ∀ i, w5.frozen? ⟨w.heap.size + 1 + 1, i, none⟩ = false := fun i => R5.out.frozen i
  go_wp2
  refine bodyPost_ret (v := .tuple #[.agg #[.int .i64 ((a + -d)), .int .i64 ((b + -c))], .int .i64 0]) (by simp [results, Tryz.results56, go_sem, *]; done) rfl ⟨rfl, ?_⟩
  exact (b5.out.setCell (by first | exact Nat.le_refl _ | (simp; done) | (simp; omega) | (simp only []; omega)) _).setCell (by first | exact Nat.le_refl _ | (simp; done) | (simp; omega) | (simp only []; omega)) _
set_option maxHeartbeats 1000000 in
theorem arIn_any (a b c d : Int) (w : World) (h1 : avB a b = true) (h2 : avB c d = true) : Calls Tryz.prog 19 #[.agg #[.int .i64 a, .int .i64 b], .agg #[.int .i64 c, .int .i64 d]] w fun e w' => e = .returned (.bool (decide (c ≤ a) && decide (b ≤ d))) ∧ Below w.heap.size w w' := by
  have K1 := Lib.hid (fun W => aValid_any a b W)
  have K2 := Lib.hid (fun W => aValid_any c d W)
  rw [h1] at K1
  rw [h2] at K2
  clear h1 h2
  obtain ⟨p, hp⟩ : ∃ p, decide (c ≤ a) = p := ⟨_, rfl⟩
  obtain ⟨q, hq⟩ : ∃ q, decide (b ≤ d) = q := ⟨_, rfl⟩
  rw [hp, hq]
  cases p with
  | false =>
    have A0 := Lib.hid ((Blk.new w 41 #[.int .i64 a, .int .i64 b]).alloc (.cells #[.int .i64 c, .int .i64 d] 41))
    have B0 := Lib.hid (Blk.new (w.alloc (.cells #[.int .i64 a, .int .i64 b] 41)) 41 #[.int .i64 c, .int .i64 d])
    simp only [World.size_alloc] at B0
    have b0 := Lib.hid (((Below.refl w.heap.size w).alloc (Nat.le_refl _) (.cells #[.int .i64 a, .int .i64 b] 41)).alloc (by simp) (.cells #[.int .i64 c, .int .i64 d] 41))
    go_enter Tryz.func19, Tryz.ntmps19
    go_upto_region 1 with fail
    generalize ((w.alloc (.cells #[.int .i64 a, .int .i64 b] 41)).alloc (.cells #[.int .i64 c, .int .i64 d] 41)) = w1 at *
    have yA : ∀ i, w1.cell? ⟨w.heap.size, i, none⟩ = (#[.int .i64 a, .int .i64 b] : Array Value)[i]? := fun i => A0.out.cell i
    go_wp2_with fail
    (with_reducible refine (K1.out _).mono ?_)
    rintro e w2 ⟨rfl, hb⟩
    have A2 := Lib.hid (A0.out.below hb A0.out.lt)
    have B2 := Lib.hid (B0.out.below hb B0.out.lt)
    have b2 := Lib.hid (b0.out.trans (hb.mono b0.out.size))
    clear hb A0 B0 b0 yA
    have yB : ∀ i, w2.cell? ⟨w.heap.size + 1, i, none⟩ = (#[.int .i64 c, .int .i64 d] : Array Value)[i]? := fun i => B2.out.cell i
    go_wp2_with fail
    (with_reducible refine (K2.out _).mono ?_)
    rintro e w3 ⟨rfl, hb⟩
    have A3 := Lib.hid (A2.out.below hb A2.out.lt)
    have B3 := Lib.hid (B2.out.below hb B2.out.lt)
    have b3 := Lib.hid (b2.out.trans (hb.mono b2.out.size))
    clear hb A2 B2 b2 yB
    have yA : ∀ i, w3.cell? ⟨w.heap.size, i, none⟩ = (#[.int .i64 a, .int .i64 b] : Array Value)[i]? := fun i => A3.out.cell i
    have yB : ∀ i, w3.cell? ⟨w.heap.size + 1, i, none⟩ = (#[.int .i64 c, .int .i64 d] : Array Value)[i]? := fun i => B3.out.cell i
    go_wp2
    go_ret
    exact ⟨rfl, b3.out⟩
  | true =>
    cases q
    all_goals
      have A0 := Lib.hid ((Blk.new w 41 #[.int .i64 a, .int .i64 b]).alloc (.cells #[.int .i64 c, .int .i64 d] 41))
      have B0 := Lib.hid (Blk.new (w.alloc (.cells #[.int .i64 a, .int .i64 b] 41)) 41 #[.int .i64 c, .int .i64 d])
      simp only [World.size_alloc] at B0
      have b0 := Lib.hid (((Below.refl w.heap.size w).alloc (Nat.le_refl _) (.cells #[.int .i64 a, .int .i64 b] 41)).alloc (by simp) (.cells #[.int .i64 c, .int .i64 d] 41))
      go_enter Tryz.func19, Tryz.ntmps19
      go_upto_region 1 with fail
      generalize ((w.alloc (.cells #[.int .i64 a, .int .i64 b] 41)).alloc (.cells #[.int .i64 c, .int .i64 d] 41)) = w1 at *
      have yA : ∀ i, w1.cell? ⟨w.heap.size, i, none⟩ = (#[.int .i64 a, .int .i64 b] : Array Value)[i]? := fun i => A0.out.cell i
      go_wp2_with fail
      (with_reducible refine (K1.out _).mono ?_)
      rintro e w2 ⟨rfl, hb⟩
      have A2 := Lib.hid (A0.out.below hb A0.out.lt)
      have B2 := Lib.hid (B0.out.below hb B0.out.lt)
      have b2 := Lib.hid (b0.out.trans (hb.mono b0.out.size))
      clear hb A0 B0 b0 yA
      have yB : ∀ i, w2.cell? ⟨w.heap.size + 1, i, none⟩ = (#[.int .i64 c, .int .i64 d] : Array Value)[i]? := fun i => B2.out.cell i
      go_wp2_with fail
      (with_reducible refine (K2.out _).mono ?_)
      rintro e w3 ⟨rfl, hb⟩
      have A3 := Lib.hid (A2.out.below hb A2.out.lt)
      have B3 := Lib.hid (B2.out.below hb B2.out.lt)
      have b3 := Lib.hid (b2.out.trans (hb.mono b2.out.size))
      clear hb A2 B2 b2 yB
      have yA : ∀ i, w3.cell? ⟨w.heap.size, i, none⟩ = (#[.int .i64 a, .int .i64 b] : Array Value)[i]? := fun i => A3.out.cell i
      have yB : ∀ i, w3.cell? ⟨w.heap.size + 1, i, none⟩ = (#[.int .i64 c, .int .i64 d] : Array Value)[i]? := fun i => B3.out.cell i
      go_wp2
      go_ret
      exact ⟨rfl, b3.out⟩
end Go.Proofs.YtbpnacacnncopaaGreatDoor
