/- The instrument: Valid, arc, Correction, Apply. -/
import Derived.Test.YtbpnacacnncopaaGreatDoorHYl
set_option linter.unusedVariables false
set_option linter.unusedSimpArgs false
namespace Go.Proofs.YtbpnacacnncopaaGreatDoor
open Go.RowKit
set_option maxHeartbeats 1000000 in
theorem dfloor_any (a b : Int) (w : World) (a0 : -1152921504606846976 ≤ a) (a1 : a ≤ 1152921504606846976) (b0 : 0 < b) (b1 : b ≤ 1152921504606846976) : Calls Tryz.prog 185 #[.int .i64 a, .int .i64 b] w fun e w' => e = .returned (.int .i64 (a / b)) ∧ w' = w := by
  have hf := floor_td a b0
  have q1 := Int.natAbs_tdiv_le_natAbs a b
  have hz : (b == 0) = false := by simp; omega
  have hz2 : ¬ b = 0 := by omega
  rw [← hf]
  clear hf
  obtain ⟨q, hq⟩ : ∃ q, a.tdiv b = q := ⟨_, rfl⟩
  obtain ⟨r, hr⟩ : ∃ r, a.tmod b = r := ⟨_, rfl⟩
  rw [hq] at q1 ⊢
  rw [hr]
  have q0 : -1152921504606846976 ≤ q := by omega
  have q9 : q ≤ 1152921504606846976 := by omega
  clear q1
  by_cases h : r < 0
  · rw [if_pos h]
    have d0 : decide (r < 0) = true := decide_eq_true h
    go_enter Tryz.func185, Tryz.ntmps185
    go_wp2
    go_ret
    exact ⟨rfl, rfl⟩
  · rw [if_neg h]
    have d0 : decide (r < 0) = false := decide_eq_false h
    go_enter Tryz.func185, Tryz.ntmps185
    go_wp2
    go_ret
    exact ⟨rfl, rfl⟩
theorem ediv_bdN {a b B : Int} (h0 : -B ≤ a) (h1 : a ≤ B) (b0 : 0 < b) (hB : 0 ≤ B) : -B ≤ a / b ∧ a / b ≤ B := by
  constructor
  · refine (Int.le_ediv_iff_mul_le b0).2 ?_
    have := Int.mul_le_mul_of_nonneg_left (show (1 : Int) ≤ b by omega) hB
    rw [Int.neg_mul]
    omega
  · have := Int.ediv_le_ediv b0 h1
    have h2 := Int.ediv_le_self b hB
    omega
set_option maxHeartbeats 1000000 in
theorem dquot_any (a b : Int) (w : World) (a0 : -1152921504606846976 ≤ a) (a1 : a ≤ 1152921504606846976) (b0 : 0 < b) (b1 : b ≤ 1152921504606846976) : Calls Tryz.prog 140 #[.int .i64 a, .int .i64 b] w fun e w' => e = .returned (.agg #[.int .i64 (a / b), .int .i64 (-(-a / b))]) ∧ Below w.heap.size w w' := by
  have K1 := Lib.hid (fun W => dfloor_any a b W a0 a1 b0 b1)
  have K2 := Lib.hid (fun W => dfloor_any (-a) b W (by omega) (by omega) b0 b1)
  have g := ediv_bdN (a := -a) (b := b) (B := 1152921504606846976) (by omega) (by omega) b0 (by omega)
  generalize a / b = x at *
  generalize -a / b = y at *
  have g0 := g.1
  have g1 := g.2
  clear g
  have R0 := Lib.hid (Blk.new w 41 #[.int .i64 0, .int .i64 0])
  have b0 := Lib.hid ((Below.refl w.heap.size w).alloc (Nat.le_refl _) (.cells #[.int .i64 0, .int .i64 0] 41))
  go_enter Tryz.func140, Tryz.ntmps140
  go_upto_region 1 with fail
  generalize (w.alloc (.cells #[.int .i64 0, .int .i64 0] 41)) = w1 at *
  go_wp2_with fail
  (with_reducible refine (K1.out _).mono ?_)
  rintro e w2 ⟨rfl, rfl⟩
  go_wp2_with fail
  (with_reducible refine (K2.out _).mono ?_)
  rintro e w3 ⟨rfl, rfl⟩
  have yR : ∀ i, w3.cell? ⟨w.heap.size, i, none⟩ = (#[.int .i64 0, .int .i64 0] : Array Value)[i]? := fun i => R0.out.cell i
  have zR : ∀ i, w3.frozen? ⟨w.heap.size, i, none⟩ = false := fun i => R0.out.frozen i
  go_wp2
  refine bodyPost_ret (v := .agg #[.int .i64 x, .int .i64 ((-y))]) (by simp [results, Tryz.results140, go_sem, *]; done) rfl ⟨rfl, ?_⟩
  exact (b0.out.setCell (by first | exact Nat.le_refl _ | (simp; done) | (simp; omega) | (simp only []; omega)) _).setCell (by first | exact Nat.le_refl _ | (simp; done) | (simp; omega) | (simp only []; omega)) _
/-- the root of a number, rounded down -/
def isqF : Nat → Nat → Nat
  | 0, _ => 0
  | f + 1, s => if (f + 1) * (f + 1) ≤ s then f + 1 else isqF f s
def isq (s : Nat) : Nat := isqF 2097152 s
theorem isqF_one : ∀ (f k s : Nat), k ≤ f → k * k ≤ s → s < (k + 1) * (k + 1) → isqF f s = k
  | 0, k, s, h, _, _ => by unfold isqF; omega
  | f + 1, k, s, h, h1, h2 => by
    unfold isqF
    split
    · rename_i h3
      rcases Nat.lt_or_ge k (f + 1) with g | g
      · have := Nat.mul_le_mul (show k + 1 ≤ f + 1 by omega) (show k + 1 ≤ f + 1 by omega)
        omega
      · omega
    · rename_i h3
      refine isqF_one f k s ?_ h1 h2
      rcases Nat.lt_or_ge f k with g | g
      · obtain rfl : k = f + 1 := by omega
        exact absurd h1 h3
      · exact g
theorem isq_one {k s : Nat} (h : k ≤ 2097152) (h1 : k * k ≤ s) (h2 : s < (k + 1) * (k + 1)) : isq s = k := isqF_one _ k s h h1 h2
/-- the dip, rounded down and up -/
def dpL (n : Nat) : Nat := isq (30976 * n)
def dpH (n : Nat) : Nat := if dpL n * dpL n = 30976 * n then dpL n else dpL n + 1
set_option maxHeartbeats 4000000 in
set_option maxRecDepth 100000 in
theorem root_any (n : Nat) (w : World) (hn : n ≤ 10000) : Calls Tryz.prog 139 #[.int .i64 176, .int .i64 (n : Int)] w fun e w' => (e = .returned (.agg #[.int .i64 (dpL n : Int), .int .i64 (dpH n : Int)]) ∧ dpL n ≤ 20000) ∧ Below w.heap.size w w' := by
  obtain ⟨s, hs⟩ : ∃ s, 30976 * n = s := ⟨_, rfl⟩
  have hs1 : s ≤ 309760000 := by omega
  have hP : ∀ k : Nat, k * k ≤ s → s < (k + 1) * (k + 1) → dpL n = k ∧ dpH n = (if k * k = s then k else k + 1) ∧ k ≤ 20000 := fun k h1 h2 => by
    have hk : k ≤ 20000 := by
      rcases Nat.lt_or_ge 20000 k with g | g
      · have := Nat.mul_le_mul (show 20001 ≤ k by omega) (show 20001 ≤ k by omega)
        omega
      · exact g
    have e : dpL n = k := by unfold dpL; rw [hs]; exact isq_one (by omega) h1 h2
    exact ⟨e, by unfold dpH; rw [e, hs], hk⟩
  have HP := Lib.hid hP
  have R0 := Lib.hid (Blk.new w 41 #[.int .i64 0, .int .i64 0])
  have b0 := Lib.hid (bl_alloc w (.cells #[.int .i64 0, .int .i64 0] 41))
  have hsn : (30976 * (n : Int)) = (s : Int) := by omega
  generalize dpL n = PL at *
  generalize dpH n = PH at *
  clear hP hs
  go_enter Tryz.func139, Tryz.ntmps139
  go_upto_region 1 with fail
  generalize w.alloc (.cells #[.int .i64 0, .int .i64 0] 41) = w0 at *
  go_wp2_with fail
  go_loopg [6, 7] 2097152 (fun gz s6 s7 wr => ∃ lo hi : Nat, lo < hi ∧ hi ≤ 2097152 ∧ hi - lo ≤ gz ∧ s6 = .int .i64 (lo : Int) ∧ s7 = .int .i64 (hi : Int) ∧ lo * lo ≤ s ∧ s < hi * hi ∧ wr = w0)
  case atStart => exact ⟨0, 2097152, by omega, by omega, by omega, rfl, rfl, by omega, by omega, rfl⟩
  case round =>
    obtain ⟨lo, hi, h1, h2, h3, rfl, rfl, h4, h5, rfl⟩ := hrel
    by_cases hd : 1 < hi - lo
    · have d0 : decide ((1 : Int) < (hi : Int) - (lo : Int)) = true := decide_eq_true (by omega)
      obtain ⟨m, hm⟩ : ∃ m, (lo + hi) / 2 = m := ⟨_, rfl⟩
      have e1 : ((lo : Int) + (hi : Int)).tdiv 2 = (m : Int) := by rw [Int.tdiv_eq_ediv_of_nonneg (by omega)]; omega
      have e2 : ((lo : Int) + (hi : Int)) / 2 = (m : Int) := by omega
      have hm1 : lo < m := by omega
      have hm2 : m < hi := by omega
      have hmm : m * m ≤ 2097152 * 2097152 := Nat.mul_le_mul (by omega) (by omega)
      obtain ⟨p, hp⟩ : ∃ p, m * m = p := ⟨_, rfl⟩
      rw [hp] at hmm
      have e3 : (m : Int) * (m : Int) = (p : Int) := by rw [← hp]; exact (Int.natCast_mul m m).symm
      have HPP := Lib.hid hp
      clear hp hm
      by_cases hc : p ≤ s
      · have d1 : decide ((p : Int) ≤ (s : Int)) = true := decide_eq_true (by omega)
        have d2 : decide (p ≤ s) = true := decide_eq_true hc
        go_wp2
        go_roundg (hi - m)
        case measure => omega
        case rel => exact ⟨m, hi, hm2, h2, by omega, rfl, rfl, by rw [HPP.out]; exact hc, h5, rfl⟩
      · have d1 : decide ((p : Int) ≤ (s : Int)) = false := decide_eq_false (by omega)
        have d2 : decide (p ≤ s) = false := decide_eq_false hc
        go_wp2
        go_roundg (m - lo)
        case measure => omega
        case rel => exact ⟨lo, m, hm1, by omega, by omega, rfl, rfl, h4, by rw [HPP.out]; omega, rfl⟩
    · obtain rfl : hi = lo + 1 := by omega
      have d0 : decide ((1 : Int) < ((lo + 1 : Nat) : Int) - (lo : Int)) = false := decide_eq_false (by omega)
      have d9 : decide ((1 : Int) < (lo : Int) + 1 - (lo : Int)) = false := decide_eq_false (by omega)
      obtain ⟨hP1, hP2, hP3⟩ := HP.out lo h4 h5
      obtain ⟨p, hp⟩ : ∃ p, lo * lo = p := ⟨_, rfl⟩
      have e3 : (lo : Int) * (lo : Int) = (p : Int) := by rw [← hp]; exact (Int.natCast_mul lo lo).symm
      rw [hp] at hP2 h4
      have hp9 : p ≤ 400000000 := by rw [← hp]; exact Nat.mul_le_mul hP3 hP3
      subst hP1
      clear h1 h2 h3 h5 hd hp HP
      by_cases hc : p = s
      · rw [if_pos hc] at hP2
        replace hP2 := hP2.symm
        subst hP2
        have d1 : decide ((p : Int) < (s : Int)) = false := decide_eq_false (by omega)
        have d2 : decide (p < s) = false := decide_eq_false (by omega)
        have A1 := Lib.hid (R0.out.alloc (.cells #[.int .i64 (PL : Int), .int .i64 (PL : Int)] 41))
        have A2 := Lib.hid (Blk.new wr 41 #[.int .i64 (PL : Int), .int .i64 (PL : Int)])
        have b1 := Lib.hid (b0.out.trans ((bl_alloc wr (.cells #[.int .i64 (PL : Int), .int .i64 (PL : Int)] 41)).mono b0.out.size))
        go_upto_region 9 with fail
        generalize wr.alloc (.cells #[.int .i64 (PL : Int), .int .i64 (PL : Int)] 41) = w1 at *
        have yA : ∀ i, w1.cell? ⟨wr.heap.size, i, none⟩ = (#[.int .i64 (PL : Int), .int .i64 (PL : Int)] : Array Value)[i]? := fun i => A2.out.cell i
        have yR : ∀ i, w1.cell? ⟨w.heap.size, i, none⟩ = (#[.int .i64 0, .int .i64 0] : Array Value)[i]? := fun i => A1.out.cell i
        have zR : ∀ i, w1.frozen? ⟨w.heap.size, i, none⟩ = false := fun i => A1.out.frozen i
        go_wp2
        refine bodyPost_ret (v := .agg #[.int .i64 (PL : Int), .int .i64 (PL : Int)]) (by simp [results, Tryz.results139, go_sem, *]; done) rfl ⟨⟨rfl, hP3⟩, ?_⟩
        exact (b1.out.setCell (Nat.le_refl _) _).setCell (Nat.le_refl _) _
      · rw [if_neg hc] at hP2
        subst hP2
        have d1 : decide ((p : Int) < (s : Int)) = true := decide_eq_true (by omega)
        have d2 : decide (p < s) = true := decide_eq_true (by omega)
        have A1 := Lib.hid (R0.out.alloc (.cells #[.int .i64 (PL : Int), .int .i64 (PL : Int)] 41))
        have A2 := Lib.hid (Blk.new wr 41 #[.int .i64 (PL : Int), .int .i64 (PL : Int)])
        have b1 := Lib.hid (b0.out.trans ((bl_alloc wr (.cells #[.int .i64 (PL : Int), .int .i64 (PL : Int)] 41)).mono b0.out.size))
        have hne : Hid (w.heap.size < wr.heap.size) := R0.out.lt |> Lib.hid
        go_upto_region 9 with fail
        generalize wr.alloc (.cells #[.int .i64 (PL : Int), .int .i64 (PL : Int)] 41) = w1 at *
        have yA : ∀ i, w1.cell? ⟨wr.heap.size, i, none⟩ = (#[.int .i64 (PL : Int), .int .i64 (PL : Int)] : Array Value)[i]? := fun i => A2.out.cell i
        have zA : ∀ i, w1.frozen? ⟨wr.heap.size, i, none⟩ = false := fun i => A2.out.frozen i
        go_upto_region 11 with fail
        have C2 := Lib.hid (show Blk (w1.setCell ⟨wr.heap.size, 1, none⟩ (.int .i64 ((PL : Int) + 1))) wr.heap.size 41 #[.int .i64 (PL : Int), .int .i64 ((PL : Int) + 1)] from by simpa using A2.out.set_ 1 (.int .i64 ((PL : Int) + 1)))
        have C1 := Lib.hid (A1.out.far (p := ⟨wr.heap.size, 1, none⟩) (Nat.ne_of_lt hne.out) (.int .i64 ((PL : Int) + 1)))
        have c1 := Lib.hid (b1.out.setCell (p := ⟨wr.heap.size, 1, none⟩) (Nat.le_of_lt hne.out) (.int .i64 ((PL : Int) + 1)))
        clear yA zA A1 A2 b1
        generalize w1.setCell ⟨wr.heap.size, 1, none⟩ (.int .i64 ((PL : Int) + 1)) = w2 at *
        have yA : ∀ i, w2.cell? ⟨wr.heap.size, i, none⟩ = (#[.int .i64 (PL : Int), .int .i64 ((PL : Int) + 1)] : Array Value)[i]? := fun i => C2.out.cell i
        have yR : ∀ i, w2.cell? ⟨w.heap.size, i, none⟩ = (#[.int .i64 0, .int .i64 0] : Array Value)[i]? := fun i => C1.out.cell i
        have zR : ∀ i, w2.frozen? ⟨w.heap.size, i, none⟩ = false := fun i => C1.out.frozen i
        go_wp2
        refine bodyPost_ret (v := .agg #[.int .i64 (PL : Int), .int .i64 ((PL : Int) + 1)]) (by simp [results, Tryz.results139, go_sem, *]; done) rfl ⟨⟨rfl, hP3⟩, ?_⟩
        exact (c1.out.setCell (Nat.le_refl _) _).setCell (Nat.le_refl _) _
theorem dwithin_any (n a b : Int) (w : World) (h0 : a ≤ n) (h1 : n ≤ b) : Calls Tryz.prog 138 #[.int .i64 n, .int .i64 a, .int .i64 b] w fun e w' => e = .returned (.bool true) ∧ w' = w := by
  have d0 : decide (a ≤ n) = true := decide_eq_true h0
  have d1 : decide (n ≤ b) = true := decide_eq_true h1
  go_enter Tryz.func138, Tryz.ntmps138
  go_wp2
  go_ret
  exact ⟨rfl, rfl⟩
theorem Dip_any (n : Nat) (w : World) (hn : n ≤ 10000) : Calls Tryz.prog 96 #[.int .i64 (n : Int)] w fun e w' => (e = .returned (.tuple #[.agg #[.int .i64 (dpL n : Int), .int .i64 (dpH n : Int)], .int .i64 0]) ∧ dpL n ≤ 20000) ∧ Below w.heap.size w w' := by
  have K1 := Lib.hid (fun W => dwithin_any (n : Int) 0 10000 W (by omega) (by omega))
  have K2 := Lib.hid (fun W => root_any n W hn)
  clear hn
  have R0 := Lib.hid (Blk.new w 41 #[.int .i64 0, .int .i64 0])
  have b0 := Lib.hid ((Below.refl w.heap.size w).alloc (Nat.le_refl _) (.cells #[.int .i64 0, .int .i64 0] 41))
  go_enter Tryz.func96, Tryz.ntmps96
  go_upto_region 1 with fail
  generalize (w.alloc (.cells #[.int .i64 0, .int .i64 0] 41)) = w1 at *
  go_wp2_with fail
  (with_reducible refine (K1.out _).mono ?_)
  rintro e w2 ⟨rfl, rfl⟩
  go_wp2_with fail
  (with_reducible refine (K2.out _).mono ?_)
  rintro e w3 ⟨⟨rfl, hle⟩, hb⟩
  have R3 := Lib.hid (R0.out.below hb R0.out.lt)
  have b3 := Lib.hid (b0.out.trans (hb.mono b0.out.size))
  clear hb R0 b0
  have HLE := Lib.hid hle
  clear hle
  have yR : ∀ i, w3.cell? ⟨w.heap.size, i, none⟩ = (#[.int .i64 0, .int .i64 0] : Array Value)[i]? := fun i => R3.out.cell i
  have zR : ∀ i, w3.frozen? ⟨w.heap.size, i, none⟩ = false := fun i => R3.out.frozen i
  go_wp2
  refine bodyPost_ret (v := .tuple #[.agg #[.int .i64 (dpL n : Int), .int .i64 (dpH n : Int)], .int .i64 0]) (by simp [results, Tryz.results96, go_sem, *]; done) rfl ⟨⟨rfl, HLE.out⟩, ?_⟩
  exact (b3.out.setCell (by first | exact Nat.le_refl _ | (simp; done) | (simp; omega) | (simp only []; omega)) _).setCell (by first | exact Nat.le_refl _ | (simp; done) | (simp; omega) | (simp only []; omega)) _
/-- the dip short of the horizon -/
def shL (e d : Int) : Int := (131953 * d * d + 5893750000 * e) / (317500 * d)
def shH (e d : Int) : Int := -(-(131953 * d * d + 5893750000 * e) / (317500 * d))
theorem sh_num {e d : Int} (e0 : 0 ≤ e) (e1 : e ≤ 10000) (d0 : 1 ≤ d) (d1 : d ≤ 100000) : 0 ≤ 131953 * d * d ∧ 131953 * d * d ≤ 1319530000000000 ∧ 131953 * d * d + 5893750000 * e ≤ 186000000 * (317500 * d) := by
  have h1 : 131953 * d * d = 131953 * (d * d) := by rw [Int.mul_assoc]
  have h2 := Int.mul_le_mul_of_nonneg_left d1 (show 0 ≤ d by omega)
  have h3 := Int.mul_nonneg (show 0 ≤ d by omega) (show 0 ≤ d by omega)
  rw [h1]
  omega
theorem sh_bd {e d : Int} (e0 : 0 ≤ e) (e1 : e ≤ 10000) (d0 : 1 ≤ d) (d1 : d ≤ 100000) : 0 ≤ shL e d ∧ shL e d ≤ shH e d ∧ shH e d ≤ 186000000 := by
  obtain ⟨a, b, c⟩ := sh_num e0 e1 d0 d1
  unfold shL shH
  obtain ⟨x, hx⟩ : ∃ x, 131953 * d * d + 5893750000 * e = x := ⟨_, rfl⟩
  rw [hx] at c ⊢
  have hx0 : 0 ≤ x := by omega
  clear hx a b
  obtain ⟨y, hy⟩ : ∃ y, 317500 * d = y := ⟨_, rfl⟩
  rw [hy] at c ⊢
  have hy0 : 0 < y := by omega
  clear hy d0 d1 e0 e1
  have q1 := Int.mul_ediv_self_le (x := x) (k := y) (by omega)
  have q2 := Int.mul_ediv_self_le (x := -x) (k := y) (by omega)
  have q3 : -186000000 ≤ -x / y := (Int.le_ediv_iff_mul_le hy0).2 (by rw [Int.neg_mul]; omega)
  refine ⟨Int.ediv_nonneg hx0 (by omega), ?_, by omega⟩
  have q5 : y * (x / y + -x / y) ≤ 0 := by rw [Int.mul_add]; omega
  rcases Int.lt_or_le 0 (x / y + -x / y) with h | h
  · have := Int.mul_pos hy0 h
    omega
  · omega
set_option maxHeartbeats 1000000 in
theorem Short_any (e d : Int) (w : World) (e0 : 0 ≤ e) (e1 : e ≤ 10000) (d0 : 1 ≤ d) (d1 : d ≤ 100000) : Calls Tryz.prog 97 #[.int .i64 e, .int .i64 d] w fun x w' => x = .returned (.tuple #[.agg #[.int .i64 (shL e d), .int .i64 (shH e d)], .int .i64 0]) ∧ Below w.heap.size w w' := by
  obtain ⟨a, b, c⟩ := sh_num e0 e1 d0 d1
  have K1 := Lib.hid (fun W => dwithin_any e 0 10000 W e0 e1)
  have K2 := Lib.hid (fun W => dwithin_any d 1 100000 W d0 d1)
  have K3 := Lib.hid (fun W => dquot_any (131953 * d * d + 5893750000 * e) (317500 * d) W (by omega) (by omega) (by omega) (by omega))
  change Hid (∀ W, Calls Tryz.prog 140 #[.int .i64 (131953 * d * d + 5893750000 * e), .int .i64 (317500 * d)] W fun x w' => x = .returned (.agg #[.int .i64 (shL e d), .int .i64 (shH e d)]) ∧ Below W.heap.size W w') at K3
  have m1 : wrap64 (131953 * d) = 131953 * d := IntWalk.wrap64_in _ (by omega)
  have m2 : wrap64 (131953 * d * d) = 131953 * d * d := IntWalk.wrap64_in _ (by omega)
  have m3 : wrap64 (131953 * d * d + 5893750000 * e) = 131953 * d * d + 5893750000 * e := IntWalk.wrap64_in _ (by omega)
  generalize shL e d = x at *
  generalize shH e d = y at *
  have R0 := Lib.hid (Blk.new w 41 #[.int .i64 0, .int .i64 0])
  have b0 := Lib.hid ((Below.refl w.heap.size w).alloc (Nat.le_refl _) (.cells #[.int .i64 0, .int .i64 0] 41))
  go_enter Tryz.func97, Tryz.ntmps97
  go_upto_region 1 with fail
  generalize (w.alloc (.cells #[.int .i64 0, .int .i64 0] 41)) = w1 at *
  go_wp2_with fail
  (with_reducible refine (K1.out _).mono ?_)
  rintro e w2 ⟨rfl, rfl⟩
  go_wp2_with fail
  (with_reducible refine (K2.out _).mono ?_)
  rintro e w3 ⟨rfl, rfl⟩
  go_wp2_with fail
  (with_reducible refine (K3.out _).mono ?_)
  rintro e w4 ⟨rfl, hb⟩
  have R4 := Lib.hid (R0.out.below hb R0.out.lt)
  have b4 := Lib.hid (b0.out.trans (hb.mono b0.out.size))
  clear hb R0 b0
  have yR : ∀ i, w4.cell? ⟨w.heap.size, i, none⟩ = (#[.int .i64 0, .int .i64 0] : Array Value)[i]? := fun i => R4.out.cell i
  have zR : ∀ i, w4.frozen? ⟨w.heap.size, i, none⟩ = false := fun i => R4.out.frozen i
  go_wp2
  refine bodyPost_ret (v := .tuple #[.agg #[.int .i64 x, .int .i64 y], .int .i64 0]) (by simp [results, Tryz.results97, go_sem, *]; done) rfl ⟨rfl, ?_⟩
  exact (b4.out.setCell (by first | exact Nat.le_refl _ | (simp; done) | (simp; omega) | (simp only []; omega)) _).setCell (by first | exact Nat.le_refl _ | (simp; done) | (simp; omega) | (simp only []; omega)) _
end Go.Proofs.YtbpnacacnncopaaGreatDoor
namespace Go.Proofs.YtbpnacacnncopaaGreatDoor
open Go.RowKit
abbrev Ent := Int × Int
/-- a table in a slice below B -/
def TabAt (w : World) (B : Nat) (A : Option Addr) (T : List Ent) : Prop := T = [] ∨ ∃ b off, A = some ⟨b, off, none⟩ ∧ b < B ∧ ∀ (j : Nat) (x : Ent), T[j]? = some x → w.cell? ⟨b, off + j * 2, none⟩ = some (.int .i64 x.1) ∧ w.cell? ⟨b, off + j * 2 + 1, none⟩ = some (.int .i64 x.2)
theorem TabAt.bl {w w' : World} {B : Nat} {A : Option Addr} {T : List Ent} (h : TabAt w B A T) (hb : Below B w w') : TabAt w' B A T := by
  rcases h with h | ⟨b, off, e, hlt, hc⟩
  · exact .inl h
  · exact .inr ⟨b, off, e, hlt, fun j x hx => ⟨(hb.cell (p := ⟨b, off + j * 2, none⟩) hlt).trans (hc j x hx).1, (hb.cell (p := ⟨b, off + j * 2 + 1, none⟩) hlt).trans (hc j x hx).2⟩⟩
def wiB (n l : Int) : Bool := decide (-l ≤ n) && decide (n ≤ l)
def entB (x : Ent) : Bool := decide (0 ≤ x.1) && decide (x.1 ≤ 7800000) && wiB x.2 10000
def nxB (p x : Ent) : Bool := decide (p.1 < x.1) && wiB (10 * (x.2 - p.2)) (x.1 - p.1)
def tabR : Ent → List Ent → Bool
  | _, [] => true
  | p, x :: r => entB x && (nxB p x && tabR x r)
def tabB : List Ent → Bool
  | [] => true
  | x :: r => entB x && tabR x r
/-- which instruments are valid -/
def insV (ix : Int) (T : List Ent) : Bool := wiB ix 60000 && (decide (T.length ≤ 40) && tabB T)
theorem wi_iff {n l : Int} : wiB n l = true ↔ -l ≤ n ∧ n ≤ l := by unfold wiB; simp
theorem ent_iff {x : Ent} : entB x = true ↔ 0 ≤ x.1 ∧ x.1 ≤ 7800000 ∧ -10000 ≤ x.2 ∧ x.2 ≤ 10000 := by
  unfold entB
  rw [Bool.and_eq_true, Bool.and_eq_true, wi_iff]
  simp
  omega
theorem iwithin_any (n l : Int) (w : World) (l0 : 0 ≤ l) (l1 : l ≤ 1000000000000) : Calls Tryz.prog 134 #[.int .i64 n, .int .i64 l] w fun e w' => e = .returned (.bool (wiB n l)) ∧ w' = w := by
  have m1 : wrap64 (-l) = -l := IntWalk.wrap64_in _ (by omega)
  unfold wiB
  obtain ⟨p, hp⟩ : ∃ p, decide (-l ≤ n) = p := ⟨_, rfl⟩
  obtain ⟨q, hq⟩ : ∃ q, decide (n ≤ l) = q := ⟨_, rfl⟩
  rw [hp, hq]
  cases p <;> cases q
  all_goals
    go_enter Tryz.func134, Tryz.ntmps134
    go_wp2
    go_ret
    exact ⟨rfl, rfl⟩
theorem drop_cons {T : List Ent} {k : Nat} {x : Ent} (h : T[k]? = some x) : T.drop k = x :: T.drop (k + 1) := by
  obtain ⟨hk, rfl⟩ := List.getElem?_eq_some_iff.1 h
  exact List.drop_eq_getElem_cons hk
set_option maxHeartbeats 8000000 in
set_option maxRecDepth 100000 in
theorem insV_any (ix : Int) (T : List Ent) (A : Option Addr) (n c : Nat) (w : World) (hT : TabAt w w.heap.size A T) (hn : T.length = n) (hn1 : n ≤ 1000) :
    Calls Tryz.prog 92 #[.agg #[.int .i64 ix, .slice A n c]] w fun e w' => e = .returned (.bool (insV ix T)) ∧ Below w.heap.size w w' := by
  have KX := Lib.hid (fun W => iwithin_any ix 60000 W (by omega) (by omega))
  have hV : insV ix T = (wiB ix 60000 && (decide (n ≤ 40) && tabB T)) := by unfold insV; rw [hn]
  obtain ⟨V, hV0⟩ : ∃ V, insV ix T = V := ⟨_, rfl⟩
  rw [hV0] at hV ⊢
  have HV := Lib.hid hV
  clear hV hV0
  have I0 := Lib.hid (Blk.new w 40 #[.int .i64 ix, .slice A n c])
  have b0 := Lib.hid (bl_alloc w (.cells #[.int .i64 ix, .slice A n c] 40))
  have H0 := Lib.hid hT
  clear hT
  obtain ⟨wx, hwx⟩ : ∃ wx, wiB ix 60000 = wx := ⟨_, rfl⟩
  rw [hwx] at KX HV
  clear hwx
  have HN := Lib.hid hn
  go_enter Tryz.func92, Tryz.ntmps92
  go_upto_region 1 with fail
  generalize w.alloc (.cells #[.int .i64 ix, .slice A n c] 40) = w0 at *
  have yI : ∀ i, w0.cell? ⟨w.heap.size, i, none⟩ = (#[.int .i64 ix, .slice A n c] : Array Value)[i]? := fun i => I0.out.cell i
  cases wx with
  | false =>
    obtain rfl : V = false := by rw [HV.out]; rfl
    go_wp2_with (go_at_call 134; (with_reducible refine (KX.out _).mono ?_); rintro e w1 ⟨rfl, rfl⟩)
    go_ret
    exact ⟨rfl, b0.out⟩
  | true =>
    by_cases h40 : n ≤ 40
    case neg =>
      obtain rfl : V = false := by rw [HV.out, decide_eq_false h40]; rfl
      have d0 : decide ((40 : Int) < (n : Int)) = true := decide_eq_true (by omega)
      have d1 : decide (40 < n) = true := decide_eq_true (by omega)
      go_wp2_with (go_at_call 134; (with_reducible refine (KX.out _).mono ?_); rintro e w1 ⟨rfl, rfl⟩)
      go_ret
      exact ⟨rfl, b0.out⟩
    case pos =>
      have hV2 : V = tabB T := by rw [HV.out, decide_eq_true h40]; rfl
      have d0 : decide ((40 : Int) < (n : Int)) = false := decide_eq_false (by omega)
      have d1 : decide (40 < n) = false := decide_eq_false (by omega)
      have HV2 := Lib.hid hV2
      clear hV2 HV
      go_wp2_with (go_at_call 134; (with_reducible refine (KX.out _).mono ?_); rintro e w1 ⟨rfl, rfl⟩)
      rename World => w1
      clear KX d0 d1
      go_loopg [19] n (fun gz s19 wr => ∃ k : Nat, k ≤ n ∧ n - k ≤ gz ∧ s19 = .int .i64 (k : Int) ∧ (k = 0 ∨ ∃ p : Ent, T[k - 1]? = some p ∧ entB p = true ∧ V = tabR p (T.drop k)) ∧ Blk wr w.heap.size 40 #[.int .i64 ix, .slice A n c] ∧ Below w.heap.size w wr)
      case atStart => exact ⟨0, Nat.zero_le _, by omega, rfl, .inl rfl, I0.out, b0.out⟩
      case round =>
        obtain ⟨k, hk, hg, rfl, hp, hI, hB⟩ := hrel
        have II := Lib.hid hI
        have BB := Lib.hid hB
        have HP := Lib.hid hp
        have TT := Lib.hid (H0.out.bl BB.out)
        clear yI I0 b0 hI hB hp
        by_cases hlt : k < n
        case neg =>
          obtain rfl : k = n := by omega
          have d9 : decide ((k : Int) < (k : Int)) = false := decide_eq_false (by omega)
          have hVt : V = true := by
            rcases HP.out with h0 | ⟨p, -, -, hv⟩
            · subst h0
              have : T = [] := List.eq_nil_of_length_eq_zero HN.out
              rw [HV2.out, this]
              rfl
            · rw [hv, List.drop_eq_nil_of_le (by rw [HN.out]; exact Nat.le_refl _)]
              rfl
          subst hVt
          go_wp2
          go_ret
          exact ⟨rfl, BB.out⟩
        case pos =>
          have d9 : decide ((k : Int) < (n : Int)) = true := decide_eq_true (by omega)
          have d8 : decide (k < n) = true := decide_eq_true (by omega)
          obtain ⟨x, hx⟩ : ∃ x, T[k]? = some x := ⟨_, List.getElem?_eq_getElem (by rw [HN.out]; exact hlt)⟩
          have hne : T ≠ [] := fun e => by rw [e] at hx; cases hx
          rcases TT.out with he | ⟨b, off, rfl, hb, hc⟩
          · exact absurd he hne
          have y0 : wr.cell? ⟨b, off + k * 2, none⟩ = some (.int .i64 x.1) := (hc k x hx).1
          have y1 : wr.cell? ⟨b, off + k * 2 + 1, none⟩ = some (.int .i64 x.2) := (hc k x hx).2
          have HX := Lib.hid hx
          have HC := Lib.hid hc
          clear hx hc TT hne
          obtain ⟨a, v⟩ := x
          simp only [] at y0 y1
          have I6 := Lib.hid (II.out.alloc (.cells #[.int .i64 a, .int .i64 v] 135))
          have X6 := Lib.hid (Blk.new wr 135 #[.int .i64 a, .int .i64 v])
          have B6 := Lib.hid (BB.out.trans ((bl_alloc wr (.cells #[.int .i64 a, .int .i64 v] 135)).mono BB.out.size))
          have C6 : Hid (∀ (j : Nat) (x : Ent), T[j]? = some x → (wr.alloc (.cells #[.int .i64 a, .int .i64 v] 135)).cell? ⟨b, off + j * 2, none⟩ = some (.int .i64 x.1) ∧ (wr.alloc (.cells #[.int .i64 a, .int .i64 v] 135)).cell? ⟨b, off + j * 2 + 1, none⟩ = some (.int .i64 x.2)) := Lib.hid fun j x hx => by
            have hb2 : b < wr.heap.size := Nat.lt_of_lt_of_le hb BB.out.size
            exact ⟨((bl_alloc wr _).cell (p := ⟨b, off + j * 2, none⟩) hb2).trans (HC.out j x hx).1, ((bl_alloc wr _).cell (p := ⟨b, off + j * 2 + 1, none⟩) hb2).trans (HC.out j x hx).2⟩
          go_upto_region 6 with fail
          generalize wr.alloc (.cells #[.int .i64 a, .int .i64 v] 135) = w6 at *
          have yI : ∀ i, w6.cell? ⟨w.heap.size, i, none⟩ = (#[.int .i64 ix, .slice (some ⟨b, off, none⟩) n c] : Array Value)[i]? := fun i => I6.out.cell i
          have yX : ∀ i, w6.cell? ⟨wr.heap.size, i, none⟩ = (#[.int .i64 a, .int .i64 v] : Array Value)[i]? := fun i => X6.out.cell i
          clear y0 y1 II BB HC
          have KW := Lib.hid (fun W => iwithin_any v 10000 W (by omega) (by omega))
          have hbad : entB (a, v) = false → V = false := fun h => by
            rcases HP.out with h0 | ⟨p, -, -, hv⟩
            · subst h0
              have : T = (a, v) :: T.drop 1 := drop_cons (k := 0) HX.out
              rw [HV2.out, this]
              show (entB (a, v) && _) = false
              rw [h]
              rfl
            · rw [hv, drop_cons HX.out]
              show (entB (a, v) && _) = false
              rw [h]
              rfl
          have he : entB (a, v) = (decide (0 ≤ a) && decide (a ≤ 7800000) && wiB v 10000) := rfl
          obtain ⟨q, hq⟩ : ∃ q, wiB v 10000 = q := ⟨_, rfl⟩
          rw [hq] at KW he
          by_cases h0 : a < 0
          · obtain rfl := hbad (by rw [he, decide_eq_false (show ¬ 0 ≤ a by omega)]; rfl)
            have d0 : decide (a < 0) = true := decide_eq_true h0
            clear hbad he
            go_wp2
            go_ret
            exact ⟨rfl, B6.out⟩
          · have d0 : decide (a < 0) = false := decide_eq_false h0
            by_cases h1 : 7800000 < a
            · obtain rfl := hbad (by rw [he, decide_eq_false (show ¬ a ≤ 7800000 by omega)]; simp)
              have d1 : decide (7800000 < a) = true := decide_eq_true h1
              clear hbad he
              go_wp2
              go_ret
              exact ⟨rfl, B6.out⟩
            · have d1 : decide (7800000 < a) = false := decide_eq_false h1
              cases q with
              | false =>
                obtain rfl := hbad (by rw [he]; simp)
                clear hbad he
                go_wp2_with (go_at_call 134; (with_reducible refine (KW.out _).mono ?_); rintro e w7 ⟨rfl, rfl⟩)
                go_ret
                exact ⟨rfl, B6.out⟩
              | true =>
                have hE : entB (a, v) = true := by rw [he, decide_eq_true (show 0 ≤ a by omega), decide_eq_true (show a ≤ 7800000 by omega)]; rfl
                have HE := Lib.hid hE
                have HQ := Lib.hid (wi_iff.1 hq)
                clear hbad he hE hq
                by_cases hk0 : k = 0
                · subst hk0
                  have HP1 : Hid (V = tabR (a, v) (T.drop 1)) := Lib.hid (by
                    have : T = (a, v) :: T.drop 1 := drop_cons (k := 0) HX.out
                    rw [HV2.out]
                    conv => lhs; rw [this]
                    show (entB (a, v) && _) = _
                    rw [HE.out]
                    rfl)
                  go_wp2_with (go_at_call 134; (with_reducible refine (KW.out _).mono ?_); rintro e w7 ⟨rfl, rfl⟩)
                  go_roundg (gk - 1)
                  case measure => omega
                  case rel => exact ⟨1, by omega, by omega, by go_num, .inr ⟨(a, v), HX.out, HE.out, HP1.out⟩, I6.out, B6.out⟩
                · obtain ⟨p, hp1, hp2, hp3⟩ : ∃ p : Ent, T[k - 1]? = some p ∧ entB p = true ∧ V = tabR p (T.drop k) := by
                    rcases HP.out with h | h
                    · exact absurd h hk0
                    · exact h
                  obtain ⟨a', v'⟩ := p
                  have hpe := ent_iff.1 hp2
                  simp only [] at hpe
                  have HVP : Hid (V = (nxB (a', v') (a, v) && tabR (a, v) (T.drop (k + 1)))) := Lib.hid (by
                    rw [hp3, drop_cons HX.out]
                    show (entB (a, v) && _) = _
                    rw [HE.out]
                    rfl)
                  have dk : ((k : Int) == 0) = false := by simp; omega
                  have dk2 : (k == 0) = false := by simp; omega
                  clear hp2 hp3 HP
                  go_upto_region 9 with (go_at_call 134; (with_reducible refine (KW.out _).mono ?_); rintro e w7 ⟨rfl, rfl⟩)
                  rename World => w7
                  have HQ1 := HQ.out.1
                  have HQ2 := HQ.out.2
                  have yI : ∀ (s : BQ w7) i, s.w.cell? ⟨w.heap.size, i, none⟩ = (#[.int .i64 ix, .slice (some ⟨b, off, none⟩) n c] : Array Value)[i]? := fun s i => (I6.out.below s.hb I6.out.lt).cell i
                  have yX : ∀ (s : BQ w7) i, s.w.cell? ⟨wr.heap.size, i, none⟩ = (#[.int .i64 a, .int .i64 v] : Array Value)[i]? := fun s i => (X6.out.below s.hb X6.out.lt).cell i
                  have y0 : ∀ (s : BQ w7), s.w.cell? ⟨b, off + (k - 1) * 2, none⟩ = some (.int .i64 a') := fun s => (s.hb.cell (p := ⟨b, off + (k - 1) * 2, none⟩) (Nat.lt_of_lt_of_le hb B6.out.size)).trans (C6.out (k - 1) (a', v') hp1).1
                  have y1 : ∀ (s : BQ w7), s.w.cell? ⟨b, off + (k - 1) * 2 + 1, none⟩ = some (.int .i64 v') := fun s => (s.hb.cell (p := ⟨b, off + (k - 1) * 2 + 1, none⟩) (Nat.lt_of_lt_of_le hb B6.out.size)).trans (C6.out (k - 1) (a', v') hp1).2
                  refine wp_region_bq w7 (by kernel_rfl) (by kernel_rfl) (Below.refl _ _) ?_
                  repeat (go_big_quiet_step (first | fail))
                  refine wpQuiet_nil ?_
                  intro w8 hb8
                  have I8 := Lib.hid (I6.out.below hb8 I6.out.lt)
                  have X8 := Lib.hid (X6.out.below hb8 X6.out.lt)
                  have B8 := Lib.hid (B6.out.trans (hb8.mono B6.out.size))
                  have C8 := Lib.hid (show w8.cell? ⟨b, off + (k - 1) * 2, none⟩ = some (.int .i64 a') ∧ w8.cell? ⟨b, off + (k - 1) * 2 + 1, none⟩ = some (.int .i64 v') from
                    ⟨(hb8.cell (p := ⟨b, off + (k - 1) * 2, none⟩) (Nat.lt_of_lt_of_le hb B6.out.size)).trans (C6.out (k - 1) (a', v') hp1).1, (hb8.cell (p := ⟨b, off + (k - 1) * 2 + 1, none⟩) (Nat.lt_of_lt_of_le hb B6.out.size)).trans (C6.out (k - 1) (a', v') hp1).2⟩)
                  have hb9 : b < w8.heap.size := Nat.lt_of_lt_of_le hb B8.out.size
                  clear hb8 yI yX y0 y1 I6 X6 B6 C6
                  have yI : ∀ (s : BQ w8) i, s.w.cell? ⟨w.heap.size, i, none⟩ = (#[.int .i64 ix, .slice (some ⟨b, off, none⟩) n c] : Array Value)[i]? := fun s i => (I8.out.below s.hb I8.out.lt).cell i
                  have yX : ∀ (s : BQ w8) i, s.w.cell? ⟨wr.heap.size, i, none⟩ = (#[.int .i64 a, .int .i64 v] : Array Value)[i]? := fun s i => (X8.out.below s.hb X8.out.lt).cell i
                  have y0 : ∀ (s : BQ w8), s.w.cell? ⟨b, off + (k - 1) * 2, none⟩ = some (.int .i64 a') := fun s => (s.hb.cell (p := ⟨b, off + (k - 1) * 2, none⟩) hb9).trans C8.out.1
                  have y1 : ∀ (s : BQ w8), s.w.cell? ⟨b, off + (k - 1) * 2 + 1, none⟩ = some (.int .i64 v') := fun s => (s.hb.cell (p := ⟨b, off + (k - 1) * 2 + 1, none⟩) hb9).trans C8.out.2
                  go_upto_region 10 with fail
                  have hnx : nxB (a', v') (a, v) = (decide (a' < a) && wiB (10 * (v - v')) (a - a')) := rfl
                  rw [hnx] at HVP
                  clear hnx
                  by_cases hd : a - a' ≤ 0
                  · obtain rfl : V = false := by rw [HVP.out, decide_eq_false (show ¬ a' < a by omega)]; rfl
                    have d5 : decide (a - a' ≤ 0) = true := decide_eq_true hd
                    refine wp_region_bq w8 (by kernel_rfl) (by kernel_rfl) (Below.refl _ _) ?_
                    repeat (go_big_quiet_step (first | fail))
                    refine wpQuiet_nil ?_
                    intro w9 hb
                    go_wp2
                    go_ret
                    exact ⟨rfl, B8.out.trans (hb.mono B8.out.size)⟩
                  · have d5 : decide (a - a' ≤ 0) = false := decide_eq_false hd
                    have KD := Lib.hid (fun W => iwithin_any (10 * (v - v')) (a - a') W (by omega) (by omega))
                    have iw1 : IntKind.i64.wrap (v - v') = v - v' := IntWalk.i64_in _ (by omega)
                    have iw2 : IntKind.i64.wrap (10 * (v - v')) = 10 * (v - v') := IntWalk.i64_in _ (by omega)
                    obtain ⟨q2, hq2⟩ : ∃ q, wiB (10 * (v - v')) (a - a') = q := ⟨_, rfl⟩
                    rw [hq2] at KD HVP
                    rw [decide_eq_true (show a' < a by omega)] at HVP
                    clear hq2
                    cases q2 with
                    | false =>
                      obtain rfl : V = false := by rw [HVP.out]; rfl
                      refine wp_region_bq w8 (by kernel_rfl) (by kernel_rfl) (Below.refl _ _) ?_
                      repeat (go_big_quiet_step (first | (go_at_call 134; exact quiet_bq0 (KD.out _)) | fail))
                      refine wpQuiet_nil ?_
                      intro w9 hb
                      go_wp2
                      go_ret
                      exact ⟨rfl, B8.out.trans (hb.mono B8.out.size)⟩
                    | true =>
                      have HP1 : Hid (V = tabR (a, v) (T.drop (k + 1))) := Lib.hid (by rw [HVP.out]; rfl)
                      refine wp_region_bq w8 (by kernel_rfl) (by kernel_rfl) (Below.refl _ _) ?_
                      repeat (go_big_quiet_step (first | (go_at_call 134; exact quiet_bq0 (KD.out _)) | fail))
                      refine wpQuiet_nil ?_
                      intro w9 hb
                      have I9 := Lib.hid (I8.out.below hb I8.out.lt)
                      have B9 := Lib.hid (B8.out.trans (hb.mono B8.out.size))
                      clear hb yI yX y0 y1
                      go_wp2
                      go_roundg (gk - 1)
                      case measure => omega
                      case rel => exact ⟨k + 1, by omega, by omega, by go_num, .inr ⟨(a, v), HX.out, HE.out, HP1.out⟩, I9.out, B9.out⟩
end Go.Proofs.YtbpnacacnncopaaGreatDoor
