/- The walks of the reference's sine over an arc. -/
import Derived.Test.YtlhdneeiikemjaaGreatGSg
import Derived.Test.YtlhdneeiikemjaaGreatGRl
import Derived.Test.YtlhdneeiikemjaaGreatGUn
set_option linter.unusedVariables false
set_option linter.unusedSimpArgs false
/- The walks of the reference's Contains. -/
namespace Go.Proofs.YtlhdneeiikemjaaGreat
open Go.RowKit
theorem roffset_any (n : Int) (w : World) : Calls Tryz.prog 158 #[.int .i64 n] w fun e w' => e = .returned (.int .i64 (n % 21600000)) ∧ Below w.heap.size w w' := by
  have ht := tmodT_val n
  generalize n % 21600000 = m at *
  rcases ht with ⟨t0, t1⟩ | ⟨t0, t1⟩
  all_goals
    go_enter Tryz.func158, Tryz.ntmps158
    go_wp2
    go_ret
    exact ⟨ret_int (by first | exact t1 | rfl), Below.refl _ _⟩
set_option maxHeartbeats 1000000 in
theorem rHas_any (x y n : Int) (w : World) (h0 : -100000000 ≤ n) (h1 : n ≤ 100000000) (h2 : -100000000 ≤ x) (hx : x ≤ 100000000) (h3 : x ≤ y) (h4 : y - x < 100000000) : Calls Tryz.prog 98 #[.agg #[.int .i64 x, .int .i64 y], .int .i64 n] w fun e w' => e = .returned (.bool (lonIn x y n)) ∧ Below w.heap.size w w' := by
  have K := Lib.hid (fun W => roffset_any (n - x) W)
  have sn : IntKind.i64.wrap (n - x) = n - x := IntWalk.i64_in _ (by omega)
  have sy : IntKind.i64.wrap (y - x) = y - x := IntWalk.i64_in _ (by omega)
  unfold lonIn
  go_enter Tryz.func98, Tryz.ntmps98
  go_upto_region 1 with fail
  have b0 := bl_alloc w (.cells #[.int .i64 x, .int .i64 y] 46)
  have x1 : ∀ s : BV (w.alloc (.cells #[.int .i64 x, .int .i64 y] 46)), s.w.cell? ⟨w.heap.size, 0, none⟩ = some (.int .i64 x) := fun s => (s.hb.cell (p := ⟨w.heap.size, 0, none⟩) (by simp)).trans (by simp)
  have x2 : ∀ s : BV (w.alloc (.cells #[.int .i64 x, .int .i64 y] 46)), s.w.cell? ⟨w.heap.size, 1, none⟩ = some (.int .i64 y) := fun s => (s.hb.cell (p := ⟨w.heap.size, 1, none⟩) (by simp)).trans (by simp)
  refine wp_region_bv (w.alloc (.cells #[.int .i64 x, .int .i64 y] 46)) (by kernel_rfl) (by kernel_rfl) (Below.refl _ _) ?_
  (repeat (go_big_quiet_step (first | (go_at_call 158; with_reducible exact quiet_bv (K.out _)) | fail)))
  refine wpQuiet_nil ?_
  intro w9 hb9
  clear x1 x2 sy sn
  go_wp2
  go_ret
  exact ⟨rfl, b0.trans (hb9.mono (by simp))⟩
set_option maxHeartbeats 1000000 in
theorem rContains08_any (b0 b1 b2 b3 a b : Int) (w : World) (hb : BoxOk b0 b1 b2 b3) (hp : vptB a b = true) :
    Calls Tryz.prog 46 #[.agg #[.int .i64 b0, .int .i64 b1, .int .i64 b2, .int .i64 b3], .agg #[.int .i64 a, .int .i64 b]] w fun e w' => e = .returned (.bool (inBox b0 b1 b2 b3 a b)) ∧ Below w.heap.size w w' := by
  obtain ⟨p1, p2, p3, p4⟩ := vptB_true.1 hp
  have q1 := hb.o1
  have q2 := hb.o2
  have q3 := hb.o3
  have q4 := hb.o4
  have K3 := Lib.hid (fun W => rHas_any b2 b3 b W (by omega) (by omega) (by omega) (by omega) q1 (by omega))
  clear q1 q2 q3 q4 hb hp
  obtain ⟨R, hR⟩ : ∃ R, R = inBox b0 b1 b2 b3 a b := ⟨_, rfl⟩
  rw [← hR]
  have HR := Lib.hid hR
  clear hR
  by_cases h0 : a < b0
  · have hE : Hid (R = false) := Lib.hid (by rw [HR.out]; simp [inBox]; omega)
    go_enter Tryz.func46, Tryz.ntmps46
    go_wp2
    go_ret
    refine ⟨ret_bool hE.out.symm, ?_⟩
    repeat (first | exact Below.refl _ _ | assumption | refine bl_drew ?_ | refine bl_drewN ?_ _ | refine Below.setCell ?_ (by first | assumption | omega | (simp; done) | (simp; omega)) _ | refine Below.alloc ?_ (by first | assumption | omega | (simp; done) | (simp; omega)) _)
  · have d0 : decide (a < b0) = false := decide_eq_false h0
    by_cases h1 : b1 < a
    · have hE : Hid (R = false) := Lib.hid (by rw [HR.out]; simp [inBox]; omega)
      go_enter Tryz.func46, Tryz.ntmps46
      go_wp2
      go_ret
      refine ⟨ret_bool hE.out.symm, ?_⟩
      repeat (first | exact Below.refl _ _ | assumption | refine bl_drew ?_ | refine bl_drewN ?_ _ | refine Below.setCell ?_ (by first | assumption | omega | (simp; done) | (simp; omega)) _ | refine Below.alloc ?_ (by first | assumption | omega | (simp; done) | (simp; omega)) _)
    · have d1 : decide (b1 < a) = false := decide_eq_false h1
      have hin : decide (b0 ≤ a ∧ a ≤ b1) = true := decide_eq_true (by omega)
      by_cases h3 : a = -5400000
      · have hE : Hid (R = true) := Lib.hid (by rw [HR.out, inBox, hin]; simp [h3])
        subst h3
        clear hin
        go_enter Tryz.func46, Tryz.ntmps46
        go_wp2
        go_ret
        refine ⟨ret_bool hE.out.symm, ?_⟩
        repeat (first | exact Below.refl _ _ | assumption | refine bl_drew ?_ | refine bl_drewN ?_ _ | refine Below.setCell ?_ (by first | assumption | omega | (simp; done) | (simp; omega)) _ | refine Below.alloc ?_ (by first | assumption | omega | (simp; done) | (simp; omega)) _)
      · have e3 : (a == -5400000) = false := by simp [h3]
        by_cases h2 : a = 5400000
        · have hE : Hid (R = true) := Lib.hid (by rw [HR.out, inBox, hin]; simp [h2])
          subst h2
          clear hin
          go_enter Tryz.func46, Tryz.ntmps46
          go_wp2
          go_ret
          refine ⟨ret_bool hE.out.symm, ?_⟩
          repeat (first | exact Below.refl _ _ | assumption | refine bl_drew ?_ | refine bl_drewN ?_ _ | refine Below.setCell ?_ (by first | assumption | omega | (simp; done) | (simp; omega)) _ | refine Below.alloc ?_ (by first | assumption | omega | (simp; done) | (simp; omega)) _)
        · have e2 : (a == 5400000) = false := by simp [h2]
          have hE : Hid (R = lonIn b2 b3 b) := Lib.hid (by rw [HR.out, inBox, hin]; simp [h2, h3])
          generalize lonIn b2 b3 b = z at K3 hE
          clear hin
          go_enter Tryz.func46, Tryz.ntmps46
          go_wp2_with (go_at_call 98; (with_reducible refine (K3.out _).mono ?_); rintro e w3 ⟨rfl, hb3⟩)
          go_ret
          exact ⟨ret_bool hE.out.symm, two_bl hb3⟩
theorem rcellContains (x : Cl) (a b : Int) (W : World) (hx : Vl x) (hp : vptB a b = true) :
    Calls Tryz.prog 46 #[boxV x.1 x.2.1 x.2.2, .agg #[.int .i64 a, .int .i64 b]] W fun e w' => e = .returned (.bool (ptB x a b)) ∧ Below W.heap.size W w' :=
  rContains08_any _ _ _ _ a b W (boxOk_of hx) hp
set_option maxHeartbeats 1000000 in
set_option maxRecDepth 100000 in
theorem rCon_any (A : Option Addr) (n c : Nat) (L : List Cl) (a b : Int) (w : World) (hr : Reads w w.heap.size 3 A n (cvs L)) (hn : n ≤ 4000) (hv : AllV L) (hp : vptB a b = true) :
    Calls Tryz.prog 14 #[.slice A n c, .agg #[.int .i64 a, .int .i64 b]] w fun e w' => e = .returned (.bool (conB L a b)) ∧ Below w.heap.size w w' := by
  obtain ⟨R, hR⟩ : ∃ R, R = conB L a b := ⟨_, rfl⟩
  rw [← hR]
  have HR := Lib.hid hR
  have HL := Lib.hid hr.len
  have RD : Hid (∀ W, Below w.heap.size w W → Reads W W.heap.size 3 A n (cvs L)) := Lib.hid (fun W hW => (hr.below hW).more hW.size)
  have AV := Lib.hid hv
  have HP := Lib.hid hp
  clear hR hr hv hp
  go_enter Tryz.func14, Tryz.ntmps14
  go_wp2_with fail
  have hb2' := bl_alloc w (.cells #[.int .i64 a, .int .i64 b] 24)
  have y0 : (w.alloc (.cells #[.int .i64 a, .int .i64 b] 24)).cell? ⟨w.heap.size, 0, none⟩ = some (.int .i64 a) := by simp
  have y1 : (w.alloc (.cells #[.int .i64 a, .int .i64 b] 24)).cell? ⟨w.heap.size, 1, none⟩ = some (.int .i64 b) := by simp
  have hz2 : w.heap.size < (w.alloc (.cells #[.int .i64 a, .int .i64 b] 24)).heap.size := by simp
  generalize w.alloc (.cells #[.int .i64 a, .int .i64 b] 24) = w2 at *
  go_loopw [5] (fun i wr => ∃ k : Nat, k ≤ n ∧ i = .int .i64 k ∧ ((L.take k).any fun x => ptB x a b) = false ∧ Below w2.heap.size w2 wr) (fun i _ => n - (intOf i).toNat)
  case atStart => exact ⟨0, Nat.zero_le _, rfl, rfl, Below.refl _ _⟩
  case round =>
    obtain ⟨k, hk, rfl, hno, hbr⟩ := hrel
    have hzr := hbr.size
    by_cases hlt : k < n
    · have hbw := hb2'.trans (hbr.mono hb2'.size)
      obtain ⟨bk, off, rfl, hbk, x1, x2, x3⟩ := (RD.out wr hbw).elem hlt
      have hkl : k < L.length := by rw [HL.out]; exact hlt
      have hx := AV.out (gt L k) (by simp [gt, hkl])
      have KB := Lib.hid (fun W => refBox_any (gt L k).1 (gt L k).2.1 (gt L k).2.2 W ((vl_iff _).2 hx))
      have KC := Lib.hid (fun W => rcellContains (gt L k) a b W hx HP.out)
      have h1 := Lib.hid (con_take L a b k hkl hno)
      have h2 := Lib.hid (con_of L a b k hkl)
      generalize gt L k = x at x1 x2 x3 KB KC h1 h2
      obtain ⟨xl, xr, xc⟩ := x
      simp only [] at x1 x2 x3 KB KC
      generalize ptB (xl, xr, xc) a b = z at KC h1 h2
      clear hx hno
      have c0 : ∀ s : BV wr, s.w.cell? ⟨bk, off + k * 3, none⟩ = some (.int .i64 xl) := fun s => (s.hb.cell (p := ⟨bk, off + k * 3, none⟩) hbk).trans x1
      have c1 : ∀ s : BV wr, s.w.cell? ⟨bk, off + k * 3 + 1, none⟩ = some (.int .i64 xr) := fun s => (s.hb.cell (p := ⟨bk, off + k * 3 + 1, none⟩) hbk).trans x2
      have c2 : ∀ s : BV wr, s.w.cell? ⟨bk, off + k * 3 + 2, none⟩ = some (.int .i64 xc) := fun s => (s.hb.cell (p := ⟨bk, off + k * 3 + 2, none⟩) hbk).trans x3
      have c3 : ∀ s : BV wr, s.w.cell? ⟨w.heap.size, 0, none⟩ = some (.int .i64 a) := fun s => (s.hb.cell (p := ⟨w.heap.size, 0, none⟩) (by simp only []; omega)).trans ((hbr.cell (p := ⟨w.heap.size, 0, none⟩) hz2).trans y0)
      have c4 : ∀ s : BV wr, s.w.cell? ⟨w.heap.size, 1, none⟩ = some (.int .i64 b) := fun s => (s.hb.cell (p := ⟨w.heap.size, 1, none⟩) (by simp only []; omega)).trans ((hbr.cell (p := ⟨w.heap.size, 1, none⟩) hz2).trans y1)
      clear x1 x2 x3
      go_upto_region 4 with fail
      refine wp_region_bv wr (by kernel_rfl) (by kernel_rfl) (Below.refl _ _) ?_
      (repeat (go_big_quiet_step (first | (go_at_call 47; with_reducible exact quiet_bv (KB.out _)) | (go_at_call 46; with_reducible exact quiet_bv (KC.out _)) | fail)))
      refine wpQuiet_nil ?_
      intro w9 hb9
      have hb9' : Below w2.heap.size w2 w9 := hbr.trans (hb9.mono hbr.size)
      clear c0 c1 c2 c3 c4 KB KC
      cases z with
      | true =>
        have hE : Hid (R = true) := Lib.hid (by rw [HR.out]; exact h2.out rfl)
        go_wp2
        go_ret
        exact ⟨ret_bool hE.out.symm, hb2'.trans (hb9'.mono hb2'.size)⟩
      | false =>
        go_wp2
        go_roundw
        case rel => exact ⟨k + 1, by omega, by go_num, h1.out, hb9'⟩
        case measure => simp [intOf]; omega
    · have hkn : k = n := by omega
      have hE : Hid (R = false) := Lib.hid (by rw [HR.out]; unfold conB; rw [List.take_of_length_le (by rw [HL.out]; omega)] at hno; exact hno)
      clear hno
      go_wp2
      go_ret
      exact ⟨ret_bool hE.out.symm, hb2'.trans (hbr.mono hb2'.size)⟩
end Go.Proofs.YtlhdneeiikemjaaGreat
namespace Go.Proofs.YtlhdneeiikemjaaGreat
open Go.RowKit
/-- two cells that are known, and can be written -/
structure D2 (W : World) (g : Nat) (a b : Int) : Prop where
  lt : g < W.heap.size
  c0 : W.cell? ⟨g, 0, none⟩ = some (.int .i64 a)
  c1 : W.cell? ⟨g, 1, none⟩ = some (.int .i64 b)
  f0 : W.frozen? ⟨g, 0, none⟩ = false
  f1 : W.frozen? ⟨g, 1, none⟩ = false
section
variable {W W' : World} {g : Nat} {a b : Int}
theorem D2.below {B : Nat} (h : D2 W g a b) (hb : Below B W W') (hB : g < B) : D2 W' g a b :=
  ⟨Nat.lt_of_lt_of_le h.lt hb.size, (hb.cell (p := ⟨g, 0, none⟩) hB).trans h.c0, (hb.cell (p := ⟨g, 1, none⟩) hB).trans h.c1, (hb.frozen (p := ⟨g, 0, none⟩) hB).trans h.f0, (hb.frozen (p := ⟨g, 1, none⟩) hB).trans h.f1⟩
theorem D2.alloc (h : D2 W g a b) (o : Obj) : D2 (W.alloc o) g a b := h.below (bl_alloc W o) h.lt
theorem D2.new (W : World) (a b : Int) (t : TypeId) : D2 (W.alloc (.cells #[.int .i64 a, .int .i64 b] t)) W.heap.size a b := ⟨by simp, by simp, by simp, by simp, by simp⟩
theorem D2.far (h : D2 W g a b) {p : Addr} (hp : g ≠ p.block) (u : Value) : D2 (W.setCell p u) g a b := by
  have hne : ∀ i, p ≠ (⟨g, i, none⟩ : Addr) := fun i e => hp (by rw [e])
  refine ⟨by simpa using h.lt, ?_, ?_, ?_, ?_⟩
  · rw [World.cell?_setCell_other _ _ _ _ (hne 0)]; exact h.c0
  · rw [World.cell?_setCell_other _ _ _ _ (hne 1)]; exact h.c1
  · simpa using h.f0
  · simpa using h.f1
theorem D2.set0 (h : D2 W g a b) (v : Int) : D2 (W.setCell ⟨g, 0, none⟩ (.int .i64 v)) g v b := by
  refine ⟨by simpa using h.lt, World.cell?_setCell_same _ _ _ h.c0, ?_, by simpa using h.f0, by simpa using h.f1⟩
  rw [World.cell?_setCell_other _ _ _ _ (by simp)]
  exact h.c1
theorem D2.set1 (h : D2 W g a b) (v : Int) : D2 (W.setCell ⟨g, 1, none⟩ (.int .i64 v)) g a v := by
  refine ⟨by simpa using h.lt, ?_, World.cell?_setCell_same _ _ _ h.c1, by simpa using h.f0, by simpa using h.f1⟩
  rw [World.cell?_setCell_other _ _ _ _ (by simp)]
  exact h.c0
end
set_option maxHeartbeats 1000000 in
theorem ends_any (n : Int) (w : World) : Calls Tryz.prog 197 #[.int .i64 n] w fun e w' => e = .returned (.tuple #[.int .i64 (Trig.loB n), .int .i64 (Trig.hiB n)]) ∧ Below w.heap.size w w' := by
  have KF := Lib.hid (fun W => Floor_any n W)
  have hb := Trig.lo_bd n
  have hx : Trig.hiB n = if Trig.rEx n = true then Trig.loB n else Trig.loB n + 1 := by
    cases h : Trig.rEx n with
    | true => rw [if_pos rfl]; exact (Trig.exact_same n h).2
    | false => rw [if_neg (by simp)]; exact (qv_facts n h).2.2.2
  rw [hx]
  obtain ⟨b0, b1, -, -⟩ := hb
  clear hx
  generalize Trig.rEx n = x at *
  generalize Trig.loB n = l at *
  cases x
  all_goals
    simp only [eq_self, if_true, Bool.false_eq_true, if_false]
    go_enter Tryz.func197, Tryz.ntmps197
    go_wp2_with (go_at_call 227; (with_reducible refine (KF.out _).mono ?_); rintro e w1 ⟨rfl, hb1⟩)
    go_ret2
    exact ⟨rfl, hb1⟩
set_option maxHeartbeats 1000000 in
theorem hasR_any (lo hi n : Int) (w : World) (h0 : -10000000000000 ≤ lo) (h1 : lo ≤ 10000000000000) (h4 : -5400000 ≤ n) (h5 : n ≤ 5400000) :
    Calls Tryz.prog 198 #[.agg #[.int .i64 lo, .int .i64 hi], .int .i64 n] w fun e w' => e = .returned (.bool (decide (lo + (n - lo) % 21600000 ≤ hi))) ∧ Below w.heap.size w w' := by
  have ht := tmodT_val (n - lo)
  have hm : 0 ≤ (n - lo) % 21600000 ∧ (n - lo) % 21600000 < 21600000 := by omega
  have s1 : wrap64 (n - lo) = n - lo := IntWalk.wrap64_in _ (by omega)
  generalize (n - lo) % 21600000 = m at *
  obtain ⟨m0, m1⟩ := hm
  rcases ht with ⟨t0, t1⟩ | ⟨t0, t1⟩
  all_goals
    go_enter Tryz.func198, Tryz.ntmps198
    go_wp2
    go_ret
    refine ⟨rfl, ?_⟩
    repeat (first | exact Below.refl _ _ | assumption | refine bl_drew ?_ | refine bl_drewN ?_ _ | refine Below.setCell ?_ (by first | assumption | omega | (simp; done) | (simp; omega)) _ | refine Below.alloc ?_ (by first | assumption | omega | (simp; done) | (simp; omega)) _)
theorem has_met (lo hi : Int) : decide (lo + (5400000 - lo) % 21600000 ≤ hi) = Trig.metB lo hi 5400000 ∧ decide (lo + (-5400000 - lo) % 21600000 ≤ hi) = Trig.metB lo hi 16200000 := by
  unfold Trig.metB
  rw [decide_eq_decide, decide_eq_decide]
  omega
set_option maxHeartbeats 4000000 in
theorem sineR_any (lo hi : Int) (w : World) (h0 : -10000000000000 ≤ lo) (h1 : lo ≤ 10000000000000) :
    Calls Tryz.prog 152 #[.agg #[.int .i64 lo, .int .i64 hi]] w fun e w' => e = .returned (.agg #[.int .i64 (Trig.enLo lo hi), .int .i64 (Trig.enHi lo hi)]) ∧ Below w.heap.size w w' := by
  have KA := Lib.hid (fun W => ends_any lo W)
  have KB := Lib.hid (fun W => ends_any hi W)
  have KQ := Lib.hid (fun W => hasR_any lo hi 5400000 W h0 h1 (by omega) (by omega))
  have KR := Lib.hid (fun W => hasR_any lo hi (-5400000) W h0 h1 (by omega) (by omega))
  rw [(has_met lo hi).1] at KQ
  rw [(has_met lo hi).2] at KR
  unfold Trig.enLo Trig.enHi
  generalize Trig.metB lo hi 5400000 = p at *
  generalize Trig.metB lo hi 16200000 = q at *
  generalize Trig.loB lo = a at *
  generalize Trig.hiB lo = b at *
  generalize Trig.loB hi = c at *
  generalize Trig.hiB hi = d at *
  cases p <;> cases q
  all_goals
    simp only [eq_self, if_true, Bool.false_eq_true, if_false]
    go_enter Tryz.func152, Tryz.ntmps152
    go_wp2_with fail
    (with_reducible refine (KA.out _).mono ?_)
    rintro e w1 ⟨rfl, hb1⟩
    have hbl1 := two_bl hb1
    have X1 := Lib.hid (((D2.new w lo hi 46).alloc (.cells #[.int .i64 0, .int .i64 0] 31)).below hb1 (by simp; omega))
    have R1 : Hid (D2 w1 (w.heap.size + 1) 0 0) := Lib.hid (by
      have := (D2.new (w.alloc (.cells #[.int .i64 lo, .int .i64 hi] 46)) 0 0 31).below hb1 (by simp)
      simpa using this)
    obtain ⟨-, x0, x1, -, -⟩ := X1.out
    clear hb1
    go_wp2_with fail
    (with_reducible refine (KB.out _).mono ?_)
    rintro e w2 ⟨rfl, hb2⟩
    have hbl2 := hbl1.trans (hb2.mono hbl1.size)
    have X2 := Lib.hid (X1.out.below hb2 X1.out.lt)
    have R2 := Lib.hid (R1.out.below hb2 R1.out.lt)
    clear hb2 hbl1 X1 R1 x0 x1
    obtain ⟨xt, x0, x1, -, -⟩ := X2.out
    go_wp2_with fail
    (with_reducible refine (KQ.out _).mono ?_)
    rintro e w3 ⟨rfl, hb3⟩
    have hbl3 := (hbl2.alloc hbl2.size _).trans (hb3.mono (by have := hbl2.size; simp; omega))
    have X3 := Lib.hid ((X2.out.alloc _).below hb3 (X2.out.alloc _).lt)
    have R3 := Lib.hid ((R2.out.alloc _).below hb3 (R2.out.alloc _).lt)
    have O3 := Lib.hid ((D2.new w2 (min a c) (max b d) 31).below hb3 (D2.new w2 (min a c) (max b d) 31).lt)
    have g1 : w.heap.size ≠ w2.heap.size := by have := X2.out.lt; omega
    have g2 : w.heap.size + 1 ≠ w2.heap.size := by have := R2.out.lt; omega
    have g3 : w.heap.size ≤ w2.heap.size := hbl2.size
    generalize w2.heap.size = g at *
    clear hb3 hbl2 X2 R2 x0 x1 xt
    first
      | (have X4 := Lib.hid (X3.out.far g1 (p := ⟨g, 1, none⟩) (.int .i64 1073741824))
         have R4 := Lib.hid (R3.out.far g2 (p := ⟨g, 1, none⟩) (.int .i64 1073741824))
         have O4 := Lib.hid (O3.out.set1 1073741824)
         have hbl4 := hbl3.setCell (p := ⟨g, 1, none⟩) g3 (.int .i64 1073741824)
         obtain ⟨xt, x0, x1, -, -⟩ := X3.out
         obtain ⟨ot, o0, o1, of0, of1⟩ := O3.out
         go_wp2_with fail
         (with_reducible refine (KR.out (w3.setCell ⟨g, 1, none⟩ (.int .i64 1073741824))).mono ?_)
         clear xt x0 x1 ot o0 o1 of0 of1)
      | (have X4 := X3
         have R4 := R3
         have O4 := O3
         have hbl4 := hbl3
         obtain ⟨xt, x0, x1, -, -⟩ := X3.out
         go_wp2_with fail
         (with_reducible refine (KR.out w3).mono ?_)
         clear xt x0 x1)
    rintro e w5 ⟨rfl, hb5⟩
    have hbl5 := hbl4.trans (hb5.mono hbl4.size)
    have R5 := Lib.hid (R4.out.below hb5 R4.out.lt)
    have O5 := Lib.hid (O4.out.below hb5 O4.out.lt)
    obtain ⟨rt, r0, r1, rf0, rf1⟩ := R5.out
    obtain ⟨ot, o0, o1, of0, of1⟩ := O5.out
    clear X3 R3 O3 hbl3 X4 R4 O4 hb5 hbl4
    go_wp2
    first
      | (refine bodyPost_ret (v := .agg #[.int .i64 (min a c), .int .i64 (max b d)]) (by simp [results, Tryz.results152, go_sem, *]) rfl ⟨rfl, ?_⟩; exact (hbl5.setCell (by simp) _).setCell (by simp) _)
      | (refine bodyPost_ret (v := .agg #[.int .i64 (min a c), .int .i64 1073741824]) (by simp [results, Tryz.results152, go_sem, *]) rfl ⟨rfl, ?_⟩; exact (hbl5.setCell (by simp) _).setCell (by simp) _)
      | (refine bodyPost_ret (v := .agg #[.int .i64 (-1073741824), .int .i64 (max b d)]) (by simp [results, Tryz.results152, go_sem, *]) rfl ⟨rfl, ?_⟩; exact ((hbl5.setCell g3 _).setCell (by simp) _).setCell (by simp) _)
      | (refine bodyPost_ret (v := .agg #[.int .i64 (-1073741824), .int .i64 1073741824]) (by simp [results, Tryz.results152, go_sem, *]) rfl ⟨rfl, ?_⟩; exact ((hbl5.setCell g3 _).setCell (by simp) _).setCell (by simp) _)
set_option maxHeartbeats 1000000 in
theorem SinR_any (lo hi : Int) (w : World) (h0 : -10000000000000 ≤ lo) (h1 : lo ≤ 10000000000000) :
    Calls Tryz.prog 95 #[.agg #[.int .i64 lo, .int .i64 hi]] w fun e w' => e = .returned (.agg #[.int .i64 (Trig.enLo lo hi), .int .i64 (Trig.enHi lo hi)]) ∧ Below w.heap.size w w' := by
  have K := Lib.hid (fun W => sineR_any lo hi W h0 h1)
  generalize Trig.enLo lo hi = u at *
  generalize Trig.enHi lo hi = v at *
  clear h0 h1
  go_enter Tryz.func95, Tryz.ntmps95
  go_wp2_with fail
  (with_reducible refine (K.out _).mono ?_)
  rintro e w1 ⟨rfl, hb1⟩
  have hbl1 := two_bl hb1
  have R1 : Hid (D2 w1 (w.heap.size + 1) 0 0) := Lib.hid (by
    have := (D2.new (w.alloc (.cells #[.int .i64 lo, .int .i64 hi] 46)) 0 0 31).below hb1 (by simp)
    simpa using this)
  obtain ⟨rt, r0, r1, rf0, rf1⟩ := R1.out
  clear hb1
  go_wp2
  refine bodyPost_ret (v := .agg #[.int .i64 u, .int .i64 v]) (by simp [results, Tryz.results95, go_sem, *]) rfl ⟨rfl, ?_⟩
  exact (hbl1.setCell (by simp) _).setCell (by simp) _
set_option maxHeartbeats 1000000 in
theorem CosR_any (lo hi : Int) (w : World) (h0 : -5000000000000 ≤ lo) (h1 : lo ≤ 5000000000000) (h2 : -5000000000000 ≤ hi) (h3 : hi ≤ 5000000000000) :
    Calls Tryz.prog 114 #[.agg #[.int .i64 lo, .int .i64 hi]] w fun e w' => e = .returned (.agg #[.int .i64 (Trig.enLo (lo + 5400000) (hi + 5400000)), .int .i64 (Trig.enHi (lo + 5400000) (hi + 5400000))]) ∧ Below w.heap.size w w' := by
  have K := Lib.hid (fun W => sineR_any (lo + 5400000) (hi + 5400000) W (by omega) (by omega))
  generalize Trig.enLo (lo + 5400000) (hi + 5400000) = u at *
  generalize Trig.enHi (lo + 5400000) (hi + 5400000) = v at *
  go_enter Tryz.func114, Tryz.ntmps114
  go_wp2_with fail
  (with_reducible refine (K.out _).mono ?_)
  rintro e w1 ⟨rfl, hb1⟩
  have hbl1 := two_bl hb1
  have R1 : Hid (D2 w1 (w.heap.size + 1) 0 0) := Lib.hid (by
    have := (D2.new (w.alloc (.cells #[.int .i64 lo, .int .i64 hi] 46)) 0 0 31).below hb1 (by simp)
    simpa using this)
  obtain ⟨rt, r0, r1, rf0, rf1⟩ := R1.out
  clear hb1
  go_wp2
  refine bodyPost_ret (v := .agg #[.int .i64 u, .int .i64 v]) (by simp [results, Tryz.results114, go_sem, *]) rfl ⟨rfl, ?_⟩
  exact (hbl1.setCell (by simp) _).setCell (by simp) _
end Go.Proofs.YtlhdneeiikemjaaGreat
