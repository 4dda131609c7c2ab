/- The reference's Cell joined; the walk of law47's awake. -/
import Derived.LoopN
import Derived.Test.YtleigbbgilcckaaGreatHZe
import Derived.Test.YtleigbbgilcckaaGreatHZk
set_option linter.unusedVariables false
set_option linter.unusedSimpArgs false
namespace Go.Proofs.YtleigbbgilcckaaGreat
open Go.RowKit
@[go_sem high] theorem run_min4 {P : Program} (w : World) (ts : Array TypeId) (t : TypeId) (x y z u : Int) :
    (Builtin.min_ ts t #[.int .i64 x, .int .i64 y, .int .i64 z, .int .i64 u]).run P w = .ok (.int .i64 (min x (min y (min z u)))) w := by
  simp [Builtin.min_, Builtin.min2, min_e, Int.min_assoc]
@[go_sem high] theorem run_max4 {P : Program} (w : World) (ts : Array TypeId) (t : TypeId) (x y z u : Int) :
    (Builtin.max_ ts t #[.int .i64 x, .int .i64 y, .int .i64 z, .int .i64 u]).run P w = .ok (.int .i64 (max x (max y (max z u)))) w := by
  simp [Builtin.max_, Builtin.max2, max_e, Int.max_assoc]
theorem ors : bits BinOp.or IntKind.i64 0 33554432 = 33554432 ∧ bits BinOp.or IntKind.i64 0 16777216 = 16777216 ∧ bits BinOp.or IntKind.i64 0 8388608 = 8388608 ∧ bits BinOp.or IntKind.i64 0 4194304 = 4194304 ∧ bits BinOp.or IntKind.i64 0 2097152 = 2097152 ∧ bits BinOp.or IntKind.i64 0 1048576 = 1048576 ∧
    bits BinOp.or IntKind.i64 0 524288 = 524288 ∧ bits BinOp.or IntKind.i64 0 262144 = 262144 ∧ bits BinOp.or IntKind.i64 0 131072 = 131072 ∧ bits BinOp.or IntKind.i64 0 65536 = 65536 ∧ bits BinOp.or IntKind.i64 0 32768 = 32768 ∧ bits BinOp.or IntKind.i64 0 16384 = 16384 ∧ bits BinOp.or IntKind.i64 0 8192 = 8192 ∧
    bits BinOp.or IntKind.i64 0 4096 = 4096 ∧ bits BinOp.or IntKind.i64 4096 2048 = 6144 ∧ bits BinOp.or IntKind.i64 4096 1024 = 5120 ∧ bits BinOp.or IntKind.i64 4096 512 = 4608 ∧ bits BinOp.or IntKind.i64 4608 256 = 4864 ∧ bits BinOp.or IntKind.i64 4864 128 = 4992 ∧ bits BinOp.or IntKind.i64 4992 64 = 5056 ∧
    bits BinOp.or IntKind.i64 4992 32 = 5024 ∧ bits BinOp.or IntKind.i64 4992 16 = 5008 ∧ bits BinOp.or IntKind.i64 4992 8 = 5000 ∧ bits BinOp.or IntKind.i64 5000 4 = 5004 ∧ bits BinOp.or IntKind.i64 5000 2 = 5002 ∧ bits BinOp.or IntKind.i64 5000 1 = 5001 := by decide
set_option maxHeartbeats 4000000 in
set_option maxRecDepth 100000 in
theorem length_ex (w : World) : Calls Tryz.prog 41 #[.int .i64 3000, .int .i64 4000] w fun e w' => e = .returned (.int .i64 5000) ∧ Below w.heap.size w w' := by
  obtain ⟨o1, o2, o3, o4, o5, o6, o7, o8, o9, o10, o11, o12, o13, o14, o15, o16, o17, o18, o19, o20, o21, o22, o23, o24, o25, o26⟩ := ors
  go_enter Tryz.func41, Tryz.ntmps41
  go_wp2
  refine wp_loop_rounds 27 ?_
  iterate 27 (rw [rounds_succ]; go_wp2)
  all_goals
    go_ret
    exact ⟨rfl, Below.refl _ _⟩
set_option maxHeartbeats 400000 in
theorem farthest_ex (n : Int) (w : World) (h0 : 0 ≤ n) (h1 : n ≤ 10800000) : Calls Tryz.prog 42 #[.agg #[.int .i64 n, .int .i64 n]] w fun e w' => e = .returned (.int .i64 n) ∧ Below w.heap.size w w' := by
  go_enter Tryz.func42, Tryz.ntmps42
  go_wp2
  go_ret
  refine ⟨ret_int (by omega), ?_⟩
  repeat (first | exact Below.refl _ _ | assumption | refine bl_drew ?_ | refine bl_drewN ?_ _ | refine Below.setCell ?_ (by first | assumption | omega | (simp; done) | (simp; omega)) _ | refine Below.alloc ?_ (by first | assumption | omega | (simp; done) | (simp; omega)) _)
set_option maxHeartbeats 400000 in
theorem cValid_ex (n : Int) (w : World) (h0 : 0 ≤ n) (h1 : n ≤ 10800000) : Calls Tryz.prog 40 #[.agg #[.int .i64 0, .int .i64 0, .int .i64 0, .int .i64 0, .int .i64 n, .int .i64 n]] w fun e w' => e = .returned (.bool true) ∧ Below w.heap.size w w' := by
  have KP := Lib.hid (fun W => placeValid_yes 0 0 0 0 W ⟨by omega, by omega, by omega, by omega, by omega, by omega, by omega⟩)
  have KV := Lib.hid (fun W => aValid_any n n W)
  have hv : avB n n = true := by rw [avB_true]; omega
  rw [hv] at KV
  have d1 : decide (0 ≤ n) = true := decide_eq_true h0
  have d2 : decide (n ≤ 10800000) = true := decide_eq_true h1
  clear hv
  go_enter Tryz.func40, Tryz.ntmps40
  go_wp2_with fail
  (with_reducible refine (KP.out _).mono ?_)
  rintro e w1 ⟨rfl, hb1⟩
  have b1 := one_bl hb1
  have x4 := (hb1.cell (p := ⟨w.heap.size, 4, none⟩) (by simp)).trans (show _ = some (.int .i64 n) by simp)
  have x5 := (hb1.cell (p := ⟨w.heap.size, 5, none⟩) (by simp)).trans (show _ = some (.int .i64 n) by simp)
  have hz := one_lt hb1
  clear hb1
  go_wp2_with fail
  (with_reducible refine (KV.out _).mono ?_)
  rintro e w2 ⟨rfl, hb2⟩
  have b2 := b1.trans (hb2.mono b1.size)
  have y4 := (hb2.cell (p := ⟨w.heap.size, 4, none⟩) hz).trans x4
  have y5 := (hb2.cell (p := ⟨w.heap.size, 5, none⟩) hz).trans x5
  clear hb2 x4 x5
  go_wp2
  all_goals
    go_ret
    exact ⟨ret_bool (by first | rfl | (simp_all; done)), b2⟩
/-- six cells that are known -/
structure D6 (W : World) (g : Nat) (a b c d x y : Int) : Prop where
  lt : g < W.heap.size
  c0 : W.cell? ⟨g, 0, none⟩ = some (.int .i64 a)
  c1 : W.cell? ⟨g, 1, none⟩ = some (.int .i64 b)
  c2 : W.cell? ⟨g, 2, none⟩ = some (.int .i64 c)
  c3 : W.cell? ⟨g, 3, none⟩ = some (.int .i64 d)
  c4 : W.cell? ⟨g, 4, none⟩ = some (.int .i64 x)
  c5 : W.cell? ⟨g, 5, none⟩ = some (.int .i64 y)
  f0 : W.frozen? ⟨g, 0, none⟩ = false
  f1 : W.frozen? ⟨g, 1, none⟩ = false
  f2 : W.frozen? ⟨g, 2, none⟩ = false
  f3 : W.frozen? ⟨g, 3, none⟩ = false
  f4 : W.frozen? ⟨g, 4, none⟩ = false
  f5 : W.frozen? ⟨g, 5, none⟩ = false
theorem D6.below {W W' : World} {g B : Nat} {a b c d x y : Int} (h : D6 W g a b c d x y) (hb : Below B W W') (hB : g < B) : D6 W' g a b c d x y :=
  ⟨Nat.lt_of_lt_of_le h.lt hb.size, (hb.cell (p := ⟨g, 0, none⟩) hB).trans h.c0, (hb.cell (p := ⟨g, 1, none⟩) hB).trans h.c1, (hb.cell (p := ⟨g, 2, none⟩) hB).trans h.c2, (hb.cell (p := ⟨g, 3, none⟩) hB).trans h.c3, (hb.cell (p := ⟨g, 4, none⟩) hB).trans h.c4, (hb.cell (p := ⟨g, 5, none⟩) hB).trans h.c5,
   (hb.frozen (p := ⟨g, 0, none⟩) hB).trans h.f0, (hb.frozen (p := ⟨g, 1, none⟩) hB).trans h.f1, (hb.frozen (p := ⟨g, 2, none⟩) hB).trans h.f2, (hb.frozen (p := ⟨g, 3, none⟩) hB).trans h.f3, (hb.frozen (p := ⟨g, 4, none⟩) hB).trans h.f4, (hb.frozen (p := ⟨g, 5, none⟩) hB).trans h.f5⟩
theorem D6.alloc {W : World} {g : Nat} {a b c d x y : Int} (h : D6 W g a b c d x y) (o : Obj) : D6 (W.alloc o) g a b c d x y := h.below (bl_alloc W o) h.lt
theorem D6.new (W : World) (a b c d x y : Int) (t : TypeId) : D6 (W.alloc (.cells #[.int .i64 a, .int .i64 b, .int .i64 c, .int .i64 d, .int .i64 x, .int .i64 y] t)) W.heap.size a b c d x y :=
  ⟨by simp, by simp, by simp, by simp, by simp, by simp, by simp, by simp, by simp, by simp, by simp, by simp, by simp⟩
set_option maxHeartbeats 4000000 in
set_option maxRecDepth 100000 in
theorem aCircle_ex (w : World) : Calls Tryz.prog 17 #[.agg #[.int .i64 0, .int .i64 0, .int .i64 0, .int .i64 0, .int .i64 3600000, .int .i64 3600000], .agg #[.int .i64 3000, .int .i64 3000], .agg #[.int .i64 4000, .int .i64 4000]] w fun e w' => e = .returned (.tuple #[.agg #[.int .i64 0, .int .i64 0, .int .i64 0, .int .i64 0, .int .i64 3595000, .int .i64 3605000], .int .i64 0]) ∧ Below w.heap.size w w' := by
  have KV := Lib.hid (fun W => cValid_ex 3600000 W (by omega) (by omega))
  have KM := Lib.hid (fun W => movement_any 3000 3000 4000 4000 W)
  have hm : (smB 3000 3000 && smB 4000 4000) = true := by decide
  rw [hm] at KM
  have KF := Lib.hid (fun W => farthest_ex 3000 W (by omega) (by omega))
  have KG := Lib.hid (fun W => farthest_ex 4000 W (by omega) (by omega))
  have KL := Lib.hid length_ex
  obtain ⟨W0, hW0⟩ : ∃ W0, W0 = (((w.alloc (.cells #[.int .i64 0, .int .i64 0, .int .i64 0, .int .i64 0, .int .i64 3600000, .int .i64 3600000] 53)).alloc (.cells #[.int .i64 3000, .int .i64 3000] 26)).alloc (.cells #[.int .i64 4000, .int .i64 4000] 26)).alloc (.cells #[.int .i64 0, .int .i64 0, .int .i64 0, .int .i64 0, .int .i64 0, .int .i64 0] 53) := ⟨_, rfl⟩
  have b0 : Below w.heap.size w W0 := by rw [hW0]; exact ((((Below.refl _ _).alloc (Nat.le_refl _) _).alloc (by simp) _).alloc (by simp; omega) _).alloc (by simp; omega) _
  have C0 : Hid (D6 W0 w.heap.size 0 0 0 0 3600000 3600000) := Lib.hid (by rw [hW0]; exact (((D6.new w _ _ _ _ _ _ _).alloc _).alloc _).alloc _)
  have A0 : Hid (D2 W0 (w.heap.size + 1) 3000 3000) := Lib.hid (by
    rw [hW0]
    have := ((D2.new (w.alloc (.cells #[.int .i64 0, .int .i64 0, .int .i64 0, .int .i64 0, .int .i64 3600000, .int .i64 3600000] 53)) 3000 3000 26).alloc (.cells #[.int .i64 4000, .int .i64 4000] 26)).alloc (.cells #[.int .i64 0, .int .i64 0, .int .i64 0, .int .i64 0, .int .i64 0, .int .i64 0] 53)
    simpa using this)
  have X0 : Hid (D2 W0 (w.heap.size + 2) 4000 4000) := Lib.hid (by
    rw [hW0]
    have := (D2.new ((w.alloc (.cells #[.int .i64 0, .int .i64 0, .int .i64 0, .int .i64 0, .int .i64 3600000, .int .i64 3600000] 53)).alloc (.cells #[.int .i64 3000, .int .i64 3000] 26)) 4000 4000 26).alloc (.cells #[.int .i64 0, .int .i64 0, .int .i64 0, .int .i64 0, .int .i64 0, .int .i64 0] 53)
    simpa using this)
  have R0 : Hid (D6 W0 (w.heap.size + 3) 0 0 0 0 0 0) := Lib.hid (by
    rw [hW0]
    have := D6.new (((w.alloc (.cells #[.int .i64 0, .int .i64 0, .int .i64 0, .int .i64 0, .int .i64 3600000, .int .i64 3600000] 53)).alloc (.cells #[.int .i64 3000, .int .i64 3000] 26)).alloc (.cells #[.int .i64 4000, .int .i64 4000] 26)) 0 0 0 0 0 0 53
    simpa using this)
  clear hm
  have m1 : max (0 : Int) 3595000 = 3595000 := by decide
  have m2 : min (10800000 : Int) 3605000 = 3605000 := by decide
  go_enter Tryz.func17, Tryz.ntmps17
  go_wp2_with fail
  rw [← hW0]
  clear hW0
  (with_reducible refine (KV.out _).mono ?_)
  rintro e w1 ⟨rfl, hb1⟩
  have b1 := b0.trans (hb1.mono b0.size)
  have C1 := Lib.hid (C0.out.below hb1 C0.out.lt)
  have A1 := Lib.hid (A0.out.below hb1 A0.out.lt)
  have X1 := Lib.hid (X0.out.below hb1 X0.out.lt)
  have R1 := Lib.hid (R0.out.below hb1 R0.out.lt)
  clear b0 C0 A0 X0 R0 hb1
  obtain ⟨at1, a0, a1, af0, af1⟩ := A1.out
  obtain ⟨xt1, x0, x1, xf0, xf1⟩ := X1.out
  go_wp2_with fail
  (with_reducible refine (KM.out _).mono ?_)
  rintro e w2 ⟨rfl, hb2⟩
  have b2 := b1.trans (hb2.mono b1.size)
  have C2 := Lib.hid (C1.out.below hb2 C1.out.lt)
  have A2 := Lib.hid (A1.out.below hb2 A1.out.lt)
  have X2 := Lib.hid (X1.out.below hb2 X1.out.lt)
  have R2 := Lib.hid (R1.out.below hb2 R1.out.lt)
  clear b1 C1 A1 X1 R1 hb2 at1 a0 a1 af0 af1 xt1 x0 x1 xf0 xf1
  go_upto_region 3 with fail
  have c0 : ∀ s : BV w2, s.w.cell? ⟨w.heap.size + 1, 0, none⟩ = some (.int .i64 3000) := fun s => (A2.out.below s.hb A2.out.lt).c0
  have c1 : ∀ s : BV w2, s.w.cell? ⟨w.heap.size + 1, 1, none⟩ = some (.int .i64 3000) := fun s => (A2.out.below s.hb A2.out.lt).c1
  have c2 : ∀ s : BV w2, s.w.cell? ⟨w.heap.size + 2, 0, none⟩ = some (.int .i64 4000) := fun s => (X2.out.below s.hb X2.out.lt).c0
  have c3 : ∀ s : BV w2, s.w.cell? ⟨w.heap.size + 2, 1, none⟩ = some (.int .i64 4000) := fun s => (X2.out.below s.hb X2.out.lt).c1
  refine wp_region_bv w2 (by kernel_rfl) (by kernel_rfl) (Below.refl _ _) ?_
  (repeat (go_big_quiet_step (first | (go_at_call 42; with_reducible exact quiet_bv (KF.out _)) | (go_at_call 42; with_reducible exact quiet_bv (KG.out _)) | (go_at_call 41; with_reducible exact quiet_bv (KL.out _)) | fail)))
  refine wpQuiet_nil ?_
  intro w9 hb9
  have b9 := b2.trans (hb9.mono b2.size)
  have C9 := Lib.hid (C2.out.below hb9 C2.out.lt)
  have R9 := Lib.hid (R2.out.below hb9 R2.out.lt)
  clear c0 c1 c2 c3 b2 C2 A2 X2 R2 hb9
  obtain ⟨ct, c0, c1, c2, c3, c4, c5, cf0, cf1, cf2, cf3, cf4, cf5⟩ := C9.out
  obtain ⟨rt, r0, r1, r2, r3, r4, r5, rf0, rf1, rf2, rf3, rf4, rf5⟩ := R9.out
  go_wp2
  refine bodyPost_ret (v := .tuple #[.agg #[.int .i64 0, .int .i64 0, .int .i64 0, .int .i64 0, .int .i64 3595000, .int .i64 3605000], .int .i64 0]) (by simp [results, Tryz.results17, go_sem, *]; done) rfl ⟨rfl, ?_⟩
  have hz := b9.size
  repeat (refine Below.setCell ?_ (by first | omega | (simp only []; omega)) _)
  exact b9
end Go.Proofs.YtleigbbgilcckaaGreat
namespace Go.Proofs.YtleigbbgilcckaaGreat
open Go.RowKit
theorem rcell_any (l r c a b x y : Int) (w : World) (hv : vldB l r c = true) (ha : smB a b = true) (hx : smB x y = true) :
    Calls Tryz.prog 20 #[.agg #[.int .i64 l, .int .i64 r, .int .i64 c], .agg #[.int .i64 a, .int .i64 b], .agg #[.int .i64 x, .int .i64 y]] w fun e w' => e = .returned (mvV (edg r l - 5400000) (edg (r + 1) l - 5400000) (edg c l - 10800000) (edg (c + 1) l - 10800000) a b x y) ∧ Below w.heap.size w w' := by
  have KB := fun W => refBox_any l r c W hv
  unfold boxV at KB
  have hn := box_nums ((vl_iff (l, r, c)).1 hv)
  simp only [] at hn
  generalize hb00 : edg r l - 5400000 = b0 at *
  generalize hb1 : edg (r + 1) l - 5400000 = b1 at *
  generalize hb2 : edg c l - 10800000 = b2 at *
  generalize hb3 : edg (c + 1) l - 10800000 = b3 at *
  have ha' := sm_iff.1 ha
  have hx' := sm_iff.1 hx
  have hb0 : -5400000 ≤ b0 ∧ b0 ≤ b1 ∧ b1 ≤ 5400000 ∧ -10800000 ≤ b2 ∧ b2 ≤ b3 ∧ b3 ≤ 10800000 := by omega
  clear hn hb00 hb1 hb2 hb3
  unfold mvV
  cases hm : mvL b0 b1 a b with
  | false =>
    rw [if_neg (by simp)]
    exact rcell_out l r c a b x y b0 b1 b2 b3 w KB hb0.1 hb0.2.1 hb0.2.2.1 ha'.1 ha'.2.1 ha'.2.2 hm
  | true =>
    rw [if_pos rfl]
    have hm' := hm
    unfold mvL at hm'
    rw [decide_eq_true_iff] at hm'
    have KD := fun W => rDlon_any (min b0 (b0 + a)) (max b1 (b1 + b)) x y W (by omega) (by omega) (by omega) hx
    unfold dnV at KD
    unfold mvP
    generalize Trig.enLo (min b0 (b0 + a) + 5400000) (max b1 (b1 + b) + 5400000) = p at *
    generalize Trig.enHi (min b0 (b0 + a) + 5400000) (max b1 (b1 + b) + 5400000) = q at *
    by_cases hp : p ≤ 0
    · rw [if_pos hp]
      refine rcell_err l r c a b x y b0 b1 b2 b3 0 0 21 w KB hb0.1 hb0.2.1 hb0.2.2.1 ha'.1 ha'.2.1 ha'.2.2 hm (fun W => ?_) (.inl rfl)
      have := KD W
      rw [if_pos hp] at this
      exact this
    · rw [if_neg hp]
      unfold dlV at KD
      cases hg : dlG x y p q with
      | false =>
        rw [if_neg (by simp)]
        refine rcell_err l r c a b x y b0 b1 b2 b3 0 0 5 w KB hb0.1 hb0.2.1 hb0.2.2.1 ha'.1 ha'.2.1 ha'.2.2 hm (fun W => ?_) (.inr rfl)
        have := KD W
        rw [if_neg hp, if_neg (by rw [hg]; simp)] at this
        exact this
      | true =>
        rw [if_pos rfl]
        have hd := dl_bd hg
        refine rcell_yes l r c a b x y b0 b1 b2 b3 (dlA x y p q) (dlB x y p q) w KB hb0.1 hb0.2.1 hb0.2.2.1 ha'.1 ha'.2.1 ha'.2.2 hb0.2.2.2.1 hb0.2.2.2.2.1 hb0.2.2.2.2.2 hm (fun W => ?_) hd.1 hd.2.1 hd.2.2.1 hd.2.2.2
        have := KD W
        rw [if_neg hp, if_pos hg] at this
        exact this
theorem mv_ex : mvV (edg 128 8 - 5400000) (edg (128 + 1) 8 - 5400000) (edg 256 8 - 10800000) (edg (256 + 1) 8 - 10800000) 60000 60000 0 0 = .tuple #[.agg #[.int .i64 60000, .int .i64 102187, .int .i64 0, .int .i64 42187], .int .i64 0] := by
  have e0 : edg 128 8 - 5400000 = 0 := by decide +kernel
  have e1 : edg (128 + 1) 8 - 5400000 = 42187 := by decide +kernel
  have e2 : edg 256 8 - 10800000 = 0 := by decide +kernel
  have e3 : edg (256 + 1) 8 - 10800000 = 42187 := by decide +kernel
  rw [e0, e1, e2, e3]
  have h1 : mvL 0 42187 60000 60000 = true := by decide
  have h2 : ¬ Trig.enLo (min 0 (0 + 60000) + 5400000) (max 42187 (42187 + 60000) + 5400000) ≤ 0 := by decide +kernel
  have h3 : dlG 0 0 (Trig.enLo (min 0 (0 + 60000) + 5400000) (max 42187 (42187 + 60000) + 5400000)) (Trig.enHi (min 0 (0 + 60000) + 5400000) (max 42187 (42187 + 60000) + 5400000)) = true := by decide +kernel
  have h4 : dlA 0 0 (Trig.enLo (min 0 (0 + 60000) + 5400000) (max 42187 (42187 + 60000) + 5400000)) (Trig.enHi (min 0 (0 + 60000) + 5400000) (max 42187 (42187 + 60000) + 5400000)) = 0 := by decide +kernel
  have h5 : dlB 0 0 (Trig.enLo (min 0 (0 + 60000) + 5400000) (max 42187 (42187 + 60000) + 5400000)) (Trig.enHi (min 0 (0 + 60000) + 5400000) (max 42187 (42187 + 60000) + 5400000)) = 0 := by decide +kernel
  have h6 : lonA (0 + 0) (42187 + 0) = 0 := by decide +kernel
  have h7 : lonB (0 + 0) (42187 + 0) = 42187 := by decide +kernel
  unfold mvV
  rw [if_pos h1]
  unfold mvP
  rw [if_neg h2, if_pos h3, h4, h5, h6, h7]
  rfl
theorem aCell_ex (w : World) : Calls Tryz.prog 16 #[.agg #[.int .i64 8, .int .i64 128, .int .i64 256], .agg #[.int .i64 60000, .int .i64 60000], .agg #[.int .i64 0, .int .i64 0]] w fun e w' => e = .returned (.tuple #[.agg #[.int .i64 60000, .int .i64 102187, .int .i64 0, .int .i64 42187], .int .i64 0]) ∧ Below w.heap.size w w' :=
  aCell_yes 8 128 256 60000 60000 0 0 60000 102187 0 42187 0 w (by decide +kernel) (by decide) (by decide) mv_ex
theorem BoxEx (w : World) : Calls Tryz.prog 15 #[.agg #[.int .i64 8, .int .i64 128, .int .i64 256]] w fun e w' => e = .returned (.tuple #[.agg #[.int .i64 0, .int .i64 42187, .int .i64 0, .int .i64 42187], .int .i64 0]) ∧ Below w.heap.size w w' := by
  have h := Box_yes 8 128 256 w (by decide +kernel)
  have e0 : edg 128 8 - 5400000 = 0 := by decide +kernel
  have e1 : edg (128 + 1) 8 - 5400000 = 42187 := by decide +kernel
  have e2 : edg 256 8 - 10800000 = 0 := by decide +kernel
  have e3 : edg (256 + 1) 8 - 10800000 = 42187 := by decide +kernel
  unfold boxV at h
  rw [e0, e1, e2, e3] at h
  exact h
set_option maxHeartbeats 400000 in
theorem point_any (n : Int) (w : World) : Calls Tryz.prog 12 #[.int .i64 n] w fun e w' => e = .returned (.agg #[.int .i64 n, .int .i64 n]) ∧ Below w.heap.size w w' := by
  go_enter Tryz.func12, Tryz.ntmps12
  go_wp2
  refine bodyPost_ret (v := .agg #[.int .i64 n, .int .i64 n]) (by simp [results, Tryz.results12, go_sem, *]; done) rfl ⟨rfl, ?_⟩
  repeat (first | exact Below.refl _ _ | assumption | refine bl_drew ?_ | refine bl_drewN ?_ _ | refine Below.setCell ?_ (by first | assumption | omega | (simp; done) | (simp; omega)) _ | refine Below.alloc ?_ (by first | assumption | omega | (simp; done) | (simp; omega)) _)
end Go.Proofs.YtleigbbgilcckaaGreat
