/- The walk of slices.Compact at int. -/
import Derived.Lib.SliceRun
import Derived.BigQuiet
import Derived.Test.YtpemohoibeipfaaGreatHNm
import Derived.Test.YtpemohoibeipfaaGreatHJc
set_option linter.unusedVariables false
set_option linter.unusedSimpArgs false
namespace Go.Proofs.YtpemohoibeipfaaGreat
open Go.RowKit
set_option maxHeartbeats 2000000 in
set_option maxRecDepth 100000 in
theorem AgreesP_yes (k : Ci) (x : Cl) (w : World) (hk : VCi k) (hx : Vl x) : Calls Tryz.prog 29 #[.agg #[.int .i64 x.1, .int .i64 x.2.1, .int .i64 x.2.2], civ k] w fun e w' => e = .returned (.tuple #[.bool (agC k x), .int .i64 0]) ∧ Below w.heap.size w w' := by
  have hv := (vl_iff x).2 hx
  have KV := fun W => valid_any x.1 x.2.1 x.2.2 W
  rw [hv] at KV
  have KC := fun W => cirValid_yes k.1.1 k.1.2.1 k.1.2.2.1 k.1.2.2.2 k.2.1 k.2.2 W hk.vc
  have KA := fun W => agrees_any k x W hk hx
  generalize agC k x = b at KA ⊢
  unfold civ at KA ⊢
  obtain ⟨⟨a0, a1, o0, o1⟩, r0, r1⟩ := k
  obtain ⟨l, r, c⟩ := x
  simp only [] at KV KC KA ⊢
  have KV := Lib.hid KV
  have KC := Lib.hid KC
  have KA := Lib.hid KA
  have XX := Lib.hid ((Blk.new w 58 #[.int .i64 l, .int .i64 r, .int .i64 c]).alloc (.cells #[.int .i64 a0, .int .i64 a1, .int .i64 o0, .int .i64 o1, .int .i64 r0, .int .i64 r1] 36))
  have cc := Blk.new (w.alloc (.cells #[.int .i64 l, .int .i64 r, .int .i64 c] 58)) 36 #[.int .i64 a0, .int .i64 a1, .int .i64 o0, .int .i64 o1, .int .i64 r0, .int .i64 r1]
  rw [World.size_alloc] at cc
  have CC := Lib.hid cc
  have B0 := Lib.hid ((bl_alloc w (.cells #[.int .i64 l, .int .i64 r, .int .i64 c] 58)).alloc (by simp) (.cells #[.int .i64 a0, .int .i64 a1, .int .i64 o0, .int .i64 o1, .int .i64 r0, .int .i64 r1] 36))
  clear cc hv hk hx
  go_enter Tryz.func29, Tryz.ntmps29
  go_upto_region 1 with (fail)
  generalize (w.alloc (.cells #[.int .i64 l, .int .i64 r, .int .i64 c] 58)).alloc (.cells #[.int .i64 a0, .int .i64 a1, .int .i64 o0, .int .i64 o1, .int .i64 r0, .int .i64 r1] 36) = w1 at XX CC B0 ⊢
  have x0 : w1.cell? ⟨w.heap.size, 0, none⟩ = some (.int .i64 l) := XX.out.cell 0
  have x1 : w1.cell? ⟨w.heap.size, 1, none⟩ = some (.int .i64 r) := XX.out.cell 1
  have x2 : w1.cell? ⟨w.heap.size, 2, none⟩ = some (.int .i64 c) := XX.out.cell 2
  go_wp2_with fail
  (with_reducible refine (KV.out _).mono ?_)
  rintro e w2 ⟨rfl, hb2⟩
  have X2 := Lib.hid (XX.out.below hb2 XX.out.lt)
  have C2 := Lib.hid (CC.out.below hb2 CC.out.lt)
  have B2 := Lib.hid (B0.out.trans (hb2.mono B0.out.size))
  have k0 : w2.cell? ⟨w.heap.size + 1, 0, none⟩ = some (.int .i64 a0) := C2.out.cell 0
  have k1 : w2.cell? ⟨w.heap.size + 1, 1, none⟩ = some (.int .i64 a1) := C2.out.cell 1
  have k2 : w2.cell? ⟨w.heap.size + 1, 2, none⟩ = some (.int .i64 o0) := C2.out.cell 2
  have k3 : w2.cell? ⟨w.heap.size + 1, 3, none⟩ = some (.int .i64 o1) := C2.out.cell 3
  have k4 : w2.cell? ⟨w.heap.size + 1, 4, none⟩ = some (.int .i64 r0) := C2.out.cell 4
  have k5 : w2.cell? ⟨w.heap.size + 1, 5, none⟩ = some (.int .i64 r1) := C2.out.cell 5
  clear hb2 x0 x1 x2 XX CC B0 KV
  go_wp2_with fail
  (with_reducible refine (KC.out _).mono ?_)
  rintro e w3 ⟨rfl, hb3⟩
  have X3 := Lib.hid (X2.out.below hb3 X2.out.lt)
  have C3 := Lib.hid (C2.out.below hb3 C2.out.lt)
  have B3 := Lib.hid (B2.out.trans (hb3.mono B2.out.size))
  clear k0 k1 k2 k3 k4 k5 hb3 X2 C2 B2 KC
  have x0 : w3.cell? ⟨w.heap.size, 0, none⟩ = some (.int .i64 l) := X3.out.cell 0
  have x1 : w3.cell? ⟨w.heap.size, 1, none⟩ = some (.int .i64 r) := X3.out.cell 1
  have x2 : w3.cell? ⟨w.heap.size, 2, none⟩ = some (.int .i64 c) := X3.out.cell 2
  have k0 : w3.cell? ⟨w.heap.size + 1, 0, none⟩ = some (.int .i64 a0) := C3.out.cell 0
  have k1 : w3.cell? ⟨w.heap.size + 1, 1, none⟩ = some (.int .i64 a1) := C3.out.cell 1
  have k2 : w3.cell? ⟨w.heap.size + 1, 2, none⟩ = some (.int .i64 o0) := C3.out.cell 2
  have k3 : w3.cell? ⟨w.heap.size + 1, 3, none⟩ = some (.int .i64 o1) := C3.out.cell 3
  have k4 : w3.cell? ⟨w.heap.size + 1, 4, none⟩ = some (.int .i64 r0) := C3.out.cell 4
  have k5 : w3.cell? ⟨w.heap.size + 1, 5, none⟩ = some (.int .i64 r1) := C3.out.cell 5
  go_wp2_with fail
  (with_reducible refine (KA.out _).mono ?_)
  rintro e w4 ⟨rfl, hb4⟩
  have B4 := Lib.hid (B3.out.trans (hb4.mono B3.out.size))
  clear hb4
  go_wp2
  go_ret2
  exact ⟨rfl, B4.out⟩
/-! ### the numbers of the examples -/
def k39 : Ci := ((0, 0, 0, 0), 3600000, 3600000)
def s39 : List Cl := [(0, 0, 0), (0, 0, 1)]
def t39 : List Cl := [(1, 0, 1), (1, 1, 1), (1, 0, 2), (1, 1, 2)]
theorem k39_v : VCi k39 := (vciB_iff k39).1 (by decide +kernel)
theorem s39_av : AllV s39 := fun x hx => by
  simp only [s39, List.mem_cons, List.not_mem_nil, or_false] at hx
  rcases hx with rfl | rfl <;> (rw [← vl_iff]; decide +kernel)
theorem t39_av : AllV t39 := fun x hx => by
  simp only [t39, List.mem_cons, List.not_mem_nil, or_false] at hx
  rcases hx with rfl | rfl | rfl | rfl <;> (rw [← vl_iff]; decide +kernel)
theorem s39_blk : s39.map blkOf = [(16, 0), (16, 1)] := by decide +kernel
theorem t39_blk : t39.map blkOf = [(15, 1), (15, 3), (15, 4), (15, 6)] := by decide +kernel
theorem s39_vr : vrB s39 = true := by
  rw [vrB_iff]
  refine ⟨by decide, s39_av, (td_iff s39_av).1 ⟨s39_av, ?_, ?_⟩⟩
  · rw [s39_blk]; simp [Canon.before2]
  · rw [s39_blk]
    intro h n pre suf e
    have := congrArg List.length e
    simp [Canon.kidsB] at this
    omega
theorem t39_vr : vrB t39 = true := by
  rw [vrB_iff]
  refine ⟨by decide, t39_av, (td_iff t39_av).1 ⟨t39_av, ?_, ?_⟩⟩
  · rw [t39_blk]; simp [Canon.before2]
  · rw [t39_blk]
    intro h n pre suf e
    have hl := congrArg List.length e
    simp [Canon.kidsB] at hl
    have hp : pre = [] := List.eq_nil_of_length_eq_zero (by omega)
    subst hp
    simp [Canon.kidsB] at e
    omega
theorem p39_0 : prA (agP [k39]) (suP [k39]) 0 s39 = s39 ∧ prN (agP [k39]) (suP [k39]) 0 s39 = 2 := by decide +kernel
theorem p39_1 : prA (agP [k39]) (suP [k39]) 1 s39 = t39 ∧ prN (agP [k39]) (suP [k39]) 1 s39 = 10 := by decide +kernel
theorem a39_x : agC k39 (3, 3, 7) = false := by decide +kernel
theorem c39_0 : canonC (covL (prA (agP [k39]) (suP [k39]) 0 s39)) = s39 := by rw [p39_0.1]; exact (vr_td s39_vr).2
theorem c39_1 : canonC (covL (prA (agP [k39]) (suP [k39]) 1 s39)) = t39 := by rw [p39_1.1]; exact (vr_td t39_vr).2
theorem k39s_v : ∀ k ∈ [k39], VCi k := fun k hk => by simp at hk; subst hk; exact k39_v
theorem civs_new (w : World) (t : TypeId) : Reads (w.alloc (.cells #[.int .i64 0, .int .i64 0, .int .i64 0, .int .i64 0, .int .i64 3600000, .int .i64 3600000] t)) (w.heap.size + 1) 6 (some ⟨w.heap.size, 0, none⟩) 1 (civs [k39]) := by
  refine ⟨rfl, fun _ => ⟨_, rfl, by simp, fun j u hu => ?_⟩⟩
  match j, hu with
  | 0, hu => simp [civs, civl, k39] at hu; subst hu; simp [Addr.add]
  | 1, hu => simp [civs, civl, k39] at hu; subst hu; simp [Addr.add]
  | 2, hu => simp [civs, civl, k39] at hu; subst hu; simp [Addr.add]
  | 3, hu => simp [civs, civl, k39] at hu; subst hu; simp [Addr.add]
  | 4, hu => simp [civs, civl, k39] at hu; subst hu; simp [Addr.add]
  | 5, hu => simp [civs, civl, k39] at hu; subst hu; simp [Addr.add]
  | j + 6, hu => simp [civs, civl] at hu
set_option maxHeartbeats 4000000 in
set_option maxRecDepth 100000 in
theorem awake39 (w : World) : Calls Tryz.prog 7 #[] w fun e w' => e = .returned (.bool true) ∧ Below w.heap.size w w' := by
  have KA := fun W => AgreesP_yes k39 (3, 3, 7) W k39_v (by rw [← vl_iff]; decide +kernel)
  rw [a39_x] at KA
  have KA := Lib.hid KA
  have CB := Lib.hid ((Blk.new w 36 #[.int .i64 0, .int .i64 0, .int .i64 0, .int .i64 0, .int .i64 3600000, .int .i64 3600000]).alloc (.cells #[.int .i64 0, .int .i64 0, .int .i64 0, .int .i64 0, .int .i64 0, .int .i64 1] 58))
  have hs := (own_new (w.alloc (.cells #[.int .i64 0, .int .i64 0, .int .i64 0, .int .i64 0, .int .i64 3600000, .int .i64 3600000] 36)) w.heap.size 58 3 2 _ #[.int .i64 0, .int .i64 0, .int .i64 0, .int .i64 0, .int .i64 0, .int .i64 1] rfl (by simp) rfl (by decide))
  have b0 := (bl_alloc w (.cells #[.int .i64 0, .int .i64 0, .int .i64 0, .int .i64 0, .int .i64 3600000, .int .i64 3600000] 36)).alloc (by simp) (.cells #[.int .i64 0, .int .i64 0, .int .i64 0, .int .i64 0, .int .i64 0, .int .i64 1] 58)
  have RS := Reads.of_own hs
  simp only [World.size_alloc] at RS
  have hsz : ((w.alloc (.cells #[.int .i64 0, .int .i64 0, .int .i64 0, .int .i64 0, .int .i64 3600000, .int .i64 3600000] 36)).alloc (.cells #[.int .i64 0, .int .i64 0, .int .i64 0, .int .i64 0, .int .i64 0, .int .i64 1] 58)).heap.size = w.heap.size + 2 := by simp
  go_enter Tryz.func7, Tryz.ntmps7
  go_upto_region 3 with (fail)
  generalize (w.alloc (.cells #[.int .i64 0, .int .i64 0, .int .i64 0, .int .i64 0, .int .i64 3600000, .int .i64 3600000] 36)).alloc (.cells #[.int .i64 0, .int .i64 0, .int .i64 0, .int .i64 0, .int .i64 0, .int .i64 1] 58) = w2 at CB RS b0 hsz ⊢
  have B0 := Lib.hid b0
  have RS := Lib.hid RS
  have hz2 := b0.size
  have hw2 : w.heap.size + 2 ≤ w2.heap.size := by omega
  clear b0 hs hsz
  have bc := bl_alloc w2 (.cells #[.int .i64 0, .int .i64 0, .int .i64 0, .int .i64 0, .int .i64 3600000, .int .i64 3600000] 36)
  have KO0 := Of39_yes [k39] (some ⟨w2.heap.size, 0, none⟩) 1 1 s39 (some ⟨w.heap.size + 1, 0, none⟩) 2 2 0 (w2.alloc (.cells #[.int .i64 0, .int .i64 0, .int .i64 0, .int .i64 0, .int .i64 3600000, .int .i64 3600000] 36)) k39s_v (by omega) (by simpa using civs_new w2 36) ((RS.out.alloc (by omega) _).more (by simp; omega)) s39_vr (by decide) (by decide) (by rw [p39_0.2]; decide)
  rw [c39_0] at KO0
  have KO0 := Lib.hid KO0
  have BC := Lib.hid bc
  have x0 : w2.cell? ⟨w.heap.size, 0, none⟩ = some (.int .i64 0) := CB.out.cell 0
  have x1 : w2.cell? ⟨w.heap.size, 1, none⟩ = some (.int .i64 0) := CB.out.cell 1
  have x2 : w2.cell? ⟨w.heap.size, 2, none⟩ = some (.int .i64 0) := CB.out.cell 2
  have x3 : w2.cell? ⟨w.heap.size, 3, none⟩ = some (.int .i64 0) := CB.out.cell 3
  have x4 : w2.cell? ⟨w.heap.size, 4, none⟩ = some (.int .i64 3600000) := CB.out.cell 4
  have x5 : w2.cell? ⟨w.heap.size, 5, none⟩ = some (.int .i64 3600000) := CB.out.cell 5
  clear bc
  go_wp2_with fail
  (with_reducible refine (KO0.out).mono ?_)
  rintro e w3 ⟨v3, rfl, ho3, hb3⟩
  have b3 := BC.out.trans (hb3.mono BC.out.size)
  have B3 := Lib.hid (B0.out.trans (b3.mono hz2))
  have CB3 := Lib.hid (CB.out.below b3 (by omega))
  have RS3 := Lib.hid (RS.out.below (b3.mono hw2))
  have hs3 : w2.heap.size ≤ w3.heap.size := b3.size
  obtain ⟨Aa, ca, rfl, hra, -, -⟩ := own_form ho3
  have RA := Lib.hid hra
  clear x0 x1 x2 x3 x4 x5 ho3 hra hb3 b3 BC KO0 CB RS
  have bc := bl_alloc w3 (.cells #[.int .i64 0, .int .i64 0, .int .i64 0, .int .i64 0, .int .i64 3600000, .int .i64 3600000] 36)
  have KO1 := Of39_yes [k39] (some ⟨w3.heap.size, 0, none⟩) 1 1 s39 (some ⟨w.heap.size + 1, 0, none⟩) 2 2 1 (w3.alloc (.cells #[.int .i64 0, .int .i64 0, .int .i64 0, .int .i64 0, .int .i64 3600000, .int .i64 3600000] 36)) k39s_v (by omega) (by simpa using civs_new w3 36) ((RS3.out.alloc (by omega) _).more (by simp; omega)) s39_vr (by decide) (by decide) (by rw [p39_1.2]; decide)
  rw [c39_1] at KO1
  have KO1 := Lib.hid KO1
  have BC := Lib.hid bc
  have x0 : w3.cell? ⟨w.heap.size, 0, none⟩ = some (.int .i64 0) := CB3.out.cell 0
  have x1 : w3.cell? ⟨w.heap.size, 1, none⟩ = some (.int .i64 0) := CB3.out.cell 1
  have x2 : w3.cell? ⟨w.heap.size, 2, none⟩ = some (.int .i64 0) := CB3.out.cell 2
  have x3 : w3.cell? ⟨w.heap.size, 3, none⟩ = some (.int .i64 0) := CB3.out.cell 3
  have x4 : w3.cell? ⟨w.heap.size, 4, none⟩ = some (.int .i64 3600000) := CB3.out.cell 4
  have x5 : w3.cell? ⟨w.heap.size, 5, none⟩ = some (.int .i64 3600000) := CB3.out.cell 5
  clear bc
  go_wp2_with fail
  (with_reducible refine (KO1.out).mono ?_)
  rintro e w4 ⟨v4, rfl, ho4, hb4⟩
  have b4 := BC.out.trans (hb4.mono BC.out.size)
  have B4 := Lib.hid (B3.out.trans (b4.mono (by omega)))
  have CB4 := Lib.hid (CB3.out.below b4 (by omega))
  have RS4 := Lib.hid (RS3.out.below (b4.mono (by omega)))
  have RA4 := Lib.hid (RA.out.below b4)
  have hs4 : w3.heap.size ≤ w4.heap.size := b4.size
  obtain ⟨Ab, cb, rfl, hrb, -, -⟩ := own_form ho4
  have RB := Lib.hid hrb
  clear x0 x1 x2 x3 x4 x5 ho4 hrb hb4 b4 BC KO1 CB3 RS3 RA B0 B3
  have x0 : w4.cell? ⟨w.heap.size, 0, none⟩ = some (.int .i64 0) := CB4.out.cell 0
  have x1 : w4.cell? ⟨w.heap.size, 1, none⟩ = some (.int .i64 0) := CB4.out.cell 1
  have x2 : w4.cell? ⟨w.heap.size, 2, none⟩ = some (.int .i64 0) := CB4.out.cell 2
  have x3 : w4.cell? ⟨w.heap.size, 3, none⟩ = some (.int .i64 0) := CB4.out.cell 3
  have x4 : w4.cell? ⟨w.heap.size, 4, none⟩ = some (.int .i64 3600000) := CB4.out.cell 4
  have x5 : w4.cell? ⟨w.heap.size, 5, none⟩ = some (.int .i64 3600000) := CB4.out.cell 5
  unfold civ k39 at KA
  go_wp2_with fail
  (with_reducible refine (KA.out _).mono ?_)
  rintro e w5 ⟨rfl, hb5⟩
  have B5 := Lib.hid (B4.out.trans (hb5.mono B4.out.size))
  have RS5 := Lib.hid (RS4.out.below (hb5.mono (by omega)))
  have RA5 := Lib.hid (RA4.out.below (hb5.mono hs4))
  have RB5 := Lib.hid (RB.out.below hb5)
  have hs5 := hb5.size
  clear x0 x1 x2 x3 x4 x5 hb5 B4 CB4 RS4 RA4 RB KA
  have KE := Equal_any Aa (some ⟨w.heap.size + 1, 0, none⟩) s39.length 2 ca 2 s39 s39 w5 _ _ RA5.out RS5.out (by decide) (by decide)
  rw [decide_eq_true (rfl : s39 = s39)] at KE
  have KE := Lib.hid KE
  go_wp2_with fail
  (with_reducible refine (KE.out).mono ?_)
  rintro e w6 ⟨rfl, q6, rfl⟩
  have ht := own_new (w5.drewN q6) w.heap.size 58 3 4 _ #[.int .i64 1, .int .i64 0, .int .i64 1, .int .i64 1, .int .i64 1, .int .i64 1, .int .i64 1, .int .i64 0, .int .i64 2, .int .i64 1, .int .i64 1, .int .i64 2] rfl B5.out.size rfl (by decide)
  have RT := Reads.of_own ht
  have KF := Equal_any Ab (some ⟨w5.heap.size, 0, none⟩) t39.length 4 cb 4 t39 t39 _ _ _ ((RB5.out.drewN q6).alloc (by exact hs5) _) RT (by decide) (by decide)
  rw [decide_eq_true (rfl : t39 = t39)] at KF
  have KF := Lib.hid KF
  have B6 := Lib.hid ((bl_drewN B5.out q6).alloc B5.out.size (.cells #[.int .i64 1, .int .i64 0, .int .i64 1, .int .i64 1, .int .i64 1, .int .i64 1, .int .i64 1, .int .i64 0, .int .i64 2, .int .i64 1, .int .i64 1, .int .i64 2] 58))
  clear ht RT KE
  go_wp2_with fail
  (with_reducible refine (KF.out).mono ?_)
  rintro e w7 ⟨rfl, q7, rfl⟩
  have B7 := Lib.hid (bl_drewN B6.out q7)
  go_wp2
  go_ret
  exact ⟨rfl, B7.out⟩
end Go.Proofs.YtpemohoibeipfaaGreat
namespace Go.Proofs.YtpemohoibeipfaaGreat
open Go.RowKit Go.Sort Go.Shelf
def ivs (X : List Int) : List Value := X.map (Value.int .i64)
theorem ivs_length (X : List Int) : (ivs X).length = X.length := by simp [ivs]
theorem ivs_at (X : List Int) (k : Nat) (hk : k < X.length) : (ivs X)[k]? = some (.int .i64 (ge X k)) := by simp [ivs, ge, hk]
theorem ivs_append (X Y : List Int) : ivs (X ++ Y) = ivs X ++ ivs Y := by simp [ivs]
theorem ivs_one (X : List Int) : ∀ u ∈ ivs X, u.oneCell' = true := by
  intro u hu
  simp only [ivs, List.mem_map] at hu
  obtain ⟨x, _, rfl⟩ := hu
  rfl
theorem spvs_one (D : List Sp) : ∀ u ∈ spvs D, u.oneCell' = true := by
  intro u hu
  simp only [spvs, List.mem_flatMap] at hu
  obtain ⟨x, _, hx⟩ := hu
  exact spv_one x u hx
def sortI (X : List Int) : List Int := X.mergeSort fun x y => decide (x ≤ y)
theorem sortI_length (X : List Int) : (sortI X).length = X.length := List.length_mergeSort _
theorem putRow_ints (w : World) (g : Nat) (X : List Int) : putRow (Value.int .i64) w g 0 X.toArray = putRow id w g 0 (ivs X).toArray := by
  unfold putRow
  congr 1
  funext c
  unfold putCells
  simp only [List.size_toArray, ivs_length]
  congr 1
  funext i
  by_cases h : 0 ≤ i ∧ i < 0 + X.length
  · have h2 : i < X.length := by omega
    simp [h2, ivs]
  · have h2 : ¬ i < X.length := by omega
    simp [h2]
theorem sortInt_any (base : Nat) (v : Value) (X : List Int) (w : World) (h : w.ownsRow base 3 1 v X.length (ivs X)) (hn : X.length < 4611686018427387904) :
    Calls Tryz.prog 91 #[v] w fun e w' => e = .returned (.tuple #[]) ∧ w'.ownsRow base 3 1 v X.length (ivs (sortI X)) ∧ w.grownBy w' v.ownBlock := by
  rcases Nat.eq_zero_or_pos X.length with h0 | h0
  · have hX : X = [] := List.eq_nil_of_length_eq_zero h0
    subst hX
    have hs : sortI [] = [] := by simp [sortI]
    rw [hs]
    obtain ⟨A, c, rfl, _⟩ := own_form h
    have hcon := Any.slices_Sort_int_none Tryz.sortInt A c w
    change Calls Tryz.prog 91 _ _ _ at hcon
    refine hcon.mono ?_
    rintro e w' ⟨rfl, rfl⟩
    exact ⟨rfl, h, World.grownBy.refl _ _⟩
  · obtain ⟨g, cap, rfl, hg, hlt⟩ := h.form h0
    have hH : Holds (Value.int .i64) w g 0 X.toArray := by
      intro j hj
      have hj' : j < X.length := by simpa using hj
      have hu : (ivs X)[j]? = some (.int .i64 (X.toArray[j]!)) := by simp [ivs, hj']
      have := own_cell h j _ hu
      simpa using this
    have hcon := Any.slices_Sort_int Tryz.sortInt g 0 cap X w hH hlt hn
    change Calls Tryz.prog 91 _ _ _ at hcon
    refine hcon.mono ?_
    rintro e w' ⟨rfl, m, os, rfl⟩
    have hr := own_row w base _ 1 X.length cap g m _ (ivs (sortI X)).toArray os h (by simp [ivs, sortI])
    have hp := putRow_ints (Sort.ahead w m) g (sortI X)
    unfold sortI at hp
    rw [hp]
    exact ⟨rfl, hr.1, hr.2⟩
set_option maxHeartbeats 1000000 in
theorem Clone_any (A : Option Addr) (n ca : Nat) (D : List Sp) (w : World) (hr : Reads w w.heap.size 2 A n (spvs D)) (hn : n ≤ 1000000) :
    Calls Tryz.prog 90 #[.slice A n ca] w (RetSpans w D) := by
  have hl : D.length = n := by have := hr.1; rw [spvs_length] at this; omega
  obtain ⟨i0, hi0, hz0, hz1, hzb⟩ := info_parts Tryz.infoSpan
  have RD := Lib.hid hr
  cases A with
  | none =>
    have hn0 : n = 0 := by
      rcases Nat.eq_zero_or_pos n with h | h
      · exact h
      · obtain ⟨ad, e, _⟩ := hr.2 h
        cases e
    subst hn0
    have hD : D = [] := List.eq_nil_of_length_eq_zero hl
    subst hD
    have hq : ∀ (W : World) (c : Nat), (binOp .eql 93 (.slice none 0 c) (.slice none 0 0)).run Tryz.prog W = .ok (.bool true) W := fun W c => Go.Lib.run_eql_slice_nil W 93 129 none 0 c 0 0 Tryz.underlying93
    clear hr RD
    go_enter Tryz.func90, Tryz.ntmps90
    go_wp2
    go_ret
    exact ⟨_, rfl, own_nil _ _ _ _, Below.refl _ _⟩
  | some ad =>
    have hq : ∀ (W : World) (n c : Nat), (binOp .eql 93 (.slice (some ad) n c) (.slice none 0 0)).run Tryz.prog W = .ok (.bool false) W := fun W n c => Go.Lib.run_eql_slice_nil W 93 129 (some ad) n c 0 0 Tryz.underlying93
    clear hr
    go_enter Tryz.func90, Tryz.ntmps90
    go_wp2_with (at_builtin; (refine wpList_append_any _ rfl (.tmp 5) (.tmp 6) _ rfl w.heap.size 129 i0 _ 2 16 Tryz.underlying93 hi0 hz0 hz1 hzb rfl (by decide) (.slice (some ⟨w.heap.size, 0, none⟩) 0 0) 0 [] rfl (own_new w w.heap.size 129 2 0 _ #[] rfl (Nat.le_refl _) rfl (by simp [maxLen])) w.heap.size (some ad) n ca (spvs D) rfl (RD.out.alloc (Nat.le_refl _) _) (spvs_one D) (by simp only [maxLen]; omega) (by omega) (by simp) ?_); intro v2 w2 hown2 hg2 hat2)
    go_ret
    rw [Nat.zero_add, List.nil_append] at hown2
    exact ⟨_, rfl, by rw [hl]; exact hown2, ((Below.refl _ _).alloc (Nat.le_refl _) _).grown hg2 (by simp) (fun k hk => by simp [Value.ownBlock] at hk; omega)⟩
end Go.Proofs.YtpemohoibeipfaaGreat
namespace Go.Proofs.YtpemohoibeipfaaGreat
open Go.RowKit
/-- one number more, if it is not the last one again -/
def cptF (acc : List Int) (x : Int) : List Int := if acc.getLast? = some x then acc else acc ++ [x]
/-- no number twice in a row -/
def cpt (X : List Int) : List Int := X.foldl cptF []
theorem cpt_snoc (X : List Int) (x : Int) : cpt (X ++ [x]) = cptF (cpt X) x := by simp [cpt]
theorem cptF_last (acc : List Int) (x : Int) : (cptF acc x).getLast? = some x := by
  unfold cptF
  split
  · assumption
  · simp
theorem cptF_len (acc : List Int) (x : Int) : (cptF acc x).length ≤ acc.length + 1 := by
  unfold cptF
  split <;> simp
theorem takeI (X : List Int) (k : Nat) (hk : k < X.length) : X.take (k + 1) = X.take k ++ [ge X k] := by
  rw [List.take_succ_eq_append_getElem hk]
  simp [ge, hk]
theorem cpt_last (X : List Int) (k : Nat) (hk : k < X.length) : (cpt (X.take (k + 1))).getLast? = some (ge X k) := by
  rw [takeI X k hk, cpt_snoc, cptF_last]
theorem cpt_same (X : List Int) (k : Nat) (hk : k + 1 < X.length) (h : ge X (k + 1) = ge X k) : cpt (X.take (k + 2)) = cpt (X.take (k + 1)) := by
  rw [takeI X (k + 1) hk, cpt_snoc]
  unfold cptF
  rw [if_pos (by rw [cpt_last X k (by omega), h])]
theorem cpt_new (X : List Int) (k : Nat) (hk : k + 1 < X.length) (h : ¬ ge X (k + 1) = ge X k) : cpt (X.take (k + 2)) = cpt (X.take (k + 1)) ++ [ge X (k + 1)] := by
  rw [takeI X (k + 1) hk, cpt_snoc]
  unfold cptF
  rw [if_neg (by rw [cpt_last X k (by omega)]; intro e; exact h (Option.some.inj e).symm)]
theorem cpt_len (X : List Int) : (cpt X).length ≤ X.length := by
  have : ∀ (X acc : List Int), (X.foldl cptF acc).length ≤ acc.length + X.length := by
    intro X
    induction X with
    | nil => intro acc; simp
    | cons x r ih =>
      intro acc
      have h1 := ih (cptF acc x)
      have h2 := cptF_len acc x
      simp only [List.foldl_cons, List.length_cons]
      omega
  simpa [cpt] using this X []
theorem cpt_one (X : List Int) (h : 0 < X.length) : cpt (X.take 1) = X.take 1 := by
  match X, h with
  | x :: r, _ => simp [cpt, cptF]
theorem cpt_few (X : List Int) (h : X.length < 2) : cpt X = X := by
  match X, h with
  | [], _ => rfl
  | [x], _ => simp [cpt, cptF]
theorem fold_cpt : ∀ (X acc : List Int), acc.Pairwise (· < ·) → (∀ a ∈ acc, ∀ x ∈ X, a ≤ x) → X.Pairwise (· ≤ ·) → (X.foldl cptF acc).Pairwise (· < ·) ∧ ∀ y, y ∈ X.foldl cptF acc ↔ (y ∈ acc ∨ y ∈ X)
  | [], acc, h, _, _ => ⟨h, fun y => by simp⟩
  | x :: X, acc, h, hle, hX => by
    rw [List.pairwise_cons] at hX
    have hc : (cptF acc x).Pairwise (· < ·) ∧ ∀ y, y ∈ cptF acc x ↔ (y ∈ acc ∨ y = x) := by
      unfold cptF
      by_cases hl : acc.getLast? = some x
      · rw [if_pos hl]
        refine ⟨h, fun y => ⟨.inl, ?_⟩⟩
        rintro (hy | rfl)
        · exact hy
        · exact List.mem_of_getLast? hl
      · rw [if_neg hl]
        refine ⟨?_, fun y => by simp⟩
        rw [List.pairwise_append]
        refine ⟨h, by simp, fun a ha b hb => ?_⟩
        rw [List.mem_singleton] at hb
        subst hb
        have hab := hle a ha b (by simp)
        rcases Int.lt_or_eq_of_le hab with h1 | h1
        · exact h1
        · exfalso
          subst h1
          rcases List.eq_nil_or_concat acc with h0 | ⟨M, t, h0⟩
          · rw [h0] at ha; cases ha
          · rw [List.concat_eq_append] at h0
            subst h0
            have ht := hle t (by simp) a (by simp)
            rw [List.pairwise_append] at h
            rw [List.mem_append, List.mem_singleton] at ha
            rcases ha with ha | ha
            · have := h.2.2 a ha t (by simp)
              omega
            · subst ha
              simp at hl
    obtain ⟨g1, g2⟩ := fold_cpt X (cptF acc x) hc.1 (fun a ha y hy => by
      rcases (hc.2 a).1 ha with h1 | h1
      · exact hle a h1 y (by simp [hy])
      · rw [h1]; exact hX.1 y hy) hX.2
    refine ⟨g1, fun y => ?_⟩
    rw [List.foldl_cons, g2, hc.2, List.mem_cons]
    constructor
    · rintro ((h1 | h1) | h1)
      · exact .inl h1
      · exact .inr (.inl h1)
      · exact .inr (.inr h1)
    · rintro (h1 | h1 | h1)
      · exact .inl (.inl h1)
      · exact .inl (.inr h1)
      · exact .inr h1
theorem cpt_sorted (X : List Int) : (cpt (sortI X)).Pairwise (· < ·) ∧ ∀ y, y ∈ cpt (sortI X) ↔ y ∈ X := by
  have hs : (sortI X).Pairwise (· ≤ ·) := by
    have h := List.pairwise_mergeSort (le := fun x y : Int => decide (x ≤ y)) (by intro a b c h1 h2; simp only [decide_eq_true_eq] at *; omega) (by intro a b; simp only [Bool.or_eq_true, decide_eq_true_eq]; omega) X
    exact Canon.pairs_less (fun a b h => by simpa using h) h
  obtain ⟨h1, h2⟩ := fold_cpt (sortI X) [] (by simp) (by simp) hs
  refine ⟨h1, fun y => ?_⟩
  rw [cpt, h2]
  simp [sortI, List.mem_mergeSort]
/-! ### rows -/
theorem own_take {w : World} {base g cap : Nat} {e : TypeId} {size n k : Nat} {xs : List Value} (h : w.ownsRow base e size (.slice (some ⟨g, 0, none⟩) n cap) n xs) (hk : k ≤ n) :
    w.ownsRow base e size (.slice (some ⟨g, 0, none⟩) k cap) k (xs.take (k * size)) := by
  have hks : k * size ≤ n * size := Nat.mul_le_mul_right _ hk
  refine ⟨by rw [List.length_take, h.1]; omega, ?_⟩
  rcases h.2 with ⟨h1, _⟩ | ⟨g', cap', cur, hv, hg, hh, hnc, hcm, hcs, htk⟩
  · cases h1
  · injection hv with e1 e2 e3
    injection e1 with e1
    injection e1 with e1
    subst e1 e3
    refine .inr ⟨g, cap, cur, rfl, hg, hh, by omega, hcm, hcs, ?_⟩
    rw [← htk, List.take_take]
    congr 1
    omega
theorem own_setCells {base g cap : Nat} {e : TypeId} {n : Nat} : ∀ (vs : List Value) (o : Nat) (w : World) (xs : List Value), w.ownsRow base e 1 (.slice (some ⟨g, 0, none⟩) n cap) n xs → o + vs.length ≤ n →
    ∃ ys, (w.setCells g o vs).ownsRow base e 1 (.slice (some ⟨g, 0, none⟩) n cap) n ys ∧ ys.take o = xs.take o
  | [], o, w, xs, h, _ => ⟨xs, h, rfl⟩
  | v :: vs, o, w, xs, h, ho => by
    simp only [List.length_cons] at ho
    obtain ⟨ys, h1, h2⟩ := own_setCells vs (o + 1) (w.setCell ⟨g, o, none⟩ v) (xs.set o v) (own_set h o v (by omega)) (by omega)
    refine ⟨ys, h1, ?_⟩
    have h3 := congrArg (List.take o) h2
    rw [List.take_take, List.take_take, show min o (o + 1) = o by omega] at h3
    rw [h3, List.take_set_of_le (Nat.le_refl _)]
theorem bl_setCells {base g : Nat} {w0 : World} (hg : base ≤ g) : ∀ (vs : List Value) (o : Nat) (w : World), Below base w0 w → Below base w0 (w.setCells g o vs)
  | [], _, _, h => h
  | v :: vs, o, w, h => bl_setCells hg vs (o + 1) _ (h.setCell (p := ⟨g, o, none⟩) hg v)
theorem ivs_take (X : List Int) (k : Nat) : (ivs X).take k = ivs (X.take k) := by simp [ivs, List.map_take]
theorem ivs_set (X : List Int) (k : Nat) (u : Int) : (ivs X).set k (.int .i64 u) = ivs (X.set k u) := by simp [ivs, List.map_set]
theorem ge_set_ne (X : List Int) (k j : Nat) (u : Int) (h : ¬ k = j) : ge (X.set k u) j = ge X j := by simp [ge, List.getElem?_set, h]
theorem Tryz.zeroInt : ∀ w, (zeroValue 3).run Tryz.prog w = .ok (.int .i64 0) w := fun w => by go_simp
end Go.Proofs.YtpemohoibeipfaaGreat
namespace Go.Proofs.YtpemohoibeipfaaGreat
open Go.RowKit
theorem takeY (Y : List Int) (k : Nat) (a : Int) (hk : k < Y.length) : (Y.set k a).take (k + 1) = Y.take k ++ [a] := by
  rw [takeI _ k (by simpa using hk), List.take_set_of_le (Nat.le_refl _)]
  simp [ge, hk]
set_option maxHeartbeats 2000000 in
set_option maxRecDepth 100000 in
theorem Compact_any (base : Nat) (v : Value) (X : List Int) (w : World) (h : w.ownsRow base 3 1 v X.length (ivs X)) (hn : X.length ≤ 1000000) :
    Calls Tryz.prog 92 #[v] w fun e w' => ∃ v', e = .returned v' ∧ w'.ownsRow base 3 1 v' (cpt X).length (ivs (cpt X)) ∧ Below base w w' := by
  by_cases hs : X.length < 2
  · have hC := Lib.hid (cpt_few X hs)
    have HO := Lib.hid h
    obtain ⟨A, c, rfl, -⟩ := own_form h
    clear h
    generalize hXn : X.length = n at HO hn hs
    have HX := Lib.hid hXn
    clear hXn
    go_enter Tryz.func92, Tryz.ntmps92
    go_wp2
    go_ret
    exact ⟨_, rfl, by rw [hC.out, HX.out]; exact HO.out, Below.refl _ _⟩
  · obtain ⟨g, cap, rfl, hg, hlt⟩ := h.form (by omega)
    obtain ⟨n, hXn⟩ : ∃ n, n = X.length := ⟨_, rfl⟩
    rw [← hXn] at h hn hs ⊢
    obtain ⟨_, _, e, _, hnc, hcm⟩ := own_form h
    cases e
    have HX := Lib.hid hXn
    have HO := Lib.hid h
    have HG := Lib.hid hg
    unfold maxLen at hcm
    clear h hXn hg
    go_enter Tryz.func92, Tryz.ntmps92
    go_wp2
    go_loopw [3] (fun i wr => ∃ k j q : Nat, k = j + 1 ∧ k ≤ n ∧ i = .int .i64 k ∧ wr = w.drewN q ∧ cpt (X.take k) = X.take k) (fun i _ => n - (intOf i).toNat)
    case atStart => exact ⟨1, 0, 0, rfl, by omega, rfl, rfl, cpt_one X (by rw [← HX.out]; omega)⟩
    case round =>
      obtain ⟨k, j, q, hkj, hk, rfl, rfl, hcp⟩ := hrel
      by_cases hlt2 : k < n
      · have hj : j < n := by omega
        obtain ⟨y1, -⟩ := own_cell HO.out k _ (ivs_at X k (by rw [← HX.out]; omega))
        obtain ⟨y2, -⟩ := own_cell HO.out j _ (ivs_at X j (by rw [← HX.out]; omega))
        have SJ : Hid (IntKind.i64.wrap ((k : Int) - 1) = (j : Int)) := Lib.hid ((IntWalk.i64_in _ (by omega)).trans (by omega))
        have c1 : Hid (ge X k = ge X j → cpt (X.take (k + 1)) = X.take k) := Lib.hid (by rw [← hcp]; subst hkj; exact cpt_same X j (by rw [← HX.out]; omega))
        have c2 : Hid (¬ ge X k = ge X j → cpt (X.take (k + 1)) = X.take (k + 1)) := Lib.hid (fun hne => by rw [takeI X k (by rw [← HX.out]; omega), ← takeI X k (by rw [← HX.out]; omega)]; have h2 : cpt (X.take (k + 1)) = cpt (X.take k) ++ [ge X k] := (by subst hkj; exact cpt_new X j (by rw [← HX.out]; omega) hne); rw [h2, hcp, takeI X k (by rw [← HX.out]; omega)])
        have HKJ := Lib.hid hkj
        clear hkj hcp
        generalize hxk : ge X k = xk at y1 c1 c2
        generalize ge X j = xj at y2 c1 c2
        clear hxk
        go_upto_region 6 with (fail)
        have sj := SJ.out
        by_cases he : xk = xj
        · have hC1 := Lib.hid (c1.out he)
          subst he
          clear c1 c2
          go_quiet (fail)
          clear sj y1 y2
          go_wp2
          go_loopw [3, 5] (fun i3 i5 wr => ∃ (kk k2 p : Nat) (Y : List Int), k2 = p + 1 ∧ k + k2 ≤ n ∧ i3 = .int .i64 kk ∧ i5 = .int .i64 k2 ∧ kk < k + k2 ∧ Y.length = n ∧ Y.take kk = cpt (X.take (k + k2)) ∧ (∀ t, k + p ≤ t → ge Y t = ge X t) ∧ wr.ownsRow base 3 1 (.slice (some ⟨g, 0, none⟩) n cap) n (ivs Y) ∧ Below base w wr) (fun _ i5 _ => n - (intOf i5).toNat)
          case atStart => exact ⟨k, 1, 0, X, rfl, by omega, rfl, rfl, by omega, HX.out.symm, hC1.out.symm, fun _ _ => rfl, own_bl HO.out (bl_drewN (Below.refl _ _) _) (Nat.le_refl _), bl_drewN (Below.refl _ _) _⟩
          case round =>
            obtain ⟨kk, k2, p, Y, hkp, hle, rfl, rfl, hkk, hYl, hYt, hYx, hown, hbr⟩ := hrel
            have hg2 := HG.out
            by_cases hlt3 : k2 < n - k
            · have e1 := hYx (k + k2) (by omega)
              have e2 := hYx (k + p) (by omega)
              obtain ⟨z1, -⟩ := own_cell hown (k + k2) _ (ivs_at Y (k + k2) (by omega))
              obtain ⟨z2, -⟩ := own_cell hown (k + p) _ (ivs_at Y (k + p) (by omega))
              obtain ⟨z3, z4⟩ := own_cell hown kk _ (ivs_at Y kk (by omega))
              rw [e1] at z1
              rw [e2] at z2
              have SP : Hid (IntKind.i64.wrap ((k2 : Int) - 1) = (p : Int)) := Lib.hid ((IntWalk.i64_in _ (by omega)).trans (by omega))
              have hp2 : p < n - k := by omega
              have d1 : Hid (ge X (k + k2) = ge X (k + p) → cpt (X.take (k + (k2 + 1))) = cpt (X.take (k + k2))) := Lib.hid (by subst hkp; exact cpt_same X (k + p) (by rw [← HX.out]; omega))
              have d2 : Hid (¬ ge X (k + k2) = ge X (k + p) → cpt (X.take (k + (k2 + 1))) = cpt (X.take (k + k2)) ++ [ge X (k + k2)]) := Lib.hid (by subst hkp; exact cpt_new X (k + p) (by rw [← HX.out]; omega))
              have HKP := Lib.hid hkp
              have hkkn : kk < n := by omega
              clear hkp e1 e2
              generalize ge X (k + k2) = a at z1 d1 d2
              generalize ge X (k + p) = b at z2 d1 d2
              have HYX := Lib.hid hYx
              have HYT := Lib.hid hYt
              clear hYx hYt
              go_upto_region 11 with (fail)
              have sp := SP.out
              by_cases he : a = b
              · have hd := Lib.hid (d1.out he)
                subst he
                clear d1 d2 z3 z4
                go_quiet (fail)
                clear sp z1 z2
                go_wp2
                go_roundw
                case rel => exact ⟨kk, k2 + 1, p + 1, Y, by have := HKP.out; omega, by omega, rfl, by go_num, by omega, hYl, by rw [hd.out]; exact HYT.out, fun t ht => HYX.out t (by omega), own_bl hown (bl_drewN (Below.refl _ _) _) (Nat.le_refl _), bl_drewN hbr _⟩
                case measure => simp [intOf]; omega
              · have hd := Lib.hid (d2.out he)
                have hbne : (a != b) = true := by simp [he]
                clear d1 d2 he
                go_quiet (fail)
                clear sp
                go_wp2
                go_roundw
                case rel => exact ⟨kk + 1, k2 + 1, p + 1, Y.set kk a, by have := HKP.out; omega, by omega, by go_num, by go_num, by omega, by simpa using hYl, by rw [takeY Y kk a (by omega), HYT.out, hd.out], fun t ht => by rw [ge_set_ne _ _ _ _ (by have := HKP.out; omega)]; exact HYX.out t (by omega), by rw [← ivs_set]; exact own_set (own_bl hown (bl_drewN (Below.refl _ _) _) (Nat.le_refl _)) kk _ (by omega), (bl_drewN hbr _).setCell (p := ⟨g, kk, none⟩) hg2 _⟩
                case measure => simp [intOf]; omega
            · have hm : k + k2 = n := by omega
              have hcl : ∀ (ty : TypeId) (c : Nat), (Builtin.clear_ #[126] ty #[.slice (some ⟨g, kk, none⟩) (n - kk) c]).run Tryz.prog wr = .ok (.tuple #[]) (wr.setCells g kk (List.replicate (n - kk) (.int .i64 0))) := fun ty c =>
                Go.Lib.run_clear_slice wr 126 3 ty (.int .i64 0) Tryz.underlying126 Tryz.zeroInt rfl rfl g kk (n - kk) c (by omega)
                  (fun t ht => by rw [(own_cell hown (kk + t) _ (ivs_at Y (kk + t) (by omega))).1]; rfl) (fun t ht => (own_cell hown (kk + t) _ (ivs_at Y (kk + t) (by omega))).2)
              have HYT := Lib.hid hYt
              obtain ⟨ys, o1, o2⟩ := own_setCells (List.replicate (n - kk) (.int .i64 0)) kk wr (ivs Y) hown (by simp; omega)
              have o3 := own_take o1 (k := kk) (by omega)
              rw [Nat.mul_one, o2, ivs_take, hYt, hm, List.take_of_length_le (by rw [← HX.out]; omega)] at o3
              have hb3 := bl_setCells hg2 (List.replicate (n - kk) (.int .i64 0)) kk wr hbr
              have hkl : kk = (cpt X).length := by
                have := congrArg List.length HYT.out
                rw [List.length_take, hm, List.take_of_length_le (l := X) (by rw [← HX.out]; omega)] at this
                omega
              have hkkn : kk ≤ n := by omega
              have HK := Lib.hid hkl
              have O3 := Lib.hid o3
              clear hYx hYt hown hkl o1 o2 o3
              go_wp2
              go_ret
              exact ⟨_, rfl, by rw [← HK.out]; exact O3.out, hb3⟩
        · have hC2 := Lib.hid (c2.out he)
          have hbne : (xk == xj) = false := by simp [he]
          clear c1 c2 he
          go_quiet (fail)
          clear sj
          go_wp2
          go_roundw
          case rel => exact ⟨k + 1, k, q + nq, rfl, by omega, by go_num, rfl, hC2.out⟩
          case measure => simp [intOf]; omega
      · have hkn : k = n := by omega
        have hX : X.take k = X := List.take_of_length_le (by rw [← HX.out]; omega)
        rw [hX] at hcp
        have HCP := Lib.hid hcp
        clear hcp hX hkj hkn
        go_wp2
        go_ret
        exact ⟨_, rfl, by rw [HCP.out, ← HX.out]; exact own_bl HO.out (bl_drewN (Below.refl _ _) _) (Nat.le_refl _), bl_drewN (Below.refl _ _) _⟩
end Go.Proofs.YtpemohoibeipfaaGreat
