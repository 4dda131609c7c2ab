/- (*Log).Reckoned of a start and a motion. -/
import Derived.Test.YthfndnmfnijpeaaGreatHMx
set_option linter.unusedVariables false
set_option linter.unusedSimpArgs false
namespace Go.Proofs.YthfndnmfnijpeaaGreat
open Go.RowKit Go.Shelf
open LB (Bs Rec)
/-- the start and the motion of the chapter's example -/
def rA : Rec := ⟨1, 0, 0, 3000000, 3000000, 0, 0, 0, 0, 0, 0, [], 0, 0, 0, 0, 0, 0, 0, 0, 0, 0, [], []⟩
def rB : Rec := ⟨2, 0, 0, 0, 0, 0, 0, 0, 0, 10000, 10000, [], 0, 0, 0, 0, 0, 0, 0, 0, 0, 0, [], []⟩
theorem Blk.ne_rec {w : World} {f q : Nat} {cs ds : Array Value} (h : Blk w f 23 cs) (h' : Blk w q 33 ds) : q ≠ f := h'.ne_ h (by decide)
theorem Blk.ne_mt {w : World} {f q : Nat} {cs ds : Array Value} (h : Blk w f 110 cs) (h' : Blk w q 28 ds) : q ≠ f := h'.ne_ h (by decide)
def RkI (W : World) (l g0 n0 h c p4 : Nat) (a : Act) (M : Nat → Bool) (a' : Act) (w' : World) : Prop :=
  ∃ (v108 v109 v110 v111 v112 v113 v114 v115 v116 v117 v118 v119 v5 : Value), a' = (((((((((((((a.put (some 108) v108).put (some 109) v109).put (some 110) v110).put (some 111) v111).put (some 112) v112).put (some 113) v113).put (some 114) v114).put (some 115) v115).put (some 116) v116).put (some 117) v117).put (some 118) v118).put (some 119) v119).put (some 5) v5) ∧ (M 12 = false → Below W.heap.size W w') ∧ (M 12 = true → ∃ w9, Below W.heap.size W w9 ∧ w' = ((((w9.setCell ⟨p4, 0, none⟩ (.int .i64 3010000)).setCell ⟨p4, 1, none⟩ (.int .i64 3010000)).setCell ⟨p4, 2, none⟩ (.int .i64 0)).setCell ⟨p4, 3, none⟩ (.int .i64 0))) ∧ (M 1 = true → M 0 = true) ∧ (M 2 = true → M 1 = true) ∧ (M 3 = true → M 2 = true) ∧ (M 5 = true → M 3 = true ∧ M 4 = true) ∧ (M 6 = true → M 5 = true) ∧ (M 7 = true → M 6 = true) ∧ (M 9 = true → M 7 = true ∧ M 8 = true) ∧ (M 10 = true → M 9 = true) ∧ (M 11 = true → M 9 = true) ∧ (M 12 = true → M 10 = true) ∧ (M 13 = true → M 11 = true) ∧ (M 0 = true → v108 = .pointer (some ⟨l, 0, none⟩)) ∧ (M 1 = true → v109 = .pointer (some ⟨l, 0, none⟩)) ∧ (M 2 = true → v110 = .pointer (some ⟨l, 3, none⟩)) ∧ (M 3 = true → v111 = .slice (some ⟨g0, 0, none⟩) 2 n0) ∧ (M 4 = true → v112 = .int .i64 0) ∧ (M 5 = true → v113 = .pointer (some ⟨g0, 0, none⟩)) ∧ (M 6 = true → v114 = .pointer (some ⟨g0, 3, none⟩)) ∧ (M 7 = true → v115 = .agg #[.int .i64 3000000, .int .i64 3000000, .int .i64 0, .int .i64 0]) ∧ (M 8 = true → v116 = .slice (some ⟨h, 0, none⟩) 1 c) ∧ (M 9 = true → v117 = .tuple #[.agg #[.int .i64 3010000, .int .i64 3010000, .int .i64 0, .int .i64 0], .int .i64 0]) ∧ (M 10 = true → v118 = .agg #[.int .i64 3010000, .int .i64 3010000, .int .i64 0, .int .i64 0]) ∧ (M 11 = true → v119 = .int .i64 0) ∧ (M 13 = true → v5 = .int .i64 0)
theorem RkI.start (W : World) (l g0 n0 h c p4 : Nat) (a : Act) : RkI W l g0 n0 h c p4 a (fun _ => false) a W :=
  ⟨_, _, _, _, _, _, _, _, _, _, _, _, _, by rw [putQ_self a 108, putQ_self a 109, putQ_self a 110, putQ_self a 111, putQ_self a 112, putQ_self a 113, putQ_self a 114, putQ_self a 115, putQ_self a 116, putQ_self a 117, putQ_self a 118, putQ_self a 119, putQ_self a 5], fun _ => Below.refl _ _, nofun, nofun, nofun, nofun, nofun, nofun, nofun, nofun, nofun, nofun, nofun, nofun, nofun, nofun, nofun, nofun, nofun, nofun, nofun, nofun, nofun, nofun, nofun, nofun, nofun⟩
set_option maxHeartbeats 8000000 in
set_option maxRecDepth 100000 in
theorem Reckoned_two (l g0 n0 : Nat) (bk : Value) (w : World) (hL : Blk w l 102 #[bk, .int .i64 0, .slice none 0 0, .slice (some ⟨g0, 0, none⟩) 2 n0]) (h1 : RecAt w g0 0 (recC rA (.slice none 0 0))) (h2 : RecAt w g0 24 (recC rB (.slice none 0 0))) (hg : g0 < w.heap.size) :
    Calls Tryz.prog 14 #[.pointer (some ⟨l, 0, none⟩), .agg #[.int .i64 3600000, .int .i64 3600000]] w fun e w' => e = .returned (.tuple #[.agg #[.int .i64 3010000, .int .i64 3010000, .int .i64 0, .int .i64 0], .int .i64 0]) ∧ Below w.heap.size w w' := by
  have KW1 := Lib.hid (fun W => when_any rA (.slice none 0 0) W)
  obtain ⟨c1, hc1⟩ : ∃ cs, recC rA (.slice none 0 0) = cs := ⟨_, rfl⟩
  have hsz1 : c1.size = 24 := by rw [← hc1]; rfl
  have hall1 : c1.all (·.oneCell') = true := by rw [← hc1]; simp [rA, txb, Value.oneCell']
  have hrv1 : recV rA (.slice none 0 0) = .agg c1 := by rw [← hc1]
  rw [hrv1] at KW1
  rw [hc1] at h1
  have k1 : c1[0]? = some (.int .i64 1) := by rw [← hc1]; rfl
  have KW2 := Lib.hid (fun W => when_any rB (.slice none 0 0) W)
  obtain ⟨c2, hc2⟩ : ∃ cs, recC rB (.slice none 0 0) = cs := ⟨_, rfl⟩
  have hsz2 : c2.size = 24 := by rw [← hc2]; rfl
  have hall2 : c2.all (·.oneCell') = true := by rw [← hc2]; simp [rB, txb, Value.oneCell']
  have hrv2 : recV rB (.slice none 0 0) = .agg c2 := by rw [← hc2]
  rw [hrv2] at KW2
  rw [hc2] at h2
  have k2 : c2[0]? = some (.int .i64 2) := by rw [← hc2]; rfl
  have a1 : c1[1]? = some (.int .i64 0) := by rw [← hc1]; rfl
  have a2 : c1[2]? = some (.int .i64 0) := by rw [← hc1]; rfl
  have e1 : c2[1]? = some (.int .i64 0) := by rw [← hc2]; rfl
  have e2 : c2[2]? = some (.int .i64 0) := by rw [← hc2]; rfl
  have p3 : c1[3]? = some (.int .i64 3000000) := by rw [← hc1]; rfl
  have p4 : c1[4]? = some (.int .i64 3000000) := by rw [← hc1]; rfl
  have p5 : c1[5]? = some (.int .i64 0) := by rw [← hc1]; rfl
  have p6 : c1[6]? = some (.int .i64 0) := by rw [← hc1]; rfl
  have m7 : c2[7]? = some (.int .i64 0) := by rw [← hc2]; rfl
  have m8 : c2[8]? = some (.int .i64 0) := by rw [← hc2]; rfl
  have m9 : c2[9]? = some (.int .i64 10000) := by rw [← hc2]; rfl
  have m10 : c2[10]? = some (.int .i64 10000) := by rw [← hc2]; rfl
  replace KW1 : Hid (∀ W, Calls Tryz.prog 40 #[.agg c1] W fun e w' => e = .returned (.int .i64 0) ∧ Below W.heap.size W w') := KW1
  replace KW2 : Hid (∀ W, Calls Tryz.prog 40 #[.agg c2] W fun e w' => e = .returned (.int .i64 0) ∧ Below W.heap.size W w') := KW2
  clear hrv1 hrv2 hc1 hc2
  have KC := Lib.hid (fun W => clock_any 3600000 3600000 W)
  rw [show clkB 3600000 3600000 = true from rfl] at KC
  have H1 := Lib.hid h1
  have H2 := Lib.hid h2
  have LL := Lib.hid hL
  clear h1 h2 hL
  have A0 := Lib.hid ((Blk.new w 23 #[.int .i64 3600000, .int .i64 3600000]).alloc (.cells #[.int .i64 0, .int .i64 0, .int .i64 0, .int .i64 0] 26))
  have A1 := Lib.hid (Blk.new (w.alloc (.cells #[.int .i64 3600000, .int .i64 3600000] 23)) 26 #[.int .i64 0, .int .i64 0, .int .i64 0, .int .i64 0])
  have a0 := Lib.hid (bl2 w (.cells #[.int .i64 3600000, .int .i64 3600000] 23) (.cells #[.int .i64 0, .int .i64 0, .int .i64 0, .int .i64 0] 26))
  simp only [World.size_alloc] at A1
  go_enter Tryz.func14, Tryz.ntmps14
  go_upto_region 1 with fail
  generalize (w.alloc (.cells #[.int .i64 3600000, .int .i64 3600000] 23)).alloc (.cells #[.int .i64 0, .int .i64 0, .int .i64 0, .int .i64 0] 26) = w0 at *
  have x0 : ∀ i, w0.cell? ⟨w.heap.size, i, none⟩ = (#[.int .i64 3600000, .int .i64 3600000] : Array Value)[i]? := fun i => A0.out.cell i
  go_wp2_with fail
  (with_reducible refine (KC.out _).mono ?_)
  rintro e w1 ⟨rfl, hb1⟩
  have B0 := Lib.hid (A0.out.below hb1 A0.out.lt)
  have B1 := Lib.hid (A1.out.below hb1 A1.out.lt)
  have b0 := Lib.hid (a0.out.trans (hb1.mono a0.out.size))
  clear hb1 a0 A0 A1 x0 KC
  have y3 : w1.cell? ⟨l, 3, none⟩ = some (.slice (some ⟨g0, 0, none⟩) 2 n0) := (LL.out.below b0.out LL.out.lt).cell 3
  go_wp2_with fail
  go_loopw [6, 31] (fun s6 s31 wr => ∃ k : Nat, k ≤ 2 ∧ s31 = .int .i64 k ∧ s6 = .int .i64 (if k = 0 then -1 else 0) ∧ Blk wr w.heap.size 23 #[.int .i64 3600000, .int .i64 3600000] ∧ Blk wr (w.heap.size + 1) 26 #[.int .i64 0, .int .i64 0, .int .i64 0, .int .i64 0] ∧ Below w.heap.size w wr) (fun _ s31 _ => 3 - (intOf s31).toNat)
  case atStart => exact ⟨0, by omega, rfl, rfl, B0.out, B1.out, b0.out⟩
  case round =>
    clear B0 B1 b0 y3
    obtain ⟨k, hk, rfl, rfl, h0, h1, hbr⟩ := hrel
    have hcase : k = 0 ∨ k = 1 ∨ k = 2 := by omega
    have T0 := Lib.hid h0
    have T1 := Lib.hid h1
    have BB := Lib.hid hbr
    clear hk h0 h1 hbr
    rcases hcase with rfl | rfl | rfl
    · have RR := Lib.hid (H1.out.below BB.out hg)
      go_upto_region 6 with fail
      repeat ((fail_if_success (refine wp_load_recAt (.tmp 34) rfl g0 0 rfl RR.out hsz1 ?_)); (first | go_values | go_skip | go_guarded | go_step))
      refine wp_load_recAt (.tmp 34) rfl g0 0 rfl RR.out hsz1 ?_
      simp only [Act.put, List.setIfInBounds_toArray, List.set_cons_zero, List.set_cons_succ]
      repeat ((fail_if_success (refine wpList_store_row rfl _ (.tmp 8) (.tmp 35) rfl wr.heap.size c1 rfl rfl _ _ (heap_alloc_last _ _) (info24 hsz1) (by rw [hsz1]; rfl) hall1 ?_)); (first | go_values | go_skip | go_guarded | go_step))
      refine wpList_store_row rfl _ (.tmp 8) (.tmp 35) rfl wr.heap.size c1 rfl rfl _ _ (heap_alloc_last _ _) (info24 hsz1) (by rw [hsz1]; rfl) hall1 ?_
      rw [World.setRow_alloc_new]
      simp only [Act.put]
      have T0a := Lib.hid (T0.out.alloc (.cells c1 33))
      have T1a := Lib.hid (T1.out.alloc (.cells c1 33))
      have BBa := Lib.hid (BB.out.trans ((bl_alloc wr (.cells c1 33)).mono BB.out.size))
      have QQ := Lib.hid (Blk.new wr 33 c1)
      clear RR BB T0 T1
      generalize wr.alloc (.cells c1 33) = wa at *
      obtain ⟨Q, hQ⟩ : ∃ Q, wr.heap.size = Q := ⟨_, rfl⟩
      rw [hQ] at QQ ⊢
      clear hQ
      go_upto_region 7 with fail
      have yk : ∀ s : BW wa, s.w.cell? ⟨Q, 0, none⟩ = some (.int .i64 1) := fun s => ((QQ.out.below s.hb QQ.out.lt).cell 0).trans k1
      have yt : ∀ s : BW wa, s.w.cell? ⟨w.heap.size, 0, none⟩ = some (.int .i64 3600000) := fun s => (T0a.out.below s.hb T0a.out.lt).cell 0
      have RA := Lib.hid (fun W (h : ∃ s : BW wa, W = s.w) => (show RecAt W Q 0 c1 from by obtain ⟨s, rfl⟩ := h; exact fun j _ => by rw [Nat.zero_add]; exact (QQ.out.below s.hb QQ.out.lt).cell j))
      refine wp_region_bw wa (by kernel_rfl) (by kernel_rfl) (Below.refl _ _) ?_
      repeat (first | (go_big_quiet_want; refine quiet_rec (.tmp 8) rfl Q 0 rfl RA.out hsz1 ?_; simp only [Act.put, List.setIfInBounds_toArray, List.set_cons_zero, List.set_cons_succ]; go_big_quiet_on) | (go_big_quiet_step (first | (go_at_call 40; with_reducible exact quiet_bw (KW1.out _)) | fail)))
      refine wpQuiet_nil ?_
      intro w9 hb9
      have T0b := Lib.hid (T0a.out.below hb9 T0a.out.lt)
      have T1b := Lib.hid (T1a.out.below hb9 T1a.out.lt)
      have BBb := Lib.hid (BBa.out.trans (hb9.mono BBa.out.size))
      have QQb := Lib.hid (QQ.out.below hb9 QQ.out.lt)
      clear RA yk yt hb9 BBa QQ T0a T1a
      go_wp2
      go_roundw
      case rel => exact ⟨1, by omega, by go_num, rfl, T0b.out, T1b.out, BBb.out⟩
      case measure => simp [intOf]
    · have RR := Lib.hid (H2.out.below BB.out hg)
      go_upto_region 6 with fail
      repeat ((fail_if_success (refine wp_load_recAt (.tmp 34) rfl g0 24 rfl RR.out hsz2 ?_)); (first | go_values | go_skip | go_guarded | go_step))
      refine wp_load_recAt (.tmp 34) rfl g0 24 rfl RR.out hsz2 ?_
      simp only [Act.put, List.setIfInBounds_toArray, List.set_cons_zero, List.set_cons_succ]
      repeat ((fail_if_success (refine wpList_store_row rfl _ (.tmp 8) (.tmp 35) rfl wr.heap.size c2 rfl rfl _ _ (heap_alloc_last _ _) (info24 hsz2) (by rw [hsz2]; rfl) hall2 ?_)); (first | go_values | go_skip | go_guarded | go_step))
      refine wpList_store_row rfl _ (.tmp 8) (.tmp 35) rfl wr.heap.size c2 rfl rfl _ _ (heap_alloc_last _ _) (info24 hsz2) (by rw [hsz2]; rfl) hall2 ?_
      rw [World.setRow_alloc_new]
      simp only [Act.put]
      have T0a := Lib.hid (T0.out.alloc (.cells c2 33))
      have T1a := Lib.hid (T1.out.alloc (.cells c2 33))
      have BBa := Lib.hid (BB.out.trans ((bl_alloc wr (.cells c2 33)).mono BB.out.size))
      have QQ := Lib.hid (Blk.new wr 33 c2)
      clear RR BB T0 T1
      generalize wr.alloc (.cells c2 33) = wa at *
      obtain ⟨Q, hQ⟩ : ∃ Q, wr.heap.size = Q := ⟨_, rfl⟩
      rw [hQ] at QQ ⊢
      clear hQ
      go_upto_region 7 with fail
      have yk : wa.cell? ⟨Q, 0, none⟩ = some (.int .i64 2) := (QQ.out.cell 0).trans k2
      go_quiet (fail)
      replace T0a := Lib.hid (T0a.out.drewN nq)
      replace T1a := Lib.hid (T1a.out.drewN nq)
      replace BBa := Lib.hid (bl_drewN BBa.out nq)
      go_wp2
      go_roundw
      case rel => exact ⟨2, by omega, by go_num, rfl, T0a.out, T1a.out, BBa.out⟩
      case measure => simp [intOf]
    · have LB := Lib.hid (LL.out.below BB.out LL.out.lt)
      have Z1 := Lib.hid ((T0.out.alloc (.cells #[.slice none 0 0] 109)).alloc (.cells #[.pointer none] 110))
      have Z2 := Lib.hid ((T1.out.alloc (.cells #[.slice none 0 0] 109)).alloc (.cells #[.pointer none] 110))
      have Z3 := Lib.hid ((LB.out.alloc (.cells #[.slice none 0 0] 109)).alloc (.cells #[.pointer none] 110))
      have Z4 := Lib.hid ((Blk.new wr 109 #[.slice none 0 0]).alloc (.cells #[.pointer none] 110))
      have Z5 := Lib.hid (Blk.new (wr.alloc (.cells #[.slice none 0 0] 109)) 110 #[.pointer none])
      simp only [World.size_alloc] at Z5
      have zb := Lib.hid (BB.out.trans ((bl2 wr (.cells #[.slice none 0 0] 109) (.cells #[.pointer none] 110)).mono BB.out.size))
      have hzp : w.heap.size + 1 < wr.heap.size := T1.out.lt
      clear LB T0 T1 BB
      go_upto_region 14 with fail
      generalize ((wr.alloc (.cells #[.slice none 0 0] 109)).alloc (.cells #[.pointer none] 110)) = v0 at *
      obtain ⟨N9, hN9⟩ : ∃ N, wr.heap.size = N := ⟨_, rfl⟩
      rw [hN9] at Z4 Z5 hzp ⊢
      clear hN9
      have y3 : v0.cell? ⟨l, 3, none⟩ = some (.slice (some ⟨g0, 0, none⟩) 2 n0) := Z3.out.cell 3
      have y1 : v0.cell? ⟨g0, 1, none⟩ = some (.int .i64 0) := ((H1.out.below zb.out hg) 1 (by omega)).trans a1
      have y2 : v0.cell? ⟨g0, 2, none⟩ = some (.int .i64 0) := ((H1.out.below zb.out hg) 2 (by omega)).trans a2
      go_upto_region 16 with fail
      have D1 := Lib.hid (Z1.out.alloc (.cells #[.int .i64 0, .int .i64 0] 23))
      have D2 := Lib.hid (Z2.out.alloc (.cells #[.int .i64 0, .int .i64 0] 23))
      have D3 := Lib.hid (Z3.out.alloc (.cells #[.int .i64 0, .int .i64 0] 23))
      have D4 := Lib.hid (Z4.out.alloc (.cells #[.int .i64 0, .int .i64 0] 23))
      have D5 := Lib.hid (Z5.out.alloc (.cells #[.int .i64 0, .int .i64 0] 23))
      have D6 := Lib.hid (Blk.new v0 23 #[.int .i64 0, .int .i64 0])
      have db := Lib.hid (zb.out.trans ((bl_alloc v0 (.cells #[.int .i64 0, .int .i64 0] 23)).mono zb.out.size))
      have hzf : N9 + 1 < v0.heap.size := Z5.out.lt
      clear Z1 Z2 Z3 Z4 Z5 zb y1 y2 y3
      generalize v0.alloc (.cells #[.int .i64 0, .int .i64 0] 23) = v1 at *
      obtain ⟨F11, hF11⟩ : ∃ N, v0.heap.size = N := ⟨_, rfl⟩
      rw [hF11] at D6 hzf ⊢
      clear hF11
      have y3 : v1.cell? ⟨l, 3, none⟩ = some (.slice (some ⟨g0, 0, none⟩) 2 n0) := D3.out.cell 3
      go_wp2_with fail
      go_loopw [65] (fun s65 wr => ∃ (k : Nat) (pm : Value), k ≤ 2 ∧ s65 = .int .i64 k ∧ Blk wr w.heap.size 23 #[.int .i64 3600000, .int .i64 3600000] ∧ Blk wr (w.heap.size + 1) 26 #[.int .i64 0, .int .i64 0, .int .i64 0, .int .i64 0] ∧ Blk wr N9 109 #[.slice none 0 0] ∧ Blk wr F11 23 #[.int .i64 0, .int .i64 0] ∧ Blk wr (N9 + 1) 110 #[pm] ∧ (k ≤ 1 → pm = .pointer none) ∧ (k = 2 → ∃ m, pm = .pointer (some ⟨m, 0, none⟩) ∧ Blk wr m 28 #[.int .i64 0, .int .i64 0, .int .i64 10000, .int .i64 10000]) ∧ Below w.heap.size w wr) (fun s65 _ => 3 - (intOf s65).toNat)
      case atStart => exact ⟨0, _, by omega, rfl, D1.out, D2.out, D4.out, D6.out, D5.out, fun _ => rfl, fun h => by omega, db.out⟩
      case round =>
        clear D1 D2 D3 D4 D5 D6 db y3
        obtain ⟨k, pm, hk, rfl, h0, h1, h2, h3, h4, hp, hm, hbr⟩ := hrel
        have hcase : k = 0 ∨ k = 1 ∨ k = 2 := by omega
        have T0 := Lib.hid h0
        have T1 := Lib.hid h1
        have T2 := Lib.hid h2
        have T3 := Lib.hid h3
        have T4 := Lib.hid h4
        have HP := Lib.hid hp
        have HM := Lib.hid hm
        have BB := Lib.hid hbr
        clear hk h0 h1 h2 h3 h4 hp hm hbr
        rcases hcase with rfl | rfl | rfl
        · obtain rfl := HP.out (by omega)
          clear HP HM
          have RR := Lib.hid (H1.out.below BB.out hg)
          go_upto_region 18 with fail
          repeat ((fail_if_success (refine wp_load_recAt (.tmp 68) rfl g0 0 rfl RR.out hsz1 ?_)); (first | go_values | go_skip | go_guarded | go_step))
          refine wp_load_recAt (.tmp 68) rfl g0 0 rfl RR.out hsz1 ?_
          simp only [Act.put, List.setIfInBounds_toArray, List.set_cons_zero, List.set_cons_succ]
          repeat ((fail_if_success (refine wpList_store_row rfl _ (.tmp 14) (.tmp 69) rfl wr.heap.size c1 rfl rfl _ _ (heap_alloc_last _ _) (info24 hsz1) (by rw [hsz1]; rfl) hall1 ?_)); (first | go_values | go_skip | go_guarded | go_step))
          refine wpList_store_row rfl _ (.tmp 14) (.tmp 69) rfl wr.heap.size c1 rfl rfl _ _ (heap_alloc_last _ _) (info24 hsz1) (by rw [hsz1]; rfl) hall1 ?_
          rw [World.setRow_alloc_new]
          simp only [Act.put]
          have T0a := Lib.hid (T0.out.alloc (.cells c1 33))
          have T1a := Lib.hid (T1.out.alloc (.cells c1 33))
          have T2a := Lib.hid (T2.out.alloc (.cells c1 33))
          have T3a := Lib.hid (T3.out.alloc (.cells c1 33))
          have T4a := Lib.hid (T4.out.alloc (.cells c1 33))
          have BBa := Lib.hid (BB.out.trans ((bl_alloc wr (.cells c1 33)).mono BB.out.size))
          have QQ := Lib.hid (Blk.new wr 33 c1)
          clear RR BB T0 T1 T2 T3 T4
          generalize wr.alloc (.cells c1 33) = wa at *
          obtain ⟨Q, hQ⟩ : ∃ Q, wr.heap.size = Q := ⟨_, rfl⟩
          rw [hQ] at QQ ⊢
          clear hQ
          go_upto_region 19 with fail
          have yk : wa.cell? ⟨Q, 0, none⟩ = some (.int .i64 1) := (QQ.out.cell 0).trans k1
          go_quiet (fail)
          replace T0a := Lib.hid (T0a.out.drewN nq)
          replace T1a := Lib.hid (T1a.out.drewN nq)
          replace T2a := Lib.hid (T2a.out.drewN nq)
          replace T3a := Lib.hid (T3a.out.drewN nq)
          replace T4a := Lib.hid (T4a.out.drewN nq)
          replace BBa := Lib.hid (bl_drewN BBa.out nq)
          go_wp2
          go_roundw
          case rel => exact ⟨1, _, by omega, by go_num, T0a.out, T1a.out, T2a.out, T3a.out, T4a.out, fun _ => rfl, fun h => by omega, BBa.out⟩
          case measure => simp [intOf]
        · obtain rfl := HP.out (by omega)
          clear HP HM
          have RR := Lib.hid (H2.out.below BB.out hg)
          go_upto_region 18 with fail
          repeat ((fail_if_success (refine wp_load_recAt (.tmp 68) rfl g0 24 rfl RR.out hsz2 ?_)); (first | go_values | go_skip | go_guarded | go_step))
          refine wp_load_recAt (.tmp 68) rfl g0 24 rfl RR.out hsz2 ?_
          simp only [Act.put, List.setIfInBounds_toArray, List.set_cons_zero, List.set_cons_succ]
          repeat ((fail_if_success (refine wpList_store_row rfl _ (.tmp 14) (.tmp 69) rfl wr.heap.size c2 rfl rfl _ _ (heap_alloc_last _ _) (info24 hsz2) (by rw [hsz2]; rfl) hall2 ?_)); (first | go_values | go_skip | go_guarded | go_step))
          refine wpList_store_row rfl _ (.tmp 14) (.tmp 69) rfl wr.heap.size c2 rfl rfl _ _ (heap_alloc_last _ _) (info24 hsz2) (by rw [hsz2]; rfl) hall2 ?_
          rw [World.setRow_alloc_new]
          simp only [Act.put]
          have T0a := Lib.hid (T0.out.alloc (.cells c2 33))
          have T1a := Lib.hid (T1.out.alloc (.cells c2 33))
          have T2a := Lib.hid (T2.out.alloc (.cells c2 33))
          have T3a := Lib.hid (T3.out.alloc (.cells c2 33))
          have T4a := Lib.hid (T4.out.alloc (.cells c2 33))
          have BBa := Lib.hid (BB.out.trans ((bl_alloc wr (.cells c2 33)).mono BB.out.size))
          have QQ := Lib.hid (Blk.new wr 33 c2)
          clear RR BB T0 T1 T2 T3 T4
          generalize wr.alloc (.cells c2 33) = wa at *
          obtain ⟨Q, hQ⟩ : ∃ Q, wr.heap.size = Q := ⟨_, rfl⟩
          rw [hQ] at QQ ⊢
          clear hQ
          go_upto_region 19 with fail
          have yk : ∀ s : BW wa, s.w.cell? ⟨Q, 0, none⟩ = some (.int .i64 2) := fun s => ((QQ.out.below s.hb QQ.out.lt).cell 0).trans k2
          have yt : ∀ s : BW wa, s.w.cell? ⟨w.heap.size, 0, none⟩ = some (.int .i64 3600000) := fun s => (T0a.out.below s.hb T0a.out.lt).cell 0
          have RA := Lib.hid (fun W (h : ∃ s : BW wa, W = s.w) => (show RecAt W Q 0 c2 from by obtain ⟨s, rfl⟩ := h; exact fun j _ => by rw [Nat.zero_add]; exact (QQ.out.below s.hb QQ.out.lt).cell j))
          refine wp_region_bw wa (by kernel_rfl) (by kernel_rfl) (Below.refl _ _) ?_
          repeat (first | (go_big_quiet_want; refine quiet_rec (.tmp 14) rfl Q 0 rfl RA.out hsz2 ?_; simp only [Act.put, List.setIfInBounds_toArray, List.set_cons_zero, List.set_cons_succ]; go_big_quiet_on) | (go_big_quiet_step (first | (go_at_call 40; with_reducible exact quiet_bw (KW2.out _)) | fail)))
          refine wpQuiet_nil ?_
          intro w9 hb9
          have T0b := Lib.hid (T0a.out.below hb9 T0a.out.lt)
          have T1b := Lib.hid (T1a.out.below hb9 T1a.out.lt)
          have T2b := Lib.hid (T2a.out.below hb9 T2a.out.lt)
          have T3b := Lib.hid (T3a.out.below hb9 T3a.out.lt)
          have T4b := Lib.hid (T4a.out.below hb9 T4a.out.lt)
          have BBb := Lib.hid (BBa.out.trans (hb9.mono BBa.out.size))
          have QQb := Lib.hid (QQ.out.below hb9 QQ.out.lt)
          clear RA yk yt hb9 BBa QQ T0a T1a T2a T3a T4a
          have y1 : w9.cell? ⟨Q, 1, none⟩ = some (.int .i64 0) := (QQb.out.cell 1).trans e1
          have y2 : w9.cell? ⟨Q, 2, none⟩ = some (.int .i64 0) := (QQb.out.cell 2).trans e2
          have KS := Lib.hid (sailNil 0 0 (N9 + 1) F11 N9 w9 T4b.out)
          go_wp2_with fail
          (with_reducible refine (KS.out).mono ?_)
          rintro e v3 ⟨rfl, hb⟩
          have T0c := Lib.hid (T0b.out.below hb T0b.out.lt)
          have T1c := Lib.hid (T1b.out.below hb T1b.out.lt)
          have T2c := Lib.hid (T2b.out.below hb T2b.out.lt)
          have T3c := Lib.hid (T3b.out.below hb T3b.out.lt)
          have T4c := Lib.hid (T4b.out.below hb T4b.out.lt)
          have BBc := Lib.hid (BBb.out.trans (hb.mono BBb.out.size))
          have QQc := Lib.hid (QQb.out.below hb QQb.out.lt)
          clear hb T0b T1b T2b T3b T4b BBb QQb y1 y2 KS
          have y1 : v3.cell? ⟨Q, 1, none⟩ = some (.int .i64 0) := (QQc.out.cell 1).trans e1
          have y2 : v3.cell? ⟨Q, 2, none⟩ = some (.int .i64 0) := (QQc.out.cell 2).trans e2
          have z : ∀ i, v3.cell? ⟨F11, i, none⟩ = (#[.int .i64 0, .int .i64 0] : Array Value)[i]? := fun i => T3c.out.cell i
          have fz : ∀ i, v3.frozen? ⟨F11, i, none⟩ = false := fun i => T3c.out.frozen i
          have hQs : Q ≠ F11 := T3c.out.ne_rec QQc.out
          go_upto_region 25 with fail
          have T3d := Lib.hid (show Blk _ F11 23 #[.int .i64 0, .int .i64 0] from (T3c.out.set_ 0 (.int .i64 0)).set_ 1 (.int .i64 0))
          have T0d := Lib.hid ((T0c.out.far (p := ⟨F11, 0, none⟩) (by simp; omega) (.int .i64 0)).far (p := ⟨F11, 1, none⟩) (by simp; omega) (.int .i64 0))
          have T1d := Lib.hid ((T1c.out.far (p := ⟨F11, 0, none⟩) (by simp; omega) (.int .i64 0)).far (p := ⟨F11, 1, none⟩) (by simp; omega) (.int .i64 0))
          have T2d := Lib.hid ((T2c.out.far (p := ⟨F11, 0, none⟩) (by simp; omega) (.int .i64 0)).far (p := ⟨F11, 1, none⟩) (by simp; omega) (.int .i64 0))
          have T4d := Lib.hid ((T4c.out.far (p := ⟨F11, 0, none⟩) (by simp; omega) (.int .i64 0)).far (p := ⟨F11, 1, none⟩) (by simp; omega) (.int .i64 0))
          have QQd := Lib.hid ((QQc.out.far (p := ⟨F11, 0, none⟩) hQs (.int .i64 0)).far (p := ⟨F11, 1, none⟩) hQs (.int .i64 0))
          have BBd := Lib.hid ((BBc.out.setCell (p := ⟨F11, 0, none⟩) (by simp; omega) (.int .i64 0)).setCell (p := ⟨F11, 1, none⟩) (by simp; omega) (.int .i64 0))
          clear T0c T1c T2c T3c T4c BBc QQc y1 y2 z fz
          generalize (v3.setCell ⟨F11, 0, none⟩ (.int .i64 0)).setCell ⟨F11, 1, none⟩ (.int .i64 0) = v4 at *
          have y7 : v4.cell? ⟨Q, 7, none⟩ = some (.int .i64 0) := (QQd.out.cell 7).trans m7
          have y8 : v4.cell? ⟨Q, 8, none⟩ = some (.int .i64 0) := (QQd.out.cell 8).trans m8
          have y9 : v4.cell? ⟨Q, 9, none⟩ = some (.int .i64 10000) := (QQd.out.cell 9).trans m9
          have y10 : v4.cell? ⟨Q, 10, none⟩ = some (.int .i64 10000) := (QQd.out.cell 10).trans m10
          go_upto_region 26 with fail
          have T0e := Lib.hid (T0d.out.alloc (.cells #[.int .i64 0, .int .i64 0, .int .i64 10000, .int .i64 10000] 28))
          have T1e := Lib.hid (T1d.out.alloc (.cells #[.int .i64 0, .int .i64 0, .int .i64 10000, .int .i64 10000] 28))
          have T2e := Lib.hid (T2d.out.alloc (.cells #[.int .i64 0, .int .i64 0, .int .i64 10000, .int .i64 10000] 28))
          have T3e := Lib.hid (T3d.out.alloc (.cells #[.int .i64 0, .int .i64 0, .int .i64 10000, .int .i64 10000] 28))
          have T4e := Lib.hid (T4d.out.alloc (.cells #[.int .i64 0, .int .i64 0, .int .i64 10000, .int .i64 10000] 28))
          have MM := Lib.hid (Blk.new v4 28 #[.int .i64 0, .int .i64 0, .int .i64 10000, .int .i64 10000])
          have BBe := Lib.hid (BBd.out.trans ((bl_alloc v4 (.cells #[.int .i64 0, .int .i64 0, .int .i64 10000, .int .i64 10000] 28)).mono BBd.out.size))
          have hzm : F11 < v4.heap.size := T3d.out.lt
          clear T0d T1d T2d T3d T4d BBd QQd y7 y8 y9 y10
          generalize v4.alloc (.cells #[.int .i64 0, .int .i64 0, .int .i64 10000, .int .i64 10000] 28) = v5 at *
          have y0 : v5.cell? ⟨N9 + 1, 0, none⟩ = some (.pointer none) := T4e.out.cell 0
          have f0 := T4e.out.frozen 0
          have hzn := T4e.out.ne_mt MM.out
          go_wp2
          go_roundw
          case rel =>
            refine ⟨_, _, _, _, _, _, _, _, _, _, _, _, _, _, _, _, _, _, _, _, _, _, _, _, _, _, _, _, _, _, _, _, _, _, _, _, _, _, _, _, _, ?_, rfl⟩
            exact ⟨2, _, by omega, by go_num, T0e.out.far (by simp; omega) _, T1e.out.far (by simp; omega) _, T2e.out.far (by simp) _, T3e.out.far (by simp; omega) _, T4e.out.set_ 0 _, fun h => by omega, fun _ => ⟨_, rfl, MM.out.far (by simpa using hzn) _⟩, BBe.out.setCell (by simp; omega) _⟩
          case measure => simp [intOf]
        · obtain ⟨m, rfl, hm⟩ := HM.out rfl
          clear HP HM
          have yt : ∀ i, wr.cell? ⟨w.heap.size, i, none⟩ = (#[.int .i64 3600000, .int .i64 3600000] : Array Value)[i]? := fun i => T0.out.cell i
          have KS := Lib.hid (sailOne (N9 + 1) F11 N9 m wr T4.out hm T3.out T2.out)
          go_wp2_with fail
          (with_reducible refine (KS.out).mono ?_)
          rintro e v3 ⟨rfl, kk, h, c, hG, lh, lh2, hl⟩
          have hz0 := T1.out.lt
          have hzb := BB.out.size
          have hN : w.heap.size + 1 < N9 := hzp
          have P4 := Lib.hid (T1.out.adk kk (by omega)).drew
          have bb := AdK.below BB.out kk hzb (by omega) (fun j hj => by simp [Value.ownBlock] at hj)
          have bd := Lib.hid (bl_drew bb)
          have LQ := Lib.hid (LL.out.below bb LL.out.lt).drew
          have LN := Lib.hid hG.drew
          have QP3 := Lib.hid (show v3.drew.cell? ⟨g0, 3, none⟩ = some (.int .i64 3000000) from ((H1.out.below (bl_drew bb) hg) 3 (by omega)).trans p3)
          have QP4 := Lib.hid (show v3.drew.cell? ⟨g0, 4, none⟩ = some (.int .i64 3000000) from ((H1.out.below (bl_drew bb) hg) 4 (by omega)).trans p4)
          have QP5 := Lib.hid (show v3.drew.cell? ⟨g0, 5, none⟩ = some (.int .i64 0) from ((H1.out.below (bl_drew bb) hg) 5 (by omega)).trans p5)
          have QP6 := Lib.hid (show v3.drew.cell? ⟨g0, 6, none⟩ = some (.int .i64 0) from ((H1.out.below (bl_drew bb) hg) 6 (by omega)).trans p6)
          have hlW : ∀ j : Nat, j < 4 → v3.drew.cell? ⟨h, j, none⟩ = (#[.int .i64 0, .int .i64 0, .int .i64 10000, .int .i64 10000] : Array Value)[j]? := hl
          have hgW : g0 < v3.drew.heap.size := Nat.lt_of_lt_of_le hg bd.out.size
          have hhW : h < v3.drew.heap.size := lh2
          clear T0 T1 T2 T3 T4 BB yt KS kk hG lh lh2 hl bb hm
          go_upto_region 31 with fail
          obtain ⟨W, hW⟩ : ∃ W, v3.drew = W := ⟨_, rfl⟩
          rw [hW] at P4 bd LQ LN QP3 QP4 QP5 QP6 hlW hgW hhW
          have HW := Lib.hid hW
          clear hW
          have HLW := Lib.hid hlW
          clear hlW
          refine wp_region_inv3 (by kernel_rfl) (RkI W l g0 n0 h c (w.heap.size + 1)) (waits_bind (by kernel_rfl)) ?start ?step ?fin
          case start => rw [HW.out]; exact RkI.start _ _ _ _ _ _ _ _
          case step =>
            rintro M i o a1' w' ho hL haf ⟨v108, v109, v110, v111, v112, v113, v114, v115, v116, v117, v118, v119, v5, rfl, hB, hS, d1, d2, d3, d5, d6, d7, d9, d10, d11, d12, d13, e0, e1, e2, e3, e4, e5, e6, e7, e8, e9, e10, e11, e13⟩
            have HB := Lib.hid hB
            have HS := Lib.hid hS
            have D1 := Lib.hid d1
            have D2 := Lib.hid d2
            have D3 := Lib.hid d3
            have D5 := Lib.hid d5
            have D6 := Lib.hid d6
            have D7 := Lib.hid d7
            have D9 := Lib.hid d9
            have D10 := Lib.hid d10
            have D11 := Lib.hid d11
            have D12 := Lib.hid d12
            have D13 := Lib.hid d13
            have E0 := Lib.hid e0
            have E1 := Lib.hid e1
            have E2 := Lib.hid e2
            have E3 := Lib.hid e3
            have E4 := Lib.hid e4
            have E5 := Lib.hid e5
            have E6 := Lib.hid e6
            have E7 := Lib.hid e7
            have E8 := Lib.hid e8
            have E9 := Lib.hid e9
            have E10 := Lib.hid e10
            have E11 := Lib.hid e11
            have E13 := Lib.hid e13
            clear hB hS d1 d2 d3 d5 d6 d7 d9 d10 d11 d12 d13 e0 e1 e2 e3 e4 e5 e6 e7 e8 e9 e10 e11 e13
            rcases i with _ | _ | _ | _ | _ | _ | _ | _ | _ | _ | _ | _ | _ | _ | i
            all_goals (simp at ho; try subst ho)
            all_goals (try simp [Region.binds] at haf)
            · go_wp2
              unfold RkI
              exact ⟨(.pointer (some ⟨l, 0, none⟩)), v109, v110, v111, v112, v113, v114, v115, v116, v117, v118, v119, v5, pu_, kn HB, kp HS, dk1 D1 (by decide), dk1 D2 (by decide), dk1 D3 (by decide), dk2 D5 (by decide), dk1 D6 (by decide), dk1 D7 (by decide), dk2 D9 (by decide), dk1 D10 (by decide), dk1 D11 (by decide), dk1 D12 (by decide), dk1 D13 (by decide), fun _ => rfl, kq E1, kq E2, kq E3, kq E4, kq E5, kq E6, kq E7, kq E8, kq E9, kq E10, kq E11, kq E13⟩
            · obtain rfl := (E0.out (by simp [haf])).symm
              go_wp2
              unfold RkI
              exact ⟨(.pointer (some ⟨l, 0, none⟩)), (.pointer (some ⟨l, 0, none⟩)), v110, v111, v112, v113, v114, v115, v116, v117, v118, v119, v5, pu_, kn HB, kp HS, fun _ => by simp [mkd, haf], dk1 D2 (by decide), dk1 D3 (by decide), dk2 D5 (by decide), dk1 D6 (by decide), dk1 D7 (by decide), dk2 D9 (by decide), dk1 D10 (by decide), dk1 D11 (by decide), dk1 D12 (by decide), dk1 D13 (by decide), fun _ => rfl, fun _ => rfl, kq E2, kq E3, kq E4, kq E5, kq E6, kq E7, kq E8, kq E9, kq E10, kq E11, kq E13⟩
            · obtain rfl := (E1.out (by simp [haf])).symm
              go_wp2
              unfold RkI
              exact ⟨v108, (.pointer (some ⟨l, 0, none⟩)), (.pointer (some ⟨l, 3, none⟩)), v111, v112, v113, v114, v115, v116, v117, v118, v119, v5, pu_, kn HB, kp HS, dk1 D1 (by decide), fun _ => by simp [mkd, haf], dk1 D3 (by decide), dk2 D5 (by decide), dk1 D6 (by decide), dk1 D7 (by decide), dk2 D9 (by decide), dk1 D10 (by decide), dk1 D11 (by decide), dk1 D12 (by decide), dk1 D13 (by decide), kq E0, fun _ => rfl, fun _ => rfl, kq E3, kq E4, kq E5, kq E6, kq E7, kq E8, kq E9, kq E10, kq E11, kq E13⟩
            · obtain rfl := (E2.out (by simp [haf])).symm
              have n12 : M 12 = false := by cases h8 : M 12 with | false => rfl | true => exact absurd ((D5.out (D6.out (D7.out (D9.out (D10.out (D12.out h8))).1))).1) (by simp [hL])
              have hB := HB.out n12
              have y0 : w'.cell? ⟨l, 3, none⟩ = some (.slice (some ⟨g0, 0, none⟩) 2 n0) := (hB.cell (p := ⟨l, 3, none⟩) LQ.out.lt).trans (LQ.out.cell 3)
              go_wp2
              unfold RkI
              exact ⟨v108, v109, (.pointer (some ⟨l, 3, none⟩)), (.slice (some ⟨g0, 0, none⟩) 2 n0), v112, v113, v114, v115, v116, v117, v118, v119, v5, pu_, kn HB, kp HS, dk1 D1 (by decide), dk1 D2 (by decide), fun _ => by simp [mkd, haf], dk2 D5 (by decide), dk1 D6 (by decide), dk1 D7 (by decide), dk2 D9 (by decide), dk1 D10 (by decide), dk1 D11 (by decide), dk1 D12 (by decide), dk1 D13 (by decide), kq E0, kq E1, fun _ => rfl, fun _ => rfl, kq E4, kq E5, kq E6, kq E7, kq E8, kq E9, kq E10, kq E11, kq E13⟩
            · go_wp2
              unfold RkI
              exact ⟨v108, v109, v110, v111, (.int .i64 0), v113, v114, v115, v116, v117, v118, v119, v5, pu_, kn HB, kp HS, dk1 D1 (by decide), dk1 D2 (by decide), dk1 D3 (by decide), dk2 D5 (by decide), dk1 D6 (by decide), dk1 D7 (by decide), dk2 D9 (by decide), dk1 D10 (by decide), dk1 D11 (by decide), dk1 D12 (by decide), dk1 D13 (by decide), kq E0, kq E1, kq E2, kq E3, fun _ => rfl, kq E5, kq E6, kq E7, kq E8, kq E9, kq E10, kq E11, kq E13⟩
            · obtain rfl := (E3.out (by simp [haf])).symm
              obtain rfl := (E4.out (by simp [haf])).symm
              go_wp2
              unfold RkI
              exact ⟨v108, v109, v110, (.slice (some ⟨g0, 0, none⟩) 2 n0), (.int .i64 0), (.pointer (some ⟨g0, 0, none⟩)), v114, v115, v116, v117, v118, v119, v5, pu_, kn HB, kp HS, dk1 D1 (by decide), dk1 D2 (by decide), dk1 D3 (by decide), fun _ => by simp [mkd, haf], dk1 D6 (by decide), dk1 D7 (by decide), dk2 D9 (by decide), dk1 D10 (by decide), dk1 D11 (by decide), dk1 D12 (by decide), dk1 D13 (by decide), kq E0, kq E1, kq E2, fun _ => rfl, fun _ => rfl, fun _ => rfl, kq E6, kq E7, kq E8, kq E9, kq E10, kq E11, kq E13⟩
            · obtain rfl := (E5.out (by simp [haf])).symm
              go_wp2
              unfold RkI
              exact ⟨v108, v109, v110, v111, v112, (.pointer (some ⟨g0, 0, none⟩)), (.pointer (some ⟨g0, 3, none⟩)), v115, v116, v117, v118, v119, v5, pu_, kn HB, kp HS, dk1 D1 (by decide), dk1 D2 (by decide), dk1 D3 (by decide), dk2 D5 (by decide), fun _ => by simp [mkd, haf], dk1 D7 (by decide), dk2 D9 (by decide), dk1 D10 (by decide), dk1 D11 (by decide), dk1 D12 (by decide), dk1 D13 (by decide), kq E0, kq E1, kq E2, kq E3, kq E4, fun _ => rfl, fun _ => rfl, kq E7, kq E8, kq E9, kq E10, kq E11, kq E13⟩
            · obtain rfl := (E6.out (by simp [haf])).symm
              have n12 : M 12 = false := by cases h8 : M 12 with | false => rfl | true => exact absurd ((D9.out (D10.out (D12.out h8))).1) (by simp [hL])
              have hB := HB.out n12
              have y0 : w'.cell? ⟨g0, 3, none⟩ = some (.int .i64 3000000) := (hB.cell (p := ⟨g0, 3, none⟩) hgW).trans (QP3.out)
              have y1 : w'.cell? ⟨g0, 4, none⟩ = some (.int .i64 3000000) := (hB.cell (p := ⟨g0, 4, none⟩) hgW).trans (QP4.out)
              have y2 : w'.cell? ⟨g0, 5, none⟩ = some (.int .i64 0) := (hB.cell (p := ⟨g0, 5, none⟩) hgW).trans (QP5.out)
              have y3 : w'.cell? ⟨g0, 6, none⟩ = some (.int .i64 0) := (hB.cell (p := ⟨g0, 6, none⟩) hgW).trans (QP6.out)
              go_wp2
              unfold RkI
              exact ⟨v108, v109, v110, v111, v112, v113, (.pointer (some ⟨g0, 3, none⟩)), (.agg #[.int .i64 3000000, .int .i64 3000000, .int .i64 0, .int .i64 0]), v116, v117, v118, v119, v5, pu_, kn HB, kp HS, dk1 D1 (by decide), dk1 D2 (by decide), dk1 D3 (by decide), dk2 D5 (by decide), dk1 D6 (by decide), fun _ => by simp [mkd, haf], dk2 D9 (by decide), dk1 D10 (by decide), dk1 D11 (by decide), dk1 D12 (by decide), dk1 D13 (by decide), kq E0, kq E1, kq E2, kq E3, kq E4, kq E5, fun _ => rfl, fun _ => rfl, kq E8, kq E9, kq E10, kq E11, kq E13⟩
            · have n12 : M 12 = false := by cases h8 : M 12 with | false => rfl | true => exact absurd ((D9.out (D10.out (D12.out h8))).2) (by simp [hL])
              have hB := HB.out n12
              have y0 : w'.cell? ⟨N9, 0, none⟩ = some (.slice (some ⟨h, 0, none⟩) 1 c) := (hB.cell (p := ⟨N9, 0, none⟩) LN.out.lt).trans (LN.out.cell 0)
              go_wp2
              unfold RkI
              exact ⟨v108, v109, v110, v111, v112, v113, v114, v115, (.slice (some ⟨h, 0, none⟩) 1 c), v117, v118, v119, v5, pu_, kn HB, kp HS, dk1 D1 (by decide), dk1 D2 (by decide), dk1 D3 (by decide), dk2 D5 (by decide), dk1 D6 (by decide), dk1 D7 (by decide), dk2 D9 (by decide), dk1 D10 (by decide), dk1 D11 (by decide), dk1 D12 (by decide), dk1 D13 (by decide), kq E0, kq E1, kq E2, kq E3, kq E4, kq E5, kq E6, kq E7, fun _ => rfl, kq E9, kq E10, kq E11, kq E13⟩
            · obtain rfl := (E7.out (by simp [haf])).symm
              obtain rfl := (E8.out (by simp [haf])).symm
              have n12 : M 12 = false := by cases h8 : M 12 with | false => rfl | true => exact absurd ((D10.out (D12.out h8))) (by simp [hL])
              have hB := HB.out n12
              have KR := Lib.hid (Run_north h c w' (Nat.lt_of_lt_of_le hhW hB.size) (fun j hj => (hB.cell (p := ⟨h, j, none⟩) hhW).trans (HLW.out j hj)))
              go_wp2_with fail
              (with_reducible refine (KR.out).mono ?_)
              rintro e9 w9 ⟨rfl, hb9⟩
              go_wp2
              unfold RkI
              exact ⟨v108, v109, v110, v111, v112, v113, v114, (.agg #[.int .i64 3000000, .int .i64 3000000, .int .i64 0, .int .i64 0]), (.slice (some ⟨h, 0, none⟩) 1 c), (.tuple #[.agg #[.int .i64 3010000, .int .i64 3010000, .int .i64 0, .int .i64 0], .int .i64 0]), v118, v119, v5, pu_, fun _ => hB.trans (hb9.mono hB.size), fun h => absurd h (by simp [mkd, n12]), dk1 D1 (by decide), dk1 D2 (by decide), dk1 D3 (by decide), dk2 D5 (by decide), dk1 D6 (by decide), dk1 D7 (by decide), fun _ => by simp [mkd, haf], dk1 D10 (by decide), dk1 D11 (by decide), dk1 D12 (by decide), dk1 D13 (by decide), kq E0, kq E1, kq E2, kq E3, kq E4, kq E5, kq E6, fun _ => rfl, fun _ => rfl, fun _ => rfl, kq E10, kq E11, kq E13⟩
            · obtain rfl := (E9.out (by simp [haf])).symm
              go_wp2
              unfold RkI
              exact ⟨v108, v109, v110, v111, v112, v113, v114, v115, v116, (.tuple #[.agg #[.int .i64 3010000, .int .i64 3010000, .int .i64 0, .int .i64 0], .int .i64 0]), (.agg #[.int .i64 3010000, .int .i64 3010000, .int .i64 0, .int .i64 0]), v119, v5, pu_, kn HB, kp HS, dk1 D1 (by decide), dk1 D2 (by decide), dk1 D3 (by decide), dk2 D5 (by decide), dk1 D6 (by decide), dk1 D7 (by decide), dk2 D9 (by decide), fun _ => by simp [mkd, haf], dk1 D11 (by decide), dk1 D12 (by decide), dk1 D13 (by decide), kq E0, kq E1, kq E2, kq E3, kq E4, kq E5, kq E6, kq E7, kq E8, fun _ => rfl, fun _ => rfl, kq E11, kq E13⟩
            · obtain rfl := (E9.out (by simp [haf])).symm
              go_wp2
              unfold RkI
              exact ⟨v108, v109, v110, v111, v112, v113, v114, v115, v116, (.tuple #[.agg #[.int .i64 3010000, .int .i64 3010000, .int .i64 0, .int .i64 0], .int .i64 0]), v118, (.int .i64 0), v5, pu_, kn HB, kp HS, dk1 D1 (by decide), dk1 D2 (by decide), dk1 D3 (by decide), dk2 D5 (by decide), dk1 D6 (by decide), dk1 D7 (by decide), dk2 D9 (by decide), dk1 D10 (by decide), fun _ => by simp [mkd, haf], dk1 D12 (by decide), dk1 D13 (by decide), kq E0, kq E1, kq E2, kq E3, kq E4, kq E5, kq E6, kq E7, kq E8, fun _ => rfl, kq E10, fun _ => rfl, kq E13⟩
            · obtain rfl := (E10.out (by simp [haf])).symm
              have hB := HB.out hL
              have P9 := P4.out.below hB P4.out.lt
              have y0 := P9.cell 0
              have y1 := P9.cell 1
              have y2 := P9.cell 2
              have y3 := P9.cell 3
              have f0 := P9.frozen 0
              have f1 := P9.frozen 1
              have f2 := P9.frozen 2
              have f3 := P9.frozen 3
              simp only [List.getElem?_toArray, List.getElem?_cons_succ, List.getElem?_cons_zero] at y0 y1 y2 y3
              go_wp2
              unfold RkI
              exact ⟨v108, v109, v110, v111, v112, v113, v114, v115, v116, v117, (.agg #[.int .i64 3010000, .int .i64 3010000, .int .i64 0, .int .i64 0]), v119, v5, pu_, fun h => absurd h (by simp [mkd]), fun _ => ⟨_, hB, rfl⟩, dk1 D1 (by decide), dk1 D2 (by decide), dk1 D3 (by decide), dk2 D5 (by decide), dk1 D6 (by decide), dk1 D7 (by decide), dk2 D9 (by decide), dk1 D10 (by decide), dk1 D11 (by decide), fun _ => by simp [mkd, haf], dk1 D13 (by decide), kq E0, kq E1, kq E2, kq E3, kq E4, kq E5, kq E6, kq E7, kq E8, kq E9, fun _ => rfl, kq E11, kq E13⟩
            · obtain rfl := (E11.out (by simp [haf])).symm
              go_wp2
              unfold RkI
              exact ⟨v108, v109, v110, v111, v112, v113, v114, v115, v116, v117, v118, (.int .i64 0), (.int .i64 0), pu_, kn HB, kp HS, dk1 D1 (by decide), dk1 D2 (by decide), dk1 D3 (by decide), dk2 D5 (by decide), dk1 D6 (by decide), dk1 D7 (by decide), dk2 D9 (by decide), dk1 D10 (by decide), dk1 D11 (by decide), dk1 D12 (by decide), fun _ => by simp [mkd, haf], kq E0, kq E1, kq E2, kq E3, kq E4, kq E5, kq E6, kq E7, kq E8, kq E9, kq E10, fun _ => rfl, fun _ => rfl⟩
          case fin =>
            rintro M a1' w' hall ⟨v108, v109, v110, v111, v112, v113, v114, v115, v116, v117, v118, v119, v5, rfl, hB, hS, d1, d2, d3, d5, d6, d7, d9, d10, d11, d12, d13, e0, e1, e2, e3, e4, e5, e6, e7, e8, e9, e10, e11, e13⟩
            obtain ⟨w9, hB9, rfl⟩ := hS (hall 12 (by simp))
            obtain rfl := e13 (hall 13 (by simp))
            have PZ := (((P4.out.below hB9 P4.out.lt).set_ 0 (.int .i64 3010000)).set_ 1 (.int .i64 3010000)).set_ 2 (.int .i64 0) |>.set_ 3 (.int .i64 0)
            have bz := bl_set4 (u0 := .int .i64 3010000) (u1 := .int .i64 3010000) (u2 := .int .i64 0) (u3 := .int .i64 0) (bd.out.trans (hB9.mono bd.out.size)) (show w.heap.size ≤ w.heap.size + 1 by omega)
            clear d1 d2 d3 d5 d6 d7 d9 d10 d11 d12 d13 e0 e1 e2 e3 e4 e5 e6 e7 e8 e9 e10 e11 e13 hall hB hS
            simp only [Act.put, List.setIfInBounds_toArray, List.set_cons_zero, List.set_cons_succ]
            have PY := Lib.hid (show Blk (((((w9.setCell ⟨w.heap.size + 1, 0, none⟩ (.int .i64 3010000)).setCell ⟨w.heap.size + 1, 1, none⟩ (.int .i64 3010000)).setCell ⟨w.heap.size + 1, 2, none⟩ (.int .i64 0)).setCell ⟨w.heap.size + 1, 3, none⟩ (.int .i64 0))) (w.heap.size + 1) 26 #[.int .i64 3010000, .int .i64 3010000, .int .i64 0, .int .i64 0] from PZ)
            have BZ := Lib.hid bz
            clear PZ bz hB9
            generalize ((((w9.setCell ⟨w.heap.size + 1, 0, none⟩ (.int .i64 3010000)).setCell ⟨w.heap.size + 1, 1, none⟩ (.int .i64 3010000)).setCell ⟨w.heap.size + 1, 2, none⟩ (.int .i64 0)).setCell ⟨w.heap.size + 1, 3, none⟩ (.int .i64 0)) = wz at *
            have yp : ∀ i, wz.cell? ⟨w.heap.size + 1, i, none⟩ = (#[.int .i64 3010000, .int .i64 3010000, .int .i64 0, .int .i64 0] : Array Value)[i]? := fun i => PY.out.cell i
            go_wp2
            refine bodyPost_ret (v := .tuple #[.agg #[.int .i64 3010000, .int .i64 3010000, .int .i64 0, .int .i64 0], .int .i64 0]) (by simp [results, Tryz.results14, go_sem, *]; done) rfl ⟨rfl, BZ.out⟩
end Go.Proofs.YthfndnmfnijpeaaGreat
