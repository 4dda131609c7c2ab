/- The last step of a row where the call left nothing changed that was there. -/
import Derived.Test.YthfndnmfnijpeaaGreatRows
import Derived.Below
import Derived.ProofKit
import Derived.Lib.SmallJoins
import Derived.Test.YthfndnmfnijpeaaGreatHMk
set_option linter.unusedVariables false
set_option linter.unusedSimpArgs false
namespace Go.Proofs.YthfndnmfnijpeaaGreat
open Go.RowKit Go.Shelf
open LB (Bs Rec)
theorem BytesAt.up {w : World} {B B' : Nat} {A : Option Addr} {l : Bs} (h : BytesAt w B A l) (hB : B ≤ B') : BytesAt w B' A l := by
  rcases h with h | ⟨b, off, e, hlt, hc⟩
  · exact .inl h
  · exact .inr ⟨b, off, e, Nat.lt_of_lt_of_le hlt hB, hc⟩
theorem enc_len {r : Rec} (h : vaB r = true) : (LB.enc r).length ≤ 1000 := by
  have h1 := va_body h
  have h2 := va_list h
  have h3 := va_text h
  unfold LB.enc
  split
  · simp [LB.str, LB.siz, LB.nums_length, LB.sightL]; omega
  · split
    · split <;> simp [LB.siz, LB.nums_length] <;> omega
    · split
      · split <;> simp [LB.siz, LB.nums_length] <;> omega
      · split
        · split <;> simp [LB.str, LB.siz, LB.nums_length] <;> omega
        · split <;> simp [LB.siz, LB.nums_length] <;> omega
/-- what the law is handed -/
structure Arg (r : Rec) (A : Option Addr) (n c : Nat) (b : Bs) (A2 : Option Addr) (n2 c2 : Nat) (w : World) : Prop where
  hA : IntsAt w A r.list
  hn : r.list.length = n
  hc : n ≤ c
  hcm : c ≤ maxLen
  hbo : r.body.length ≤ maxLen
  hte : r.text.length ≤ maxLen
  hB : BytesAt w w.heap.size A2 b
  hn2 : b.length = n2
  hc2 : n2 ≤ c2
  hcm2 : c2 ≤ maxLen
  hI : ∀ x ∈ numL r, LB.I64 x
  hIl : ∀ x ∈ r.list, LB.I64 x
theorem Arg.small {r : Rec} {A : Option Addr} {n c : Nat} {b : Bs} {A2 : Option Addr} {n2 c2 : Nat} {w : World} (h : Arg r A n c b A2 n2 c2 w) (W : World) :
    Calls Tryz.prog 5 #[recV r (.slice A n c)] W fun e w' => e = .returned (.bool (decide (r.text.length ≤ 505 ∧ n ≤ 45 ∧ r.body.length ≤ 100))) ∧ Below W.heap.size W w' :=
  small_any r A n c W (by have := h.hbo; simpa [maxLen] using this) (by have := h.hte; simpa [maxLen] using this) (by have h1 := h.hc; have h2 := h.hcm; simp [maxLen] at h2; omega)
theorem copy_vals (r : Rec) (A : Option Addr) (n c : Nat) : (recC r (.slice A n c)).size = 24 ∧ (recC r (.slice A n c)).all (·.oneCell') = true ∧ recV r (.slice A n c) = .agg (recC r (.slice A n c)) := ⟨rfl, by simp [txb, Value.oneCell'], rfl⟩
set_option maxHeartbeats 8000000 in
set_option maxRecDepth 100000 in
theorem back_big (r : Rec) (A : Option Addr) (n c : Nat) (b : Bs) (A2 : Option Addr) (n2 c2 : Nat) (w : World) (h : Arg r A n c b A2 n2 c2 w) (hs : decide (r.text.length ≤ 505 ∧ n ≤ 45 ∧ r.body.length ≤ 100) = false) :
    Calls Tryz.prog 3 #[recV r (.slice A n c), .slice A2 n2 c2] w fun e w' => e = .returned (.bool true) ∧ Below w.heap.size w w' := by
  have KA := Lib.hid awake_yes
  have KS := Lib.hid h.small
  rw [hs] at KS
  obtain ⟨hz0, hall0, hrv0⟩ := copy_vals r A n c
  rw [hrv0] at KS ⊢
  clear hall0
  generalize recC r (.slice A n c) = c0 at *
  have G0 := Lib.hid (Blk.new w 33 c0)
  have b0 := Lib.hid (bl_alloc w (.cells c0 33))
  go_enter Tryz.func3, Tryz.ntmps3
  go_upto_region 1 with fail
  generalize w.alloc (.cells c0 33) = w0 at *
  go_upto_region 3 with (go_at_call 4; (with_reducible refine (KA.out _).mono ?_); rintro e w1 ⟨rfl, hb1⟩)
  have G1 := Lib.hid (G0.out.below hb1 G0.out.lt)
  have b1 := Lib.hid (b0.out.trans (hb1.mono b0.out.size))
  clear hb1 G0 b0 KA
  repeat ((fail_if_success (refine wp_load_rec (.tmp 2) rfl rfl G1.out hz0 ?_)); (first | go_values | go_skip | go_guarded | go_step))
  refine wp_load_rec (.tmp 2) rfl rfl G1.out hz0 ?_
  simp only [Act.put, List.setIfInBounds_toArray, List.set_cons_zero, List.set_cons_succ]
  go_wp2_with (go_at_call 5; (with_reducible refine (KS.out _).mono ?_); rintro e w2 ⟨rfl, hb2⟩)
  go_ret
  exact ⟨rfl, b1.out.trans (hb2.mono b1.out.size)⟩
set_option maxHeartbeats 8000000 in
set_option maxRecDepth 100000 in
theorem back_long (r : Rec) (A : Option Addr) (n c : Nat) (b : Bs) (A2 : Option Addr) (n2 c2 : Nat) (w : World) (h : Arg r A n c b A2 n2 c2 w) (hs : decide (r.text.length ≤ 505 ∧ n ≤ 45 ∧ r.body.length ≤ 100) = true) (hl : 1000 < n2) :
    Calls Tryz.prog 3 #[recV r (.slice A n c), .slice A2 n2 c2] w fun e w' => e = .returned (.bool true) ∧ Below w.heap.size w w' := by
  have dl : decide ((1000 : Int) < (n2 : Int)) = true := decide_eq_true (by omega)
  have KA := Lib.hid awake_yes
  have KS := Lib.hid h.small
  rw [hs] at KS
  obtain ⟨hz0, hall0, hrv0⟩ := copy_vals r A n c
  rw [hrv0] at KS ⊢
  clear hall0
  generalize recC r (.slice A n c) = c0 at *
  have G0 := Lib.hid (Blk.new w 33 c0)
  have b0 := Lib.hid (bl_alloc w (.cells c0 33))
  go_enter Tryz.func3, Tryz.ntmps3
  go_upto_region 1 with fail
  generalize w.alloc (.cells c0 33) = w0 at *
  go_upto_region 3 with (go_at_call 4; (with_reducible refine (KA.out _).mono ?_); rintro e w1 ⟨rfl, hb1⟩)
  have G1 := Lib.hid (G0.out.below hb1 G0.out.lt)
  have b1 := Lib.hid (b0.out.trans (hb1.mono b0.out.size))
  clear hb1 G0 b0 KA
  repeat ((fail_if_success (refine wp_load_rec (.tmp 2) rfl rfl G1.out hz0 ?_)); (first | go_values | go_skip | go_guarded | go_step))
  refine wp_load_rec (.tmp 2) rfl rfl G1.out hz0 ?_
  simp only [Act.put, List.setIfInBounds_toArray, List.set_cons_zero, List.set_cons_succ]
  go_wp2_with (go_at_call 5; (with_reducible refine (KS.out _).mono ?_); rintro e w2 ⟨rfl, hb2⟩)
  go_ret
  exact ⟨rfl, b1.out.trans (hb2.mono b1.out.size)⟩
set_option maxHeartbeats 8000000 in
set_option maxRecDepth 100000 in
theorem back_11 (r : Rec) (A : Option Addr) (n c : Nat) (b : Bs) (A2 : Option Addr) (n2 c2 : Nat) (w : World) (h : Arg r A n c b A2 n2 c2 w) (hs : decide (r.text.length ≤ 505 ∧ n ≤ 45 ∧ r.body.length ≤ 100) = true) (hl : n2 ≤ 1000) (he : (LB.dec vaB b).2 = 0) (hv : vaB r = true) :
    Calls Tryz.prog 3 #[recV r (.slice A n c), .slice A2 n2 c2] w fun e w' => e = .returned (.bool true) ∧ Below w.heap.size w w' := by
  have dl : decide ((1000 : Int) < (n2 : Int)) = false := decide_eq_false (by omega)
  obtain ⟨hsT, hsN, hsB⟩ := of_decide_eq_true hs
  have KD := Lib.hid (fun (W : World) (hb : Below w.heap.size w W) => Decode_any b A2 n2 c2 W ((h.hB.bl hb).up hb.size) h.hn2 h.hc2 h.hcm2 hl)
  have HB := Lib.hid (fun (W : World) (hb : Below w.heap.size w W) => (h.hB.bl hb).up hb.size)
  have HA := Lib.hid (fun (W : World) (hb : Below w.heap.size w W) => h.hA.bl hb)
  have hn2 := h.hn2
  have hln := h.hn
  have KE := Lib.hid (fun (W : World) (hb : Below w.heap.size w W) => Encode_any r A n c W (h.hA.bl hb) h.hn (by omega) h.hc h.hcm (by omega) (by omega) h.hI h.hIl)
  have KV := Lib.hid (fun (W : World) (hb : Below w.heap.size w W) => valid_any r A n c W (h.hA.bl hb) h.hn (by omega) h.hc h.hcm (by omega) (by omega))
  have hI := h.hI
  have hIl := h.hIl
  have KA := Lib.hid awake_yes
  have KS := Lib.hid h.small
  rw [hs] at KS
  obtain ⟨hz0, hall0, hrv0⟩ := copy_vals r A n c
  rw [hrv0] at KS KE KV ⊢
  clear hall0
  obtain ⟨c0, hc0⟩ : ∃ cs, recC r (.slice A n c) = cs := ⟨_, rfl⟩
  rw [hc0] at hz0 hrv0 KS KE KV ⊢
  have G0 := Lib.hid (Blk.new w 33 c0)
  have b0 := Lib.hid (bl_alloc w (.cells c0 33))
  go_enter Tryz.func3, Tryz.ntmps3
  go_upto_region 1 with fail
  generalize w.alloc (.cells c0 33) = w0 at *
  go_upto_region 3 with (go_at_call 4; (with_reducible refine (KA.out _).mono ?_); rintro e w1 ⟨rfl, hb1⟩)
  have G1 := Lib.hid (G0.out.below hb1 G0.out.lt)
  have b1 := Lib.hid (b0.out.trans (hb1.mono b0.out.size))
  clear hb1 G0 b0 KA
  repeat ((fail_if_success (refine wp_load_rec (.tmp 2) rfl rfl G1.out hz0 ?_)); (first | go_values | go_skip | go_guarded | go_step))
  refine wp_load_rec (.tmp 2) rfl rfl G1.out hz0 ?_
  simp only [Act.put, List.setIfInBounds_toArray, List.set_cons_zero, List.set_cons_succ]
  go_upto_region 5 with (go_at_call 5; (with_reducible refine (KS.out _).mono ?_); rintro e w2 ⟨rfl, hb2⟩)
  have G2 := Lib.hid (G1.out.below hb2 G1.out.lt)
  have b2 := Lib.hid (b1.out.trans (hb2.mono b1.out.size))
  clear hb2 G1 b1 KS
  go_wp2_with fail
  (with_reducible refine (KD.out _ b2.out).mono ?_)
  rintro e w3 ⟨⟨A', n', c', rfl, hX, hXn, hXc, hXm⟩, hb3⟩
  have G3 := Lib.hid (G2.out.below hb3 G2.out.lt)
  have b3 := Lib.hid (b2.out.trans (hb3.mono b2.out.size))
  clear hb3 G2 b2 KD
  obtain ⟨x, hx⟩ : ∃ x, (LB.dec vaB b).1 = x := ⟨_, rfl⟩
  obtain ⟨ee, hee⟩ : ∃ e, (LB.dec vaB b).2 = e := ⟨_, rfl⟩
  rw [hx] at hX hXn
  rw [hx, hee]
  obtain ⟨hzx, hallx, hrvx⟩ := copy_vals x A' n' c'
  have he0 : ee = 0 := by rw [← hee]; exact he
  obtain ⟨hvx, hex⟩ := law_one he
  have hIx := (dec_I64 vaB b).1
  have hIy := (dec_I64 vaB b).2
  rw [hx] at hvx hex hIx hIy
  have hXB := va_body hvx
  have hXT := va_text hvx
  have hXL := va_list hvx
  have KX := Lib.hid (fun (W : World) (hb : Below w3.heap.size w3 W) => Encode_any x A' n' c' W (hX.bl hb) hXn (by omega) hXc hXm (by omega) (by omega) hIx hIy)
  have KY := Lib.hid (fun (W : World) (hb : Below w3.heap.size w3 W) => valid_any x A' n' c' W (hX.bl hb) hXn (by omega) hXc hXm (by omega) (by omega))
  rw [hvx] at KY
  rw [he0]
  clear hIx hIy hXB hXT hXL
  rw [hrvx] at KX KY ⊢
  generalize recC x (.slice A' n' c') = cx at *
  clear hx hee hrvx
  dsimp only
  repeat ((fail_if_success (refine wpList_store_row rfl _ (.tmp 5) (.tmp 26) rfl w3.heap.size cx rfl rfl _ _ (heap_alloc_last _ _) (info24 hzx) (by rw [hzx]; rfl) hallx ?_)); (first | go_values | go_skip | go_guarded | go_step))
  refine wpList_store_row rfl _ (.tmp 5) (.tmp 26) rfl w3.heap.size cx rfl rfl _ _ (heap_alloc_last _ _) (info24 hzx) (by rw [hzx]; rfl) hallx ?_
  rw [World.setRow_alloc_new]
  simp only [Act.put]
  have G4 := Lib.hid (G3.out.alloc (.cells cx 33))
  have b4 := Lib.hid (b3.out.trans ((bl_alloc w3 (.cells cx 33)).mono b3.out.size))
  have X4 := Lib.hid (Blk.new w3 33 cx)
  have d4 := Lib.hid (bl_alloc w3 (.cells cx 33))
  clear G3 b3
  generalize w3.alloc (.cells cx 33) = w4 at *
  go_upto_region 7 with fail
  repeat ((fail_if_success (refine wp_load_rec (.tmp 5) rfl rfl X4.out hzx ?_)); (first | go_values | go_skip | go_guarded | go_step))
  refine wp_load_rec (.tmp 5) rfl rfl X4.out hzx ?_
  simp only [Act.put, List.setIfInBounds_toArray, List.set_cons_zero, List.set_cons_succ]
  go_wp2_with fail
  (with_reducible refine (KX.out _ d4.out).mono ?_)
  rintro e w5 ⟨-, h1, hb5⟩
  obtain ⟨v, rfl, hO⟩ := h1 hvx
  obtain ⟨A6, c6, rfl, hY, hYn, -, -⟩ := bytesAt_own hO
  rw [hex] at hY hYn
  have G5 := Lib.hid (G4.out.below hb5 G4.out.lt)
  have X5 := Lib.hid (X4.out.below hb5 X4.out.lt)
  have b5 := Lib.hid (b4.out.trans (hb5.mono b4.out.size))
  have d5 := Lib.hid (d4.out.trans (hb5.mono d4.out.size))
  have KQ := Lib.hid (bytesEq_any A6 A2 n2 c6 n2 c2 _ _ b b w5 hY (HB.out w5 b5.out) hn2 hn2)
  rw [show decide (b = b) = true from decide_eq_true rfl] at KQ
  clear hb5 h1 hO hY hYn G4 X4 b4 d4 KX
  go_wp2_with fail
  (refine (KQ.out).mono ?_)
  rintro e w6 ⟨rfl, rfl⟩
  dsimp only
  repeat ((fail_if_success (refine wp_load_rec (.tmp 5) rfl rfl X5.out hzx ?_)); (first | go_values | go_skip | go_guarded | go_step))
  refine wp_load_rec (.tmp 5) rfl rfl X5.out hzx ?_
  simp only [Act.put, List.setIfInBounds_toArray, List.set_cons_zero, List.set_cons_succ]
  go_upto_region 10 with (go_at_call 9; (with_reducible refine (KY.out _ d5.out).mono ?_); rintro e w7 ⟨rfl, hb7⟩)
  have G8 := Lib.hid (G5.out.below hb7 G5.out.lt)
  have b8 := Lib.hid (b5.out.trans (hb7.mono b5.out.size))
  clear hb7 G5 X5 b5 d5 KQ KY
  repeat ((fail_if_success (refine wp_load_rec (.tmp 2) rfl rfl G8.out hz0 ?_)); (first | go_values | go_skip | go_guarded | go_step))
  refine wp_load_rec (.tmp 2) rfl rfl G8.out hz0 ?_
  simp only [Act.put, List.setIfInBounds_toArray, List.set_cons_zero, List.set_cons_succ]
  go_wp2_with fail
  (with_reducible refine (KE.out _ b8.out).mono ?_)
  rintro e w9 ⟨-, h1, hb9⟩
  obtain ⟨v, rfl, hO⟩ := h1 hv
  obtain ⟨A7, c7, rfl, hY, hYn, hYc, hYm⟩ := bytesAt_own hO
  have G9 := Lib.hid (G8.out.below hb9 G8.out.lt)
  have b9 := Lib.hid (b8.out.trans (hb9.mono b8.out.size))
  have KD2 := Lib.hid (Decode_any (LB.enc r) A7 _ c7 w9 hY rfl hYc hYm (enc_len hv))
  rw [law_two hv hI hIl] at KD2
  clear hb9 G8 b8 h1 hO hY hYn hYc hYm
  dsimp only
  go_wp2_with fail
  (with_reducible refine (KD2.out).mono ?_)
  rintro e wa ⟨⟨A8, n8, c8, rfl, hZ, hZn, -, -⟩, hba⟩
  obtain rfl : n8 = n := by rw [← hZn, ← hln]
  have Ga := Lib.hid (G9.out.below hba G9.out.lt)
  have ba := Lib.hid (b9.out.trans (hba.mono b9.out.size))
  clear hba G9 b9 KD2
  have KM := Lib.hid (fun (W : World) (hb : Below wa.heap.size wa W) => Same_yes r A8 A n8 c8 c W (hZ.bl hb) (HA.out W (ba.out.trans (hb.mono ba.out.size))) hln (by omega))
  rw [hrv0] at KM
  obtain ⟨hzy, hally, hrvy⟩ := copy_vals r A8 n8 c8
  rw [hrvy] at KM ⊢
  generalize recC r (.slice A8 n8 c8) = cy at *
  clear hrvy
  dsimp only
  repeat ((fail_if_success (refine wpList_store_row rfl _ (.tmp 11) (.tmp 66) rfl wa.heap.size cy rfl rfl _ _ (heap_alloc_last _ _) (info24 hzy) (by rw [hzy]; rfl) hally ?_)); (first | go_values | go_skip | go_guarded | go_step))
  refine wpList_store_row rfl _ (.tmp 11) (.tmp 66) rfl wa.heap.size cy rfl rfl _ _ (heap_alloc_last _ _) (info24 hzy) (by rw [hzy]; rfl) hally ?_
  rw [World.setRow_alloc_new]
  simp only [Act.put]
  have Gb := Lib.hid (Ga.out.alloc (.cells cy 33))
  have Yb := Lib.hid (Blk.new wa 33 cy)
  have bb := Lib.hid (bl_alloc wa (.cells cy 33))
  have bc := Lib.hid (ba.out.trans ((bl_alloc wa (.cells cy 33)).mono ba.out.size))
  clear Ga
  generalize wa.alloc (.cells cy 33) = wb at *
  go_upto_region 14 with fail
  repeat ((fail_if_success (refine wp_load_rec (.tmp 11) rfl rfl Yb.out hzy ?_)); (first | go_values | go_skip | go_guarded | go_step))
  refine wp_load_rec (.tmp 11) rfl rfl Yb.out hzy ?_
  simp only [Act.put, List.setIfInBounds_toArray, List.set_cons_zero, List.set_cons_succ]
  repeat ((fail_if_success (refine wp_load_rec (.tmp 2) rfl rfl Gb.out hz0 ?_)); (first | go_values | go_skip | go_guarded | go_step))
  refine wp_load_rec (.tmp 2) rfl rfl Gb.out hz0 ?_
  simp only [Act.put, List.setIfInBounds_toArray, List.set_cons_zero, List.set_cons_succ]
  go_wp2_with (go_at_call 10; (with_reducible refine (KM.out _ bb.out).mono ?_); rintro e wz ⟨rfl, hbz⟩)
  go_ret
  exact ⟨rfl, bc.out.trans (hbz.mono bc.out.size)⟩
set_option maxHeartbeats 8000000 in
set_option maxRecDepth 100000 in
theorem back_10 (r : Rec) (A : Option Addr) (n c : Nat) (b : Bs) (A2 : Option Addr) (n2 c2 : Nat) (w : World) (h : Arg r A n c b A2 n2 c2 w) (hs : decide (r.text.length ≤ 505 ∧ n ≤ 45 ∧ r.body.length ≤ 100) = true) (hl : n2 ≤ 1000) (he : (LB.dec vaB b).2 = 0) (hv : vaB r = false) :
    Calls Tryz.prog 3 #[recV r (.slice A n c), .slice A2 n2 c2] w fun e w' => e = .returned (.bool true) ∧ Below w.heap.size w w' := by
  have dl : decide ((1000 : Int) < (n2 : Int)) = false := decide_eq_false (by omega)
  obtain ⟨hsT, hsN, hsB⟩ := of_decide_eq_true hs
  have KD := Lib.hid (fun (W : World) (hb : Below w.heap.size w W) => Decode_any b A2 n2 c2 W ((h.hB.bl hb).up hb.size) h.hn2 h.hc2 h.hcm2 hl)
  have HB := Lib.hid (fun (W : World) (hb : Below w.heap.size w W) => (h.hB.bl hb).up hb.size)
  have HA := Lib.hid (fun (W : World) (hb : Below w.heap.size w W) => h.hA.bl hb)
  have hn2 := h.hn2
  have hln := h.hn
  have KE := Lib.hid (fun (W : World) (hb : Below w.heap.size w W) => Encode_any r A n c W (h.hA.bl hb) h.hn (by omega) h.hc h.hcm (by omega) (by omega) h.hI h.hIl)
  have KV := Lib.hid (fun (W : World) (hb : Below w.heap.size w W) => valid_any r A n c W (h.hA.bl hb) h.hn (by omega) h.hc h.hcm (by omega) (by omega))
  have hI := h.hI
  have hIl := h.hIl
  have KA := Lib.hid awake_yes
  have KS := Lib.hid h.small
  rw [hs] at KS
  obtain ⟨hz0, hall0, hrv0⟩ := copy_vals r A n c
  rw [hrv0] at KS KE KV ⊢
  clear hall0
  obtain ⟨c0, hc0⟩ : ∃ cs, recC r (.slice A n c) = cs := ⟨_, rfl⟩
  rw [hc0] at hz0 hrv0 KS KE KV ⊢
  have G0 := Lib.hid (Blk.new w 33 c0)
  have b0 := Lib.hid (bl_alloc w (.cells c0 33))
  go_enter Tryz.func3, Tryz.ntmps3
  go_upto_region 1 with fail
  generalize w.alloc (.cells c0 33) = w0 at *
  go_upto_region 3 with (go_at_call 4; (with_reducible refine (KA.out _).mono ?_); rintro e w1 ⟨rfl, hb1⟩)
  have G1 := Lib.hid (G0.out.below hb1 G0.out.lt)
  have b1 := Lib.hid (b0.out.trans (hb1.mono b0.out.size))
  clear hb1 G0 b0 KA
  repeat ((fail_if_success (refine wp_load_rec (.tmp 2) rfl rfl G1.out hz0 ?_)); (first | go_values | go_skip | go_guarded | go_step))
  refine wp_load_rec (.tmp 2) rfl rfl G1.out hz0 ?_
  simp only [Act.put, List.setIfInBounds_toArray, List.set_cons_zero, List.set_cons_succ]
  go_upto_region 5 with (go_at_call 5; (with_reducible refine (KS.out _).mono ?_); rintro e w2 ⟨rfl, hb2⟩)
  have G2 := Lib.hid (G1.out.below hb2 G1.out.lt)
  have b2 := Lib.hid (b1.out.trans (hb2.mono b1.out.size))
  clear hb2 G1 b1 KS
  go_wp2_with fail
  (with_reducible refine (KD.out _ b2.out).mono ?_)
  rintro e w3 ⟨⟨A', n', c', rfl, hX, hXn, hXc, hXm⟩, hb3⟩
  have G3 := Lib.hid (G2.out.below hb3 G2.out.lt)
  have b3 := Lib.hid (b2.out.trans (hb3.mono b2.out.size))
  clear hb3 G2 b2 KD
  obtain ⟨x, hx⟩ : ∃ x, (LB.dec vaB b).1 = x := ⟨_, rfl⟩
  obtain ⟨ee, hee⟩ : ∃ e, (LB.dec vaB b).2 = e := ⟨_, rfl⟩
  rw [hx] at hX hXn
  rw [hx, hee]
  obtain ⟨hzx, hallx, hrvx⟩ := copy_vals x A' n' c'
  have he0 : ee = 0 := by rw [← hee]; exact he
  obtain ⟨hvx, hex⟩ := law_one he
  have hIx := (dec_I64 vaB b).1
  have hIy := (dec_I64 vaB b).2
  rw [hx] at hvx hex hIx hIy
  have hXB := va_body hvx
  have hXT := va_text hvx
  have hXL := va_list hvx
  have KX := Lib.hid (fun (W : World) (hb : Below w3.heap.size w3 W) => Encode_any x A' n' c' W (hX.bl hb) hXn (by omega) hXc hXm (by omega) (by omega) hIx hIy)
  have KY := Lib.hid (fun (W : World) (hb : Below w3.heap.size w3 W) => valid_any x A' n' c' W (hX.bl hb) hXn (by omega) hXc hXm (by omega) (by omega))
  rw [hvx] at KY
  rw [he0]
  clear hIx hIy hXB hXT hXL
  rw [hrvx] at KX KY ⊢
  generalize recC x (.slice A' n' c') = cx at *
  clear hx hee hrvx
  dsimp only
  repeat ((fail_if_success (refine wpList_store_row rfl _ (.tmp 5) (.tmp 26) rfl w3.heap.size cx rfl rfl _ _ (heap_alloc_last _ _) (info24 hzx) (by rw [hzx]; rfl) hallx ?_)); (first | go_values | go_skip | go_guarded | go_step))
  refine wpList_store_row rfl _ (.tmp 5) (.tmp 26) rfl w3.heap.size cx rfl rfl _ _ (heap_alloc_last _ _) (info24 hzx) (by rw [hzx]; rfl) hallx ?_
  rw [World.setRow_alloc_new]
  simp only [Act.put]
  have G4 := Lib.hid (G3.out.alloc (.cells cx 33))
  have b4 := Lib.hid (b3.out.trans ((bl_alloc w3 (.cells cx 33)).mono b3.out.size))
  have X4 := Lib.hid (Blk.new w3 33 cx)
  have d4 := Lib.hid (bl_alloc w3 (.cells cx 33))
  clear G3 b3
  generalize w3.alloc (.cells cx 33) = w4 at *
  go_upto_region 7 with fail
  repeat ((fail_if_success (refine wp_load_rec (.tmp 5) rfl rfl X4.out hzx ?_)); (first | go_values | go_skip | go_guarded | go_step))
  refine wp_load_rec (.tmp 5) rfl rfl X4.out hzx ?_
  simp only [Act.put, List.setIfInBounds_toArray, List.set_cons_zero, List.set_cons_succ]
  go_wp2_with fail
  (with_reducible refine (KX.out _ d4.out).mono ?_)
  rintro e w5 ⟨-, h1, hb5⟩
  obtain ⟨v, rfl, hO⟩ := h1 hvx
  obtain ⟨A6, c6, rfl, hY, hYn, -, -⟩ := bytesAt_own hO
  rw [hex] at hY hYn
  have G5 := Lib.hid (G4.out.below hb5 G4.out.lt)
  have X5 := Lib.hid (X4.out.below hb5 X4.out.lt)
  have b5 := Lib.hid (b4.out.trans (hb5.mono b4.out.size))
  have d5 := Lib.hid (d4.out.trans (hb5.mono d4.out.size))
  have KQ := Lib.hid (bytesEq_any A6 A2 n2 c6 n2 c2 _ _ b b w5 hY (HB.out w5 b5.out) hn2 hn2)
  rw [show decide (b = b) = true from decide_eq_true rfl] at KQ
  clear hb5 h1 hO hY hYn G4 X4 b4 d4 KX
  go_wp2_with fail
  (refine (KQ.out).mono ?_)
  rintro e w6 ⟨rfl, rfl⟩
  dsimp only
  repeat ((fail_if_success (refine wp_load_rec (.tmp 5) rfl rfl X5.out hzx ?_)); (first | go_values | go_skip | go_guarded | go_step))
  refine wp_load_rec (.tmp 5) rfl rfl X5.out hzx ?_
  simp only [Act.put, List.setIfInBounds_toArray, List.set_cons_zero, List.set_cons_succ]
  go_upto_region 10 with (go_at_call 9; (with_reducible refine (KY.out _ d5.out).mono ?_); rintro e w7 ⟨rfl, hb7⟩)
  have G8 := Lib.hid (G5.out.below hb7 G5.out.lt)
  have b8 := Lib.hid (b5.out.trans (hb7.mono b5.out.size))
  clear hb7 G5 X5 b5 d5 KQ KY
  repeat ((fail_if_success (refine wp_load_rec (.tmp 2) rfl rfl G8.out hz0 ?_)); (first | go_values | go_skip | go_guarded | go_step))
  refine wp_load_rec (.tmp 2) rfl rfl G8.out hz0 ?_
  simp only [Act.put, List.setIfInBounds_toArray, List.set_cons_zero, List.set_cons_succ]
  go_wp2_with fail
  (with_reducible refine (KE.out _ b8.out).mono ?_)
  rintro e w9 ⟨h1, -, hb9⟩
  obtain rfl := h1 hv
  have G9 := Lib.hid (G8.out.below hb9 G8.out.lt)
  have b9 := Lib.hid (b8.out.trans (hb9.mono b8.out.size))
  rw [hv] at KV
  clear hb9 G8 b8 h1
  dsimp only
  go_upto_region 12 with fail
  repeat ((fail_if_success (refine wp_load_rec (.tmp 2) rfl rfl G9.out hz0 ?_)); (first | go_values | go_skip | go_guarded | go_step))
  refine wp_load_rec (.tmp 2) rfl rfl G9.out hz0 ?_
  simp only [Act.put, List.setIfInBounds_toArray, List.set_cons_zero, List.set_cons_succ]
  go_wp2_with (go_at_call 9; (with_reducible refine (KV.out _ b9.out).mono ?_); rintro e wz ⟨rfl, hbz⟩)
  go_ret
  exact ⟨rfl, b9.out.trans (hbz.mono b9.out.size)⟩
set_option maxHeartbeats 8000000 in
set_option maxRecDepth 100000 in
theorem back_01 (r : Rec) (A : Option Addr) (n c : Nat) (b : Bs) (A2 : Option Addr) (n2 c2 : Nat) (w : World) (h : Arg r A n c b A2 n2 c2 w) (hs : decide (r.text.length ≤ 505 ∧ n ≤ 45 ∧ r.body.length ≤ 100) = true) (hl : n2 ≤ 1000) (he : ¬ (LB.dec vaB b).2 = 0) (hv : vaB r = true) :
    Calls Tryz.prog 3 #[recV r (.slice A n c), .slice A2 n2 c2] w fun e w' => e = .returned (.bool true) ∧ Below w.heap.size w w' := by
  have dl : decide ((1000 : Int) < (n2 : Int)) = false := decide_eq_false (by omega)
  obtain ⟨hsT, hsN, hsB⟩ := of_decide_eq_true hs
  have KD := Lib.hid (fun (W : World) (hb : Below w.heap.size w W) => Decode_any b A2 n2 c2 W ((h.hB.bl hb).up hb.size) h.hn2 h.hc2 h.hcm2 hl)
  have HB := Lib.hid (fun (W : World) (hb : Below w.heap.size w W) => (h.hB.bl hb).up hb.size)
  have HA := Lib.hid (fun (W : World) (hb : Below w.heap.size w W) => h.hA.bl hb)
  have hn2 := h.hn2
  have hln := h.hn
  have KE := Lib.hid (fun (W : World) (hb : Below w.heap.size w W) => Encode_any r A n c W (h.hA.bl hb) h.hn (by omega) h.hc h.hcm (by omega) (by omega) h.hI h.hIl)
  have KV := Lib.hid (fun (W : World) (hb : Below w.heap.size w W) => valid_any r A n c W (h.hA.bl hb) h.hn (by omega) h.hc h.hcm (by omega) (by omega))
  have hI := h.hI
  have hIl := h.hIl
  have KA := Lib.hid awake_yes
  have KS := Lib.hid h.small
  rw [hs] at KS
  obtain ⟨hz0, hall0, hrv0⟩ := copy_vals r A n c
  rw [hrv0] at KS KE KV ⊢
  clear hall0
  obtain ⟨c0, hc0⟩ : ∃ cs, recC r (.slice A n c) = cs := ⟨_, rfl⟩
  rw [hc0] at hz0 hrv0 KS KE KV ⊢
  have G0 := Lib.hid (Blk.new w 33 c0)
  have b0 := Lib.hid (bl_alloc w (.cells c0 33))
  go_enter Tryz.func3, Tryz.ntmps3
  go_upto_region 1 with fail
  generalize w.alloc (.cells c0 33) = w0 at *
  go_upto_region 3 with (go_at_call 4; (with_reducible refine (KA.out _).mono ?_); rintro e w1 ⟨rfl, hb1⟩)
  have G1 := Lib.hid (G0.out.below hb1 G0.out.lt)
  have b1 := Lib.hid (b0.out.trans (hb1.mono b0.out.size))
  clear hb1 G0 b0 KA
  repeat ((fail_if_success (refine wp_load_rec (.tmp 2) rfl rfl G1.out hz0 ?_)); (first | go_values | go_skip | go_guarded | go_step))
  refine wp_load_rec (.tmp 2) rfl rfl G1.out hz0 ?_
  simp only [Act.put, List.setIfInBounds_toArray, List.set_cons_zero, List.set_cons_succ]
  go_upto_region 5 with (go_at_call 5; (with_reducible refine (KS.out _).mono ?_); rintro e w2 ⟨rfl, hb2⟩)
  have G2 := Lib.hid (G1.out.below hb2 G1.out.lt)
  have b2 := Lib.hid (b1.out.trans (hb2.mono b1.out.size))
  clear hb2 G1 b1 KS
  go_wp2_with fail
  (with_reducible refine (KD.out _ b2.out).mono ?_)
  rintro e w3 ⟨⟨A', n', c', rfl, hX, hXn, hXc, hXm⟩, hb3⟩
  have G3 := Lib.hid (G2.out.below hb3 G2.out.lt)
  have b3 := Lib.hid (b2.out.trans (hb3.mono b2.out.size))
  clear hb3 G2 b2 KD
  obtain ⟨x, hx⟩ : ∃ x, (LB.dec vaB b).1 = x := ⟨_, rfl⟩
  obtain ⟨ee, hee⟩ : ∃ e, (LB.dec vaB b).2 = e := ⟨_, rfl⟩
  rw [hx] at hX hXn
  rw [hx, hee]
  obtain ⟨hzx, hallx, hrvx⟩ := copy_vals x A' n' c'
  have de : (ee == 0) = false := by rw [← hee]; simpa using he
  rw [hrvx]
  generalize recC x (.slice A' n' c') = cx at *
  clear hx hee hrvx
  dsimp only
  repeat ((fail_if_success (refine wpList_store_row rfl _ (.tmp 5) (.tmp 26) rfl w3.heap.size cx rfl rfl _ _ (heap_alloc_last _ _) (info24 hzx) (by rw [hzx]; rfl) hallx ?_)); (first | go_values | go_skip | go_guarded | go_step))
  refine wpList_store_row rfl _ (.tmp 5) (.tmp 26) rfl w3.heap.size cx rfl rfl _ _ (heap_alloc_last _ _) (info24 hzx) (by rw [hzx]; rfl) hallx ?_
  rw [World.setRow_alloc_new]
  simp only [Act.put]
  have G4 := Lib.hid (G3.out.alloc (.cells cx 33))
  have b4 := Lib.hid (b3.out.trans ((bl_alloc w3 (.cells cx 33)).mono b3.out.size))
  clear G3 b3
  generalize w3.alloc (.cells cx 33) = w4 at *
  go_upto_region 10 with fail
  have G8 := G4
  have b8 := b4
  clear G4 b4
  repeat ((fail_if_success (refine wp_load_rec (.tmp 2) rfl rfl G8.out hz0 ?_)); (first | go_values | go_skip | go_guarded | go_step))
  refine wp_load_rec (.tmp 2) rfl rfl G8.out hz0 ?_
  simp only [Act.put, List.setIfInBounds_toArray, List.set_cons_zero, List.set_cons_succ]
  go_wp2_with fail
  (with_reducible refine (KE.out _ b8.out).mono ?_)
  rintro e w9 ⟨-, h1, hb9⟩
  obtain ⟨v, rfl, hO⟩ := h1 hv
  obtain ⟨A7, c7, rfl, hY, hYn, hYc, hYm⟩ := bytesAt_own hO
  have G9 := Lib.hid (G8.out.below hb9 G8.out.lt)
  have b9 := Lib.hid (b8.out.trans (hb9.mono b8.out.size))
  have KD2 := Lib.hid (Decode_any (LB.enc r) A7 _ c7 w9 hY rfl hYc hYm (enc_len hv))
  rw [law_two hv hI hIl] at KD2
  clear hb9 G8 b8 h1 hO hY hYn hYc hYm
  dsimp only
  go_wp2_with fail
  (with_reducible refine (KD2.out).mono ?_)
  rintro e wa ⟨⟨A8, n8, c8, rfl, hZ, hZn, -, -⟩, hba⟩
  obtain rfl : n8 = n := by rw [← hZn, ← hln]
  have Ga := Lib.hid (G9.out.below hba G9.out.lt)
  have ba := Lib.hid (b9.out.trans (hba.mono b9.out.size))
  clear hba G9 b9 KD2
  have KM := Lib.hid (fun (W : World) (hb : Below wa.heap.size wa W) => Same_yes r A8 A n8 c8 c W (hZ.bl hb) (HA.out W (ba.out.trans (hb.mono ba.out.size))) hln (by omega))
  rw [hrv0] at KM
  obtain ⟨hzy, hally, hrvy⟩ := copy_vals r A8 n8 c8
  rw [hrvy] at KM ⊢
  generalize recC r (.slice A8 n8 c8) = cy at *
  clear hrvy
  dsimp only
  repeat ((fail_if_success (refine wpList_store_row rfl _ (.tmp 11) (.tmp 66) rfl wa.heap.size cy rfl rfl _ _ (heap_alloc_last _ _) (info24 hzy) (by rw [hzy]; rfl) hally ?_)); (first | go_values | go_skip | go_guarded | go_step))
  refine wpList_store_row rfl _ (.tmp 11) (.tmp 66) rfl wa.heap.size cy rfl rfl _ _ (heap_alloc_last _ _) (info24 hzy) (by rw [hzy]; rfl) hally ?_
  rw [World.setRow_alloc_new]
  simp only [Act.put]
  have Gb := Lib.hid (Ga.out.alloc (.cells cy 33))
  have Yb := Lib.hid (Blk.new wa 33 cy)
  have bb := Lib.hid (bl_alloc wa (.cells cy 33))
  have bc := Lib.hid (ba.out.trans ((bl_alloc wa (.cells cy 33)).mono ba.out.size))
  clear Ga
  generalize wa.alloc (.cells cy 33) = wb at *
  go_upto_region 14 with fail
  repeat ((fail_if_success (refine wp_load_rec (.tmp 11) rfl rfl Yb.out hzy ?_)); (first | go_values | go_skip | go_guarded | go_step))
  refine wp_load_rec (.tmp 11) rfl rfl Yb.out hzy ?_
  simp only [Act.put, List.setIfInBounds_toArray, List.set_cons_zero, List.set_cons_succ]
  repeat ((fail_if_success (refine wp_load_rec (.tmp 2) rfl rfl Gb.out hz0 ?_)); (first | go_values | go_skip | go_guarded | go_step))
  refine wp_load_rec (.tmp 2) rfl rfl Gb.out hz0 ?_
  simp only [Act.put, List.setIfInBounds_toArray, List.set_cons_zero, List.set_cons_succ]
  go_wp2_with (go_at_call 10; (with_reducible refine (KM.out _ bb.out).mono ?_); rintro e wz ⟨rfl, hbz⟩)
  go_ret
  exact ⟨rfl, bc.out.trans (hbz.mono bc.out.size)⟩
set_option maxHeartbeats 8000000 in
set_option maxRecDepth 100000 in
theorem back_00 (r : Rec) (A : Option Addr) (n c : Nat) (b : Bs) (A2 : Option Addr) (n2 c2 : Nat) (w : World) (h : Arg r A n c b A2 n2 c2 w) (hs : decide (r.text.length ≤ 505 ∧ n ≤ 45 ∧ r.body.length ≤ 100) = true) (hl : n2 ≤ 1000) (he : ¬ (LB.dec vaB b).2 = 0) (hv : vaB r = false) :
    Calls Tryz.prog 3 #[recV r (.slice A n c), .slice A2 n2 c2] w fun e w' => e = .returned (.bool true) ∧ Below w.heap.size w w' := by
  have dl : decide ((1000 : Int) < (n2 : Int)) = false := decide_eq_false (by omega)
  obtain ⟨hsT, hsN, hsB⟩ := of_decide_eq_true hs
  have KD := Lib.hid (fun (W : World) (hb : Below w.heap.size w W) => Decode_any b A2 n2 c2 W ((h.hB.bl hb).up hb.size) h.hn2 h.hc2 h.hcm2 hl)
  have HB := Lib.hid (fun (W : World) (hb : Below w.heap.size w W) => (h.hB.bl hb).up hb.size)
  have HA := Lib.hid (fun (W : World) (hb : Below w.heap.size w W) => h.hA.bl hb)
  have hn2 := h.hn2
  have hln := h.hn
  have KE := Lib.hid (fun (W : World) (hb : Below w.heap.size w W) => Encode_any r A n c W (h.hA.bl hb) h.hn (by omega) h.hc h.hcm (by omega) (by omega) h.hI h.hIl)
  have KV := Lib.hid (fun (W : World) (hb : Below w.heap.size w W) => valid_any r A n c W (h.hA.bl hb) h.hn (by omega) h.hc h.hcm (by omega) (by omega))
  have hI := h.hI
  have hIl := h.hIl
  have KA := Lib.hid awake_yes
  have KS := Lib.hid h.small
  rw [hs] at KS
  obtain ⟨hz0, hall0, hrv0⟩ := copy_vals r A n c
  rw [hrv0] at KS KE KV ⊢
  clear hall0
  obtain ⟨c0, hc0⟩ : ∃ cs, recC r (.slice A n c) = cs := ⟨_, rfl⟩
  rw [hc0] at hz0 hrv0 KS KE KV ⊢
  have G0 := Lib.hid (Blk.new w 33 c0)
  have b0 := Lib.hid (bl_alloc w (.cells c0 33))
  go_enter Tryz.func3, Tryz.ntmps3
  go_upto_region 1 with fail
  generalize w.alloc (.cells c0 33) = w0 at *
  go_upto_region 3 with (go_at_call 4; (with_reducible refine (KA.out _).mono ?_); rintro e w1 ⟨rfl, hb1⟩)
  have G1 := Lib.hid (G0.out.below hb1 G0.out.lt)
  have b1 := Lib.hid (b0.out.trans (hb1.mono b0.out.size))
  clear hb1 G0 b0 KA
  repeat ((fail_if_success (refine wp_load_rec (.tmp 2) rfl rfl G1.out hz0 ?_)); (first | go_values | go_skip | go_guarded | go_step))
  refine wp_load_rec (.tmp 2) rfl rfl G1.out hz0 ?_
  simp only [Act.put, List.setIfInBounds_toArray, List.set_cons_zero, List.set_cons_succ]
  go_upto_region 5 with (go_at_call 5; (with_reducible refine (KS.out _).mono ?_); rintro e w2 ⟨rfl, hb2⟩)
  have G2 := Lib.hid (G1.out.below hb2 G1.out.lt)
  have b2 := Lib.hid (b1.out.trans (hb2.mono b1.out.size))
  clear hb2 G1 b1 KS
  go_wp2_with fail
  (with_reducible refine (KD.out _ b2.out).mono ?_)
  rintro e w3 ⟨⟨A', n', c', rfl, hX, hXn, hXc, hXm⟩, hb3⟩
  have G3 := Lib.hid (G2.out.below hb3 G2.out.lt)
  have b3 := Lib.hid (b2.out.trans (hb3.mono b2.out.size))
  clear hb3 G2 b2 KD
  obtain ⟨x, hx⟩ : ∃ x, (LB.dec vaB b).1 = x := ⟨_, rfl⟩
  obtain ⟨ee, hee⟩ : ∃ e, (LB.dec vaB b).2 = e := ⟨_, rfl⟩
  rw [hx] at hX hXn
  rw [hx, hee]
  obtain ⟨hzx, hallx, hrvx⟩ := copy_vals x A' n' c'
  have de : (ee == 0) = false := by rw [← hee]; simpa using he
  rw [hrvx]
  generalize recC x (.slice A' n' c') = cx at *
  clear hx hee hrvx
  dsimp only
  repeat ((fail_if_success (refine wpList_store_row rfl _ (.tmp 5) (.tmp 26) rfl w3.heap.size cx rfl rfl _ _ (heap_alloc_last _ _) (info24 hzx) (by rw [hzx]; rfl) hallx ?_)); (first | go_values | go_skip | go_guarded | go_step))
  refine wpList_store_row rfl _ (.tmp 5) (.tmp 26) rfl w3.heap.size cx rfl rfl _ _ (heap_alloc_last _ _) (info24 hzx) (by rw [hzx]; rfl) hallx ?_
  rw [World.setRow_alloc_new]
  simp only [Act.put]
  have G4 := Lib.hid (G3.out.alloc (.cells cx 33))
  have b4 := Lib.hid (b3.out.trans ((bl_alloc w3 (.cells cx 33)).mono b3.out.size))
  clear G3 b3
  generalize w3.alloc (.cells cx 33) = w4 at *
  go_upto_region 10 with fail
  have G8 := G4
  have b8 := b4
  clear G4 b4
  repeat ((fail_if_success (refine wp_load_rec (.tmp 2) rfl rfl G8.out hz0 ?_)); (first | go_values | go_skip | go_guarded | go_step))
  refine wp_load_rec (.tmp 2) rfl rfl G8.out hz0 ?_
  simp only [Act.put, List.setIfInBounds_toArray, List.set_cons_zero, List.set_cons_succ]
  go_wp2_with fail
  (with_reducible refine (KE.out _ b8.out).mono ?_)
  rintro e w9 ⟨h1, -, hb9⟩
  obtain rfl := h1 hv
  have G9 := Lib.hid (G8.out.below hb9 G8.out.lt)
  have b9 := Lib.hid (b8.out.trans (hb9.mono b8.out.size))
  rw [hv] at KV
  clear hb9 G8 b8 h1
  dsimp only
  go_upto_region 12 with fail
  repeat ((fail_if_success (refine wp_load_rec (.tmp 2) rfl rfl G9.out hz0 ?_)); (first | go_values | go_skip | go_guarded | go_step))
  refine wp_load_rec (.tmp 2) rfl rfl G9.out hz0 ?_
  simp only [Act.put, List.setIfInBounds_toArray, List.set_cons_zero, List.set_cons_succ]
  go_wp2_with (go_at_call 9; (with_reducible refine (KV.out _ b9.out).mono ?_); rintro e wz ⟨rfl, hbz⟩)
  go_ret
  exact ⟨rfl, b9.out.trans (hbz.mono b9.out.size)⟩
theorem back_any (r : Rec) (A : Option Addr) (n c : Nat) (b : Bs) (A2 : Option Addr) (n2 c2 : Nat) (w : World) (h : Arg r A n c b A2 n2 c2 w) :
    Calls Tryz.prog 3 #[recV r (.slice A n c), .slice A2 n2 c2] w fun e w' => e = .returned (.bool true) ∧ Below w.heap.size w w' := by
  cases hs : decide (r.text.length ≤ 505 ∧ n ≤ 45 ∧ r.body.length ≤ 100) with
  | false => exact back_big r A n c b A2 n2 c2 w h hs
  | true =>
    by_cases hl : 1000 < n2
    · exact back_long r A n c b A2 n2 c2 w h hs hl
    · by_cases he : (LB.dec vaB b).2 = 0
      · cases hv : vaB r with
        | true => exact back_11 r A n c b A2 n2 c2 w h hs (by omega) he hv
        | false => exact back_10 r A n c b A2 n2 c2 w h hs (by omega) he hv
      · cases hv : vaB r with
        | true => exact back_01 r A n c b A2 n2 c2 w h hs (by omega) he hv
        | false => exact back_00 r A n c b A2 n2 c2 w h hs (by omega) he hv
end Go.Proofs.YthfndnmfnijpeaaGreat
namespace Go.Proofs.YthfndnmfnijpeaaGreat
open Go.ChangeShapes Go.WideShapes Go.ChangeAt Go.RowKit
theorem Tryz.own : ownKnob Tryz.prog.godebug = none := by kernel_rfl
section
variable {H : Type} {enc : TypeId × Value → H} {P : Program}
theorem post_of_below {f : Func} {s : ChangeSpec} {apart fresh handsOn again : Bool} {W W' : World} {args : Array Value} {v : Value} {ds gs : List (DataW H)} {before pa pv : List MemPlace}
    (hW : DataW.Whole enc P f.params.toList s.vars apart W args.toList ds gs before)
    (hres : ∀ (b : Nat) (sp : Nat → Bool) (hd : Bool), DataW.TrodAll enc P W' b sp hd f.resultTypes.toList (v.resultList f.resultTypes.size) (s.fn H (ds ++ gs)).results [])
    (hargs : ∀ sp : Nat → Bool, (∀ p ∈ before, sp p.block = true) → DataW.TrodAll enc P W' 0 sp true f.params.toList args.toList (s.fn H (ds ++ gs)).args pa)
    (hvars : ∀ sp : Nat → Bool, (∀ p ∈ before, sp p.block = true) → DataW.TrodVars enc P W' sp s.vars (s.fn H (ds ++ gs)).vars pv)
    (hps : before = pa ++ pv) (hb : Below W.heap.size W W')
    (hok : ∀ (j : Nat) (t : TypeId) (r : Value), f.resultTypes[j]? = some t → (v.resultList f.resultTypes.size)[j]? = some r → Value.okWide P W' .any 0 t r) :
    s.post enc P f apart fresh handsOn again W args v W' := by
  have hlt : ∀ p ∈ before, p.block < W.heap.size := fun p hp => hW.lt p hp
  have hold : ∀ p ∈ before, (fun b => decide (b < W.heap.size)) p.block = true := fun p hp => by simpa using hlt p hp
  refine ⟨ds, gs, before, [], pa, pv, hW, hres _ _ _, hargs _ hold, hvars _ hold, World.keptBut_mono (fun p hp => ⟨hp, ?_⟩) (hb.frame (· ∈ before)), fun _ => ?_⟩
  · rw [hps, List.mem_append] at hp
    exact Or.inr hp
  · obtain ⟨_, _, _, _, _, hz, hn⟩ := hW
    refine ⟨hok, _, _, ([] ++ pa) ++ pv, ⟨[] ++ pa, pv, trodAll_append (hargs _ (fun _ _ => rfl)) (hres _ _ _), hvars _ (fun _ _ => rfl), rfl, ?_, ?_⟩, ?_⟩
    · intro b off hp
      have hin : MemPlace.cell b off ∈ before := by rw [hps]; simpa using hp
      rw [hb.frozen (hlt _ hin)]
      exact hz b off hin
    · intro ha
      have := hn ha
      rw [hps] at this
      simpa using this
    · intro p hp _
      rw [hps]
      simpa using hp
end
end Go.Proofs.YthfndnmfnijpeaaGreat
