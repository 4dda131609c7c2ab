/- correct.Parse. -/
import Derived.Test.YtbpnacacnncopaaGreatDoorHXl
set_option linter.unusedVariables false
set_option linter.unusedSimpArgs false
namespace Go.Proofs.YtbpnacacnncopaaGreatDoor
open Go.RowKit Go.Shelf Frm
open Lib (decDigits)
/-- a sight as a value -/
abbrev sgS (s : Sgt) : Value := sgv s.body s.limb s.lo s.hi s.hs s.by_ s.hor s.eye s.shore s.temp s.press
abbrev sg0 : Value := sgv [] 0 0 0 0 0 0 0 0 0 0
/-- what a text says -/
def GoodT (s : Sgt) (t : Bs) : Prop := ∃ w0 w1 w2 w3 w4 w5 w6 w7 w8 w9 w10 w11 w12, SW.wrd 32 t = [w0, w1, w2, w3, w4, w5, w6, w7, w8, w9, w10, w11, w12] ∧ Good s w0 w1 w2 w3 w4 w5 w6 w7 w8 w9 w10 w11 w12
/-- what correct.Parse returns -/
def CpsR (t : Bs) (e : Ending) : Prop := (∃ s, GoodT s t ∧ siS s = true ∧ e = .returned (.tuple #[sgS s, .int .i64 0])) ∨ (∃ s, GoodT s t ∧ siS s = false ∧ e = .returned (.tuple #[sg0, .int .i64 1])) ∨ ((¬ ∃ s, GoodT s t) ∧ e = .returned (.tuple #[sg0, .int .i64 7]))
theorem ret_sg {tmps : Array Value} {w : World} {g : Nat} {cs : Array Value} (hp : tmps.getD 2 undef = .pointer (some ⟨g, 0, none⟩)) (h : Blk w g 25 cs) (hs : cs.size = 11) :
    (results Tryz.f11 tmps).run Tryz.prog w = .ok (.tuple #[.agg cs, tmps.getD 3 undef]) w := by
  have hi : (Tryz.prog.info? 25).map (·.size) = some 11 := by kernel_rfl
  rw [results_cell_tmp Tryz.results11, hp]
  have := run_loadVar_row (P := Tryz.prog) w g 25 25 cs (0, 0) (.struct (Tryz.prog.fieldsOf 25)) h (by kernel_rfl) rfl (by rw [hs]; exact hi)
  simp [asAddr, this, Result.andThen]
theorem splits_any (s : Bs) (w : World) (hl : s.length ≤ 1000000) (he : En w) :
    Calls Tryz.prog 36 #[tx s, .string ⟨#[32]⟩] w fun e w' => e = .returned (.slice (some ⟨w.heap.size, 0, none⟩) (SW.wrd 32 s).length (SW.wrd 32 s).length) ∧ w' = w.alloc (.cells ((SW.wrd 32 s).map tx).toArray 9) := split_any s 32 w hl he
/-- answers of the reader, and whether it was right -/
theorem ch_ok {B g : Nat} {a b c z : Bs} {L : List Bs} {wr : Bool} {e : Ending} {w' : World} (h : ChR B g a b c z L wr e w') : ∃ (k : Int) (ok : Bool), e = .returned (.int .i64 k) ∧ RdC w' B g L (wr || !ok) ∧ (ok = true → 1 ≤ k ∧ k ≤ 3 ∧ z = wordAt [a, b, c] k) ∧ (ok = false → ¬ ∃ k : Int, 1 ≤ k ∧ k ≤ 3 ∧ z = wordAt [a, b, c] k) := by
  rcases h with ⟨k, h1, h2, h3, h4, h5⟩ | ⟨h1, h2, h3⟩
  · exact ⟨k, true, h4, by simpa using h5, fun _ => ⟨h1, h2, h3⟩, nofun⟩
  · refine ⟨0, false, h2, by simpa using h3, nofun, fun _ ⟨k, k1, k2, k3⟩ => ?_⟩
    have ha : k = 1 ∨ k = 2 ∨ k = 3 := by omega
    rcases ha with rfl | rfl | rfl
    · exact h1.1 k3
    · exact h1.2.1 k3
    · exact h1.2.2 k3
theorem in_ok {B g : Nat} {z : Bs} {L : List Bs} {wr : Bool} {e : Ending} {w' : World} (h : (∃ t, IsInst t z ∧ insB t = true ∧ e = .returned (.int .i64 t) ∧ RdC w' B g L wr) ∨ ((¬ ∃ t, IsInst t z ∧ insB t = true) ∧ e = .returned (.int .i64 0) ∧ RdC w' B g L true)) : ∃ (k : Int) (ok : Bool), e = .returned (.int .i64 k) ∧ RdC w' B g L (wr || !ok) ∧ (ok = true → IsInst k z ∧ insB k = true) ∧ (ok = false → ¬ ∃ k : Int, IsInst k z ∧ insB k = true) := by
  rcases h with ⟨k, h1, h2, h3, h4⟩ | ⟨h1, h2, h3⟩
  · exact ⟨k, true, h3, by simpa using h4, fun _ => ⟨h1, h2⟩, nofun⟩
  · exact ⟨0, false, h2, by simpa using h3, nofun, fun _ => h1⟩
theorem an_ok {B g : Nat} {P : Int → Prop} {L : List Bs} {wr : Bool} {e : Ending} {w' : World} (h : (∃ n : Int, P n ∧ e = .returned (.int .i64 n) ∧ RdC w' B g L wr) ∨ ((¬ ∃ n : Int, P n) ∧ (∃ n : Int, e = .returned (.int .i64 n)) ∧ RdC w' B g L true)) : ∃ (k : Int) (ok : Bool), e = .returned (.int .i64 k) ∧ RdC w' B g L (wr || !ok) ∧ (ok = true → P k) ∧ (ok = false → ¬ ∃ k : Int, P k) := by
  rcases h with ⟨k, h1, h2, h3⟩ | ⟨h1, ⟨n, h2⟩, h3⟩
  · exact ⟨k, true, h2, by simpa using h3, fun _ => h1, nofun⟩
  · exact ⟨n, false, h2, by simpa using h3, nofun, fun _ => h1⟩
theorem choiceK (B g : Nat) (a b c z : Bs) (L : List Bs) (wr : Bool) (w : World) (h : RdC w B g (z :: L) wr) :
    Calls Tryz.prog 38 #[.pointer (some ⟨g, 0, none⟩), .agg #[tx a, tx b, tx c]] w fun e w' => (∃ (k : Int) (ok : Bool), e = .returned (.int .i64 k) ∧ RdC w' B g L (wr || !ok) ∧ (ok = true → 1 ≤ k ∧ k ≤ 3 ∧ z = wordAt [a, b, c] k) ∧ (ok = false → ¬ ∃ k : Int, 1 ≤ k ∧ k ≤ 3 ∧ z = wordAt [a, b, c] k)) ∧ Kps g w w' :=
  (choice_any B g a b c z L wr w h).mono fun _ _ h => ⟨ch_ok h.1, h.2⟩
theorem instantK (B g : Nat) (z1 z2 : Bs) (L : List Bs) (wr : Bool) (w : World) (h : RdC w B g (z1 :: z2 :: L) wr) (l1 : z1.length ≤ 400) (l2 : z2.length ≤ 400) (hB : ∀ w', Kps g w w' → En w') :
    Calls Tryz.prog 40 #[.pointer (some ⟨g, 0, none⟩)] w fun e w' => (∃ (k : Int) (ok : Bool), e = .returned (.int .i64 k) ∧ RdC w' B g L (wr || !ok) ∧ (ok = true → IsInst k (z1 ++ 32 :: z2) ∧ insB k = true) ∧ (ok = false → ¬ ∃ k : Int, IsInst k (z1 ++ 32 :: z2) ∧ insB k = true)) ∧ Kps g w w' :=
  (instantC_any B g z1 z2 L wr w h l1 l2 hB).mono fun _ _ h => ⟨in_ok h.1, h.2⟩
theorem angleK (B g : Nat) (z : Bs) (L : List Bs) (wr : Bool) (w : World) (h : RdC w B g (z :: L) wr) (l1 : z.length ≤ 400) (hB : ∀ w', Kps g w w' → En w') :
    Calls Tryz.prog 41 #[.pointer (some ⟨g, 0, none⟩)] w fun e w' => (∃ (k : Int) (ok : Bool), e = .returned (.int .i64 k) ∧ RdC w' B g L (wr || !ok) ∧ (ok = true → z = textL k ∧ k.natAbs ≤ 1099511627776) ∧ (ok = false → ¬ ∃ k : Int, z = textL k ∧ k.natAbs ≤ 1099511627776)) ∧ Kps g w w' :=
  (angleC_any B g z L wr w h l1 hB).mono fun _ _ h => ⟨an_ok (P := fun n => z = textL n ∧ n.natAbs ≤ 1099511627776) (h.1.imp (fun ⟨n, a, b, c, d⟩ => ⟨n, ⟨a, b⟩, c, d⟩) id), h.2⟩
theorem integerK (B g : Nat) (z : Bs) (L : List Bs) (wr : Bool) (w : World) (h : RdC w B g (z :: L) wr) (l1 : z.length ≤ 400) (hB : ∀ w', Kps g w w' → En w') :
    Calls Tryz.prog 42 #[.pointer (some ⟨g, 0, none⟩)] w fun e w' => (∃ (k : Int) (ok : Bool), e = .returned (.int .i64 k) ∧ RdC w' B g L (wr || !ok) ∧ (ok = true → z = Lib.itoa k ∧ z.length ≤ 15) ∧ (ok = false → ¬ ∃ k : Int, z = Lib.itoa k ∧ z.length ≤ 15)) ∧ Kps g w w' :=
  (integerC_any B g z L wr w h l1 hB).mono fun _ _ h => ⟨an_ok (P := fun n => z = Lib.itoa n ∧ z.length ≤ 15) (h.1.imp (fun ⟨n, a, b, c, d⟩ => ⟨n, ⟨a, b⟩, c, d⟩) id), h.2⟩
set_option maxHeartbeats 8000000 in
set_option maxRecDepth 100000 in
theorem cparse_any (t : Bs) (w : World) (hl : t.length ≤ 300) (he : En w) :
    Calls Tryz.prog 11 #[tx t] w fun e w' => CpsR t e ∧ Below w.heap.size w w' := by
  have b00 := bl_alloc w (.cells #[tx [], .int .i64 0, .int .i64 0, .int .i64 0, .int .i64 0, .int .i64 0, .int .i64 0, .int .i64 0, .int .i64 0, .int .i64 0, .int .i64 0] 25)
  have R0 := Lib.hid (Blk.new w 25 #[tx [], .int .i64 0, .int .i64 0, .int .i64 0, .int .i64 0, .int .i64 0, .int .i64 0, .int .i64 0, .int .i64 0, .int .i64 0, .int .i64 0])
  have KS := Lib.hid (splits_any t (w.alloc (.cells #[tx [], .int .i64 0, .int .i64 0, .int .i64 0, .int .i64 0, .int .i64 0, .int .i64 0, .int .i64 0, .int .i64 0, .int .i64 0, .int .i64 0] 25)) (by omega) (he.bl b00))
  have E0 := Lib.hid he
  have hsz0 : (w.alloc (.cells #[tx [], .int .i64 0, .int .i64 0, .int .i64 0, .int .i64 0, .int .i64 0, .int .i64 0, .int .i64 0, .int .i64 0, .int .i64 0, .int .i64 0] 25)).heap.size = w.heap.size + 1 := by simp
  have HSZ := Lib.hid hsz0
  have B0 := Lib.hid b00
  have hwl := wrd_len 32 t
  have hgt : ∀ s, GoodT s t → (SW.wrd 32 t).length = 13 := fun s ⟨w0, w1, w2, w3, w4, w5, w6, w7, w8, w9, w10, w11, w12, h, _⟩ => by rw [h]; rfl
  have hT := fun (s : Sgt) (w0 w1 w2 w3 w4 w5 w6 w7 w8 w9 w10 w11 w12 : Bs) (h : SW.wrd 32 t = [w0, w1, w2, w3, w4, w5, w6, w7, w8, w9, w10, w11, w12]) => (show GoodT s t ↔ Good s w0 w1 w2 w3 w4 w5 w6 w7 w8 w9 w10 w11 w12 from
    ⟨fun ⟨v0, v1, v2, v3, v4, v5, v6, v7, v8, v9, v10, v11, v12, h2, h3⟩ => by
      rw [h] at h2
      simp only [List.cons.injEq, and_true] at h2
      obtain ⟨rfl, rfl, rfl, rfl, rfl, rfl, rfl, rfl, rfl, rfl, rfl, rfl, rfl⟩ := h2
      exact h3, fun h3 => ⟨w0, w1, w2, w3, w4, w5, w6, w7, w8, w9, w10, w11, w12, h, h3⟩⟩)
  have P1 := Lib.hid (fun s (h1 : GoodT s t) (h2 : siS s = true) => (show CpsR t (.returned (.tuple #[sgS s, .int .i64 0])) from .inl ⟨s, h1, h2, rfl⟩))
  have P2 := Lib.hid (fun s (h1 : GoodT s t) (h2 : siS s = false) => (show CpsR t (.returned (.tuple #[sg0, .int .i64 1])) from .inr (.inl ⟨s, h1, h2, rfl⟩)))
  have P3 := Lib.hid (fun (h1 : ¬ ∃ s, GoodT s t) => (show CpsR t (.returned (.tuple #[sg0, .int .i64 7])) from .inr (.inr ⟨h1, rfl⟩)))
  generalize CpsR t = PR at *
  obtain ⟨W, hW⟩ : ∃ W, SW.wrd 32 t = W := ⟨_, rfl⟩
  rw [hW] at KS hwl
  simp only [hW] at hgt hT
  clear hW b00 he hsz0
  by_cases h13 : W.length = 13
  case neg =>
    have HNO := Lib.hid (P3.out (fun ⟨s, h⟩ => h13 (hgt s h)))
    obtain ⟨m, hm⟩ : ∃ m, W.length = m := ⟨_, rfl⟩
    have d0 : ((m : Int) != 13) = true := by simp; omega
    rw [hm] at KS
    clear hgt hT hwl P1 P2 P3 h13 hm
    go_enter Tryz.func11, Tryz.ntmps11
    go_upto_region 1 with fail
    generalize w.alloc (.cells #[tx [], .int .i64 0, .int .i64 0, .int .i64 0, .int .i64 0, .int .i64 0, .int .i64 0, .int .i64 0, .int .i64 0, .int .i64 0, .int .i64 0] 25) = w0 at *
    have R1 := Lib.hid ((R0.out.alloc (.cells (W.map tx).toArray 9)).alloc (.cells #[.slice (some ⟨w0.heap.size, 0, none⟩) m m, .bool false] 74))
    have G1 := Lib.hid (Blk.new (w0.alloc (.cells (W.map tx).toArray 9)) 74 #[.slice (some ⟨w0.heap.size, 0, none⟩) m m, .bool false])
    have B1 := Lib.hid (B0.out.trans (((Below.refl w0.heap.size w0).alloc (Nat.le_refl _) (.cells (W.map tx).toArray 9)).alloc (by simp) (.cells #[.slice (some ⟨w0.heap.size, 0, none⟩) m m, .bool false] 74) |>.mono B0.out.size))
    go_wp2_with fail
    (with_reducible refine (KS.out).mono ?_)
    rintro e w1 ⟨rfl, rfl⟩
    go_upto_region 2 with fail
    simp only [World.size_alloc] at G1
    generalize (w0.alloc (.cells (W.map tx).toArray 9)).alloc (.cells #[.slice (some ⟨w0.heap.size, 0, none⟩) m m, .bool false] 74) = w1 at *
    have yG : ∀ i, w1.cell? ⟨w0.heap.size + 1, i, none⟩ = (#[.slice (some ⟨w0.heap.size, 0, none⟩) m m, .bool false] : Array Value)[i]? := fun i => G1.out.cell i
    go_upto_region 3 with fail
    iterate 4 go_step
    refine wpList_store_row rfl _ (.tmp 2) (.tmp 16) rfl _ _ rfl rfl _ _ R1.out (by kernel_rfl) (by rfl) (by simp [Value.oneCell']) ?_
    simp only [Act.put, List.setIfInBounds_toArray, List.set_cons_zero, List.set_cons_succ]
    have ZZ := Lib.hid (Blk.rowW R1.out #[tx [], .int .i64 0, .int .i64 0, .int .i64 0, .int .i64 0, .int .i64 0, .int .i64 0, .int .i64 0, .int .i64 0, .int .i64 0, .int .i64 0])
    have BB := Lib.hid (bl_setRowW (g := w.heap.size) B1.out (Nat.le_refl _) #[tx [], .int .i64 0, .int .i64 0, .int .i64 0, .int .i64 0, .int .i64 0, .int .i64 0, .int .i64 0, .int .i64 0, .int .i64 0, .int .i64 0])
    generalize w1.setRow w.heap.size #[tx [], .int .i64 0, .int .i64 0, .int .i64 0, .int .i64 0, .int .i64 0, .int .i64 0, .int .i64 0, .int .i64 0, .int .i64 0, .int .i64 0] = wz at *
    go_wp2
    exact bodyPost_ret_by (ret_sg rfl ZZ.out rfl) rfl ⟨HNO.out, BB.out⟩
  case pos =>
    obtain ⟨x0, x1, x2, x3, x4, x5, x6, x7, x8, x9, x10, x11, x12, rfl⟩ : ∃ x0 x1 x2 x3 x4 x5 x6 x7 x8 x9 x10 x11 x12, W = [x0, x1, x2, x3, x4, x5, x6, x7, x8, x9, x10, x11, x12] := by
      match W, h13 with
      | [y0, y1, y2, y3, y4, y5, y6, y7, y8, y9, y10, y11, y12], _ => exact ⟨y0, y1, y2, y3, y4, y5, y6, y7, y8, y9, y10, y11, y12, rfl⟩
    have hT2 := fun s => hT s x0 x1 x2 x3 x4 x5 x6 x7 x8 x9 x10 x11 x12 rfl
    have HT := Lib.hid hT2
    have lx0 := hwl x0 (by simp)
    have lx1 := hwl x1 (by simp)
    have lx2 := hwl x2 (by simp)
    have lx3 := hwl x3 (by simp)
    have lx4 := hwl x4 (by simp)
    have lx5 := hwl x5 (by simp)
    have lx6 := hwl x6 (by simp)
    have lx7 := hwl x7 (by simp)
    have lx8 := hwl x8 (by simp)
    have lx9 := hwl x9 (by simp)
    have lx10 := hwl x10 (by simp)
    have lx11 := hwl x11 (by simp)
    have lx12 := hwl x12 (by simp)
    clear hT hT2 hgt h13 hwl
    go_enter Tryz.func11, Tryz.ntmps11
    go_upto_region 1 with fail
    generalize w.alloc (.cells #[tx [], .int .i64 0, .int .i64 0, .int .i64 0, .int .i64 0, .int .i64 0, .int .i64 0, .int .i64 0, .int .i64 0, .int .i64 0, .int .i64 0] 25) = w0 at *
    have R1 := Lib.hid ((R0.out.alloc (.cells #[tx x0, tx x1, tx x2, tx x3, tx x4, tx x5, tx x6, tx x7, tx x8, tx x9, tx x10, tx x11, tx x12] 9)).alloc (.cells #[.slice (some ⟨w0.heap.size, 0, none⟩) 13 13, .bool false] 74))
    have S1 := Lib.hid ((Blk.new w0 9 #[tx x0, tx x1, tx x2, tx x3, tx x4, tx x5, tx x6, tx x7, tx x8, tx x9, tx x10, tx x11, tx x12]).alloc (.cells #[.slice (some ⟨w0.heap.size, 0, none⟩) 13 13, .bool false] 74))
    have G1 := Lib.hid (Blk.new (w0.alloc (.cells #[tx x0, tx x1, tx x2, tx x3, tx x4, tx x5, tx x6, tx x7, tx x8, tx x9, tx x10, tx x11, tx x12] 9)) 74 #[.slice (some ⟨w0.heap.size, 0, none⟩) 13 13, .bool false])
    have B1 := Lib.hid (B0.out.trans (((Below.refl w0.heap.size w0).alloc (Nat.le_refl _) (.cells #[tx x0, tx x1, tx x2, tx x3, tx x4, tx x5, tx x6, tx x7, tx x8, tx x9, tx x10, tx x11, tx x12] 9)).alloc (by simp) (.cells #[.slice (some ⟨w0.heap.size, 0, none⟩) 13 13, .bool false] 74) |>.mono B0.out.size))
    go_wp2_with fail
    (with_reducible refine (KS.out).mono ?_)
    rintro e w1 ⟨rfl, rfl⟩
    simp only [List.map_cons, List.map_nil]
    go_upto_region 2 with fail
    simp only [World.size_alloc] at G1
    generalize (w0.alloc (.cells #[tx x0, tx x1, tx x2, tx x3, tx x4, tx x5, tx x6, tx x7, tx x8, tx x9, tx x10, tx x11, tx x12] 9)).alloc (.cells #[.slice (some ⟨w0.heap.size, 0, none⟩) 13 13, .bool false] 74) = w1 at *
    have hgr : Hid (w.heap.size < w0.heap.size + 1) := Lib.hid (by have := HSZ.out; omega)
    have Q1 : Hid (RdC w1 (w0.heap.size + 1) (w0.heap.size + 1) [x0, x1, x2, x3, x4, x5, x6, x7, x8, x9, x10, x11, x12] false) := Lib.hid ⟨some ⟨w0.heap.size, 0, none⟩, 13, 13, G1.out, .inr ⟨w0.heap.size, 0, rfl, by omega, fun j x hx => by
      rw [S1.out.cell]
      have h9 : (([x0, x1, x2, x3, x4, x5, x6, x7, x8, x9, x10, x11, x12] : List Bs).map tx)[0 + j]? = some (tx x) := by rw [Nat.zero_add, List.getElem?_map, hx]; rfl
      simpa using h9⟩, rfl, Nat.le_refl _, by simp [maxLen], Nat.le_refl _⟩
    have yG : ∀ i, w1.cell? ⟨w0.heap.size + 1, i, none⟩ = (#[.slice (some ⟨w0.heap.size, 0, none⟩) 13 13, .bool false] : Array Value)[i]? := fun i => G1.out.cell i
    go_upto_region 4 with fail
    clear yG G1 S1 KS B0 R0
    obtain ⟨g, hg⟩ : ∃ g, w0.heap.size + 1 = g := ⟨_, rfl⟩
    rw [hg] at Q1 hgr ⊢
    clear hg HSZ
    go_wp2_with fail
    (refine (next_any g g x0 [x1, x2, x3, x4, x5, x6, x7, x8, x9, x10, x11, x12] false w1 Q1.out).mono ?_)
    rintro e w2 ⟨rfl, hR, hK⟩
    have Q2 := Lib.hid hR
    have R2 := Lib.hid (R1.out.kps hK (Nat.ne_of_lt hgr.out))
    have B2 := Lib.hid (B1.out.trans (hK.below (Nat.le_of_lt hgr.out) B1.out.size))
    clear hR hK R1 B1 Q1
    go_wp2_with fail
    (refine (limbs_any _).mono ?_)
    rintro e w3 ⟨rfl, hb⟩
    have Q3 := Lib.hid (Q2.out.bl hb)
    have R3 := Lib.hid (R2.out.below hb R2.out.lt)
    have B3 := Lib.hid (B2.out.trans (hb.mono B2.out.size))
    clear hb Q2 R2 B2
    go_wp2_with fail
    (refine (choiceK g g _ _ _ x1 [x2, x3, x4, x5, x6, x7, x8, x9, x10, x11, x12] false w3 Q3.out).mono ?_)
    rintro e w4 ⟨⟨k1, ok1, rfl, hR, f1, n1⟩, hK⟩
    have Q4 := Lib.hid hR
    have R4 := Lib.hid (R3.out.kps hK (Nat.ne_of_lt hgr.out))
    have B4 := Lib.hid (B3.out.trans (hK.below (Nat.le_of_lt hgr.out) B3.out.size))
    clear hR hK R3 B3 Q3
    have F1 := Lib.hid f1
    have N1 := Lib.hid n1
    clear f1 n1
    simp only [Bool.false_or] at Q4
    have hgx := Lib.hid (show g < w4.heap.size from Q4.out.lt)
    have X5 := Lib.hid (Blk.new w4 25 #[tx x0, .int .i64 k1, .int .i64 0, .int .i64 0, .int .i64 0, .int .i64 0, .int .i64 0, .int .i64 0, .int .i64 0, .int .i64 0, .int .i64 0])
    have Q5 := Lib.hid (Q4.out.bl (bl_alloc w4 (.cells #[tx x0, .int .i64 k1, .int .i64 0, .int .i64 0, .int .i64 0, .int .i64 0, .int .i64 0, .int .i64 0, .int .i64 0, .int .i64 0, .int .i64 0] 25)))
    have R5 := Lib.hid (R4.out.alloc (.cells #[tx x0, .int .i64 k1, .int .i64 0, .int .i64 0, .int .i64 0, .int .i64 0, .int .i64 0, .int .i64 0, .int .i64 0, .int .i64 0, .int .i64 0] 25))
    have B5 := Lib.hid (B4.out.trans ((bl_alloc w4 (.cells #[tx x0, .int .i64 k1, .int .i64 0, .int .i64 0, .int .i64 0, .int .i64 0, .int .i64 0, .int .i64 0, .int .i64 0, .int .i64 0, .int .i64 0] 25)).mono B4.out.size))
    go_upto_region 5 with fail
    generalize w4.alloc (.cells #[tx x0, .int .i64 k1, .int .i64 0, .int .i64 0, .int .i64 0, .int .i64 0, .int .i64 0, .int .i64 0, .int .i64 0, .int .i64 0, .int .i64 0] 25) = w5 at *
    obtain ⟨X, hX⟩ : ∃ X, w4.heap.size = X := ⟨_, rfl⟩
    rw [hX] at hgx X5 ⊢
    clear hX Q4 R4 B4
    have yX : ∀ i, w5.cell? ⟨X, i, none⟩ = (#[tx x0, .int .i64 k1, .int .i64 0, .int .i64 0, .int .i64 0, .int .i64 0, .int .i64 0, .int .i64 0, .int .i64 0, .int .i64 0, .int .i64 0] : Array Value)[i]? := fun i => X5.out.cell i
    obtain ⟨yw, zw⟩ := Q5.out.wrong
    have KN := Lib.hid (fun W => isName_any x0 W (by omega))
    obtain ⟨nb, hnb⟩ : ∃ nb, naB x0 = nb := ⟨_, rfl⟩
    rw [hnb] at KN
    have HNB := Lib.hid hnb
    clear hnb
    cases ok1 with
    | false =>
      simp only [Bool.not_false] at Q5 yw
      have X6 := Lib.hid (X5.out.far (p := ⟨g, 1, none⟩) (Nat.ne_of_gt hgx.out) (.bool true))
      have R6 := Lib.hid (R5.out.far (p := ⟨g, 1, none⟩) (Nat.ne_of_lt hgr.out) (.bool true))
      have Q6 := Lib.hid (Q5.out.set_ true).1
      have B6 := Lib.hid (B5.out.setCell (p := ⟨g, 1, none⟩) (Nat.le_of_lt hgr.out) (.bool true))
      go_upto_region 6 with fail
      clear yX yw zw R5 B5 Q5 X5
      generalize w5.setCell ⟨g, 1, none⟩ (.bool true) = w6 at *
      go_wp2_with fail
      (refine (instantK g g x2 x3 [x4, x5, x6, x7, x8, x9, x10, x11, x12] _ w6 Q6.out (by omega) (by omega) (fun w9 h9 => E0.out.bl (B6.out.trans (h9.below (Nat.le_of_lt hgr.out) B6.out.size)))).mono ?_)
      rintro e w7 ⟨⟨k2, ok2, rfl, hR, f, n⟩, hK⟩
      have Q7 := Lib.hid hR
      have R7 := Lib.hid (R6.out.kps hK (Nat.ne_of_lt hgr.out))
      have B7 := Lib.hid (B6.out.trans (hK.below (Nat.le_of_lt hgr.out) B6.out.size))
      have X7 := Lib.hid (X6.out.kps hK (Nat.ne_of_gt hgx.out))
      clear hR hK R6 B6 Q6 X6
      have F2 := Lib.hid f
      have N2 := Lib.hid n
      clear f n
      have zX : ∀ i, w7.frozen? ⟨X, i, none⟩ = false := fun i => X7.out.frozen i
      have yX : ∀ i, w7.cell? ⟨X, i, none⟩ = (#[tx x0, .int .i64 k1, .int .i64 0, .int .i64 0, .int .i64 0, .int .i64 0, .int .i64 0, .int .i64 0, .int .i64 0, .int .i64 0, .int .i64 0] : Array Value)[i]? := fun i => X7.out.cell i
      have X8 := Lib.hid ((show Blk (w7.setCell ⟨X, 2, none⟩ (.int .i64 k2)) X 25 #[tx x0, .int .i64 k1, .int .i64 k2, .int .i64 0, .int .i64 0, .int .i64 0, .int .i64 0, .int .i64 0, .int .i64 0, .int .i64 0, .int .i64 0] from by simpa using (X7.out).set_ 2 (.int .i64 k2)))
      have R8 := Lib.hid ((R7.out).far (p := ⟨X, 2, none⟩) (show w.heap.size ≠ X by have := hgx.out; have := hgr.out; omega) (.int .i64 k2))
      have Q8 := Lib.hid ((Q7.out).kps (Kps.set_ X 2 w7 (.int .i64 k2)) (Nat.ne_of_lt hgx.out) (Nat.le_of_lt hgx.out))
      have B8 := Lib.hid ((B7.out).setCell (p := ⟨X, 2, none⟩) (show w.heap.size ≤ X by have := hgx.out; have := hgr.out; omega) (.int .i64 k2))
      clear R7 Q7 B7 X7
      go_upto_region 7 with fail
      clear zX yX
      generalize (w7.setCell ⟨X, 2, none⟩ (.int .i64 k2)) = w8 at *
      go_wp2_with fail
      (refine (instantK g g x4 x5 [x6, x7, x8, x9, x10, x11, x12] _ w8 Q8.out (by omega) (by omega) (fun w9 h9 => E0.out.bl (B8.out.trans (h9.below (Nat.le_of_lt hgr.out) B8.out.size)))).mono ?_)
      rintro e w9 ⟨⟨k3, ok3, rfl, hR, f, n⟩, hK⟩
      have Q9 := Lib.hid hR
      have R9 := Lib.hid (R8.out.kps hK (Nat.ne_of_lt hgr.out))
      have B9 := Lib.hid (B8.out.trans (hK.below (Nat.le_of_lt hgr.out) B8.out.size))
      have X9 := Lib.hid (X8.out.kps hK (Nat.ne_of_gt hgx.out))
      clear hR hK R8 B8 Q8 X8
      have F3 := Lib.hid f
      have N3 := Lib.hid n
      clear f n
      have zX : ∀ i, w9.frozen? ⟨X, i, none⟩ = false := fun i => X9.out.frozen i
      have yX : ∀ i, w9.cell? ⟨X, i, none⟩ = (#[tx x0, .int .i64 k1, .int .i64 k2, .int .i64 0, .int .i64 0, .int .i64 0, .int .i64 0, .int .i64 0, .int .i64 0, .int .i64 0, .int .i64 0] : Array Value)[i]? := fun i => X9.out.cell i
      have X10 := Lib.hid ((show Blk (w9.setCell ⟨X, 3, none⟩ (.int .i64 k3)) X 25 #[tx x0, .int .i64 k1, .int .i64 k2, .int .i64 k3, .int .i64 0, .int .i64 0, .int .i64 0, .int .i64 0, .int .i64 0, .int .i64 0, .int .i64 0] from by simpa using (X9.out).set_ 3 (.int .i64 k3)))
      have R10 := Lib.hid ((R9.out).far (p := ⟨X, 3, none⟩) (show w.heap.size ≠ X by have := hgx.out; have := hgr.out; omega) (.int .i64 k3))
      have Q10 := Lib.hid ((Q9.out).kps (Kps.set_ X 3 w9 (.int .i64 k3)) (Nat.ne_of_lt hgx.out) (Nat.le_of_lt hgx.out))
      have B10 := Lib.hid ((B9.out).setCell (p := ⟨X, 3, none⟩) (show w.heap.size ≤ X by have := hgx.out; have := hgr.out; omega) (.int .i64 k3))
      clear R9 Q9 B9 X9
      go_upto_region 8 with fail
      clear zX yX
      generalize (w9.setCell ⟨X, 3, none⟩ (.int .i64 k3)) = w10 at *
      go_wp2_with fail
      (refine (angleK g g x6 [x7, x8, x9, x10, x11, x12] _ w10 Q10.out (by omega) (fun w9 h9 => E0.out.bl (B10.out.trans (h9.below (Nat.le_of_lt hgr.out) B10.out.size)))).mono ?_)
      rintro e w11 ⟨⟨k4, ok4, rfl, hR, f, n⟩, hK⟩
      have Q11 := Lib.hid hR
      have R11 := Lib.hid (R10.out.kps hK (Nat.ne_of_lt hgr.out))
      have B11 := Lib.hid (B10.out.trans (hK.below (Nat.le_of_lt hgr.out) B10.out.size))
      have X11 := Lib.hid (X10.out.kps hK (Nat.ne_of_gt hgx.out))
      clear hR hK R10 B10 Q10 X10
      have F4 := Lib.hid f
      have N4 := Lib.hid n
      clear f n
      have zX : ∀ i, w11.frozen? ⟨X, i, none⟩ = false := fun i => X11.out.frozen i
      have yX : ∀ i, w11.cell? ⟨X, i, none⟩ = (#[tx x0, .int .i64 k1, .int .i64 k2, .int .i64 k3, .int .i64 0, .int .i64 0, .int .i64 0, .int .i64 0, .int .i64 0, .int .i64 0, .int .i64 0] : Array Value)[i]? := fun i => X11.out.cell i
      have X12 := Lib.hid ((show Blk (w11.setCell ⟨X, 4, none⟩ (.int .i64 k4)) X 25 #[tx x0, .int .i64 k1, .int .i64 k2, .int .i64 k3, .int .i64 k4, .int .i64 0, .int .i64 0, .int .i64 0, .int .i64 0, .int .i64 0, .int .i64 0] from by simpa using (X11.out).set_ 4 (.int .i64 k4)))
      have R12 := Lib.hid ((R11.out).far (p := ⟨X, 4, none⟩) (show w.heap.size ≠ X by have := hgx.out; have := hgr.out; omega) (.int .i64 k4))
      have Q12 := Lib.hid ((Q11.out).kps (Kps.set_ X 4 w11 (.int .i64 k4)) (Nat.ne_of_lt hgx.out) (Nat.le_of_lt hgx.out))
      have B12 := Lib.hid ((B11.out).setCell (p := ⟨X, 4, none⟩) (show w.heap.size ≤ X by have := hgx.out; have := hgr.out; omega) (.int .i64 k4))
      clear R11 Q11 B11 X11
      go_upto_region 9 with fail
      clear zX yX
      generalize (w11.setCell ⟨X, 4, none⟩ (.int .i64 k4)) = w12 at *
      go_wp2_with fail
      (refine (angleK g g x7 [x8, x9, x10, x11, x12] _ w12 Q12.out (by omega) (fun w9 h9 => E0.out.bl (B12.out.trans (h9.below (Nat.le_of_lt hgr.out) B12.out.size)))).mono ?_)
      rintro e w13 ⟨⟨k5, ok5, rfl, hR, f, n⟩, hK⟩
      have Q13 := Lib.hid hR
      have R13 := Lib.hid (R12.out.kps hK (Nat.ne_of_lt hgr.out))
      have B13 := Lib.hid (B12.out.trans (hK.below (Nat.le_of_lt hgr.out) B12.out.size))
      have X13 := Lib.hid (X12.out.kps hK (Nat.ne_of_gt hgx.out))
      clear hR hK R12 B12 Q12 X12
      have F5 := Lib.hid f
      have N5 := Lib.hid n
      clear f n
      have zX : ∀ i, w13.frozen? ⟨X, i, none⟩ = false := fun i => X13.out.frozen i
      have yX : ∀ i, w13.cell? ⟨X, i, none⟩ = (#[tx x0, .int .i64 k1, .int .i64 k2, .int .i64 k3, .int .i64 k4, .int .i64 0, .int .i64 0, .int .i64 0, .int .i64 0, .int .i64 0, .int .i64 0] : Array Value)[i]? := fun i => X13.out.cell i
      have X14 := Lib.hid ((show Blk (w13.setCell ⟨X, 5, none⟩ (.int .i64 k5)) X 25 #[tx x0, .int .i64 k1, .int .i64 k2, .int .i64 k3, .int .i64 k4, .int .i64 k5, .int .i64 0, .int .i64 0, .int .i64 0, .int .i64 0, .int .i64 0] from by simpa using (X13.out).set_ 5 (.int .i64 k5)))
      have R14 := Lib.hid ((R13.out).far (p := ⟨X, 5, none⟩) (show w.heap.size ≠ X by have := hgx.out; have := hgr.out; omega) (.int .i64 k5))
      have Q14 := Lib.hid ((Q13.out).kps (Kps.set_ X 5 w13 (.int .i64 k5)) (Nat.ne_of_lt hgx.out) (Nat.le_of_lt hgx.out))
      have B14 := Lib.hid ((B13.out).setCell (p := ⟨X, 5, none⟩) (show w.heap.size ≤ X by have := hgx.out; have := hgr.out; omega) (.int .i64 k5))
      clear R13 Q13 B13 X13
      go_upto_region 10 with fail
      clear zX yX
      generalize (w13.setCell ⟨X, 5, none⟩ (.int .i64 k5)) = w14 at *
      go_wp2_with fail
      (refine (horizons_any _).mono ?_)
      rintro e w15 ⟨rfl, hb⟩
      have Q15 := Lib.hid (Q14.out.bl hb)
      have R15 := Lib.hid (R14.out.below hb R14.out.lt)
      have X15 := Lib.hid (X14.out.below hb X14.out.lt)
      have B15 := Lib.hid (B14.out.trans (hb.mono B14.out.size))
      clear hb Q14 R14 B14 X14
      go_wp2_with fail
      (refine (choiceK g g _ _ _ x8 [x9, x10, x11, x12] _ w15 Q15.out).mono ?_)
      rintro e w16 ⟨⟨k6, ok6, rfl, hR, f, n⟩, hK⟩
      have Q16 := Lib.hid hR
      have R16 := Lib.hid (R15.out.kps hK (Nat.ne_of_lt hgr.out))
      have B16 := Lib.hid (B15.out.trans (hK.below (Nat.le_of_lt hgr.out) B15.out.size))
      have X16 := Lib.hid (X15.out.kps hK (Nat.ne_of_gt hgx.out))
      clear hR hK R15 B15 Q15 X15
      have F6 := Lib.hid f
      have N6 := Lib.hid n
      clear f n
      have zX : ∀ i, w16.frozen? ⟨X, i, none⟩ = false := fun i => X16.out.frozen i
      have yX : ∀ i, w16.cell? ⟨X, i, none⟩ = (#[tx x0, .int .i64 k1, .int .i64 k2, .int .i64 k3, .int .i64 k4, .int .i64 k5, .int .i64 0, .int .i64 0, .int .i64 0, .int .i64 0, .int .i64 0] : Array Value)[i]? := fun i => X16.out.cell i
      have X17 := Lib.hid ((show Blk (w16.setCell ⟨X, 6, none⟩ (.int .i64 k6)) X 25 #[tx x0, .int .i64 k1, .int .i64 k2, .int .i64 k3, .int .i64 k4, .int .i64 k5, .int .i64 k6, .int .i64 0, .int .i64 0, .int .i64 0, .int .i64 0] from by simpa using (X16.out).set_ 6 (.int .i64 k6)))
      have R17 := Lib.hid ((R16.out).far (p := ⟨X, 6, none⟩) (show w.heap.size ≠ X by have := hgx.out; have := hgr.out; omega) (.int .i64 k6))
      have Q17 := Lib.hid ((Q16.out).kps (Kps.set_ X 6 w16 (.int .i64 k6)) (Nat.ne_of_lt hgx.out) (Nat.le_of_lt hgx.out))
      have B17 := Lib.hid ((B16.out).setCell (p := ⟨X, 6, none⟩) (show w.heap.size ≤ X by have := hgx.out; have := hgr.out; omega) (.int .i64 k6))
      clear R16 Q16 B16 X16
      go_upto_region 11 with fail
      clear zX yX
      generalize (w16.setCell ⟨X, 6, none⟩ (.int .i64 k6)) = w17 at *
      go_wp2_with fail
      (refine (integerK g g x9 [x10, x11, x12] _ w17 Q17.out (by omega) (fun w9 h9 => E0.out.bl (B17.out.trans (h9.below (Nat.le_of_lt hgr.out) B17.out.size)))).mono ?_)
      rintro e w18 ⟨⟨k7, ok7, rfl, hR, f, n⟩, hK⟩
      have Q18 := Lib.hid hR
      have R18 := Lib.hid (R17.out.kps hK (Nat.ne_of_lt hgr.out))
      have B18 := Lib.hid (B17.out.trans (hK.below (Nat.le_of_lt hgr.out) B17.out.size))
      have X18 := Lib.hid (X17.out.kps hK (Nat.ne_of_gt hgx.out))
      clear hR hK R17 B17 Q17 X17
      have F7 := Lib.hid f
      have N7 := Lib.hid n
      clear f n
      go_wp2_with fail
      (refine (integerK g g x10 [x11, x12] _ w18 Q18.out (by omega) (fun w9 h9 => E0.out.bl (B18.out.trans (h9.below (Nat.le_of_lt hgr.out) B18.out.size)))).mono ?_)
      rintro e w19 ⟨⟨k8, ok8, rfl, hR, f, n⟩, hK⟩
      have Q19 := Lib.hid hR
      have R19 := Lib.hid (R18.out.kps hK (Nat.ne_of_lt hgr.out))
      have B19 := Lib.hid (B18.out.trans (hK.below (Nat.le_of_lt hgr.out) B18.out.size))
      have X19 := Lib.hid (X18.out.kps hK (Nat.ne_of_gt hgx.out))
      clear hR hK R18 B18 Q18 X18
      have F8 := Lib.hid f
      have N8 := Lib.hid n
      clear f n
      have zX : ∀ i, w19.frozen? ⟨X, i, none⟩ = false := fun i => X19.out.frozen i
      have yX : ∀ i, w19.cell? ⟨X, i, none⟩ = (#[tx x0, .int .i64 k1, .int .i64 k2, .int .i64 k3, .int .i64 k4, .int .i64 k5, .int .i64 k6, .int .i64 0, .int .i64 0, .int .i64 0, .int .i64 0] : Array Value)[i]? := fun i => X19.out.cell i
      have X20 := Lib.hid ((show Blk ((w19.setCell ⟨X, 7, none⟩ (.int .i64 k7)).setCell ⟨X, 8, none⟩ (.int .i64 k8)) X 25 #[tx x0, .int .i64 k1, .int .i64 k2, .int .i64 k3, .int .i64 k4, .int .i64 k5, .int .i64 k6, .int .i64 k7, .int .i64 k8, .int .i64 0, .int .i64 0] from by simpa using ((show Blk (w19.setCell ⟨X, 7, none⟩ (.int .i64 k7)) X 25 #[tx x0, .int .i64 k1, .int .i64 k2, .int .i64 k3, .int .i64 k4, .int .i64 k5, .int .i64 k6, .int .i64 k7, .int .i64 0, .int .i64 0, .int .i64 0] from by simpa using (X19.out).set_ 7 (.int .i64 k7))).set_ 8 (.int .i64 k8)))
      have R20 := Lib.hid (((R19.out).far (p := ⟨X, 7, none⟩) (show w.heap.size ≠ X by have := hgx.out; have := hgr.out; omega) (.int .i64 k7)).far (p := ⟨X, 8, none⟩) (show w.heap.size ≠ X by have := hgx.out; have := hgr.out; omega) (.int .i64 k8))
      have Q20 := Lib.hid (((Q19.out).kps (Kps.set_ X 7 w19 (.int .i64 k7)) (Nat.ne_of_lt hgx.out) (Nat.le_of_lt hgx.out)).kps (Kps.set_ X 8 (w19.setCell ⟨X, 7, none⟩ (.int .i64 k7)) (.int .i64 k8)) (Nat.ne_of_lt hgx.out) (Nat.le_of_lt hgx.out))
      have B20 := Lib.hid (((B19.out).setCell (p := ⟨X, 7, none⟩) (show w.heap.size ≤ X by have := hgx.out; have := hgr.out; omega) (.int .i64 k7)).setCell (p := ⟨X, 8, none⟩) (show w.heap.size ≤ X by have := hgx.out; have := hgr.out; omega) (.int .i64 k8))
      clear R19 Q19 B19 X19
      go_upto_region 12 with fail
      clear zX yX
      generalize ((w19.setCell ⟨X, 7, none⟩ (.int .i64 k7)).setCell ⟨X, 8, none⟩ (.int .i64 k8)) = w20 at *
      go_wp2_with fail
      (refine (integerK g g x11 [x12] _ w20 Q20.out (by omega) (fun w9 h9 => E0.out.bl (B20.out.trans (h9.below (Nat.le_of_lt hgr.out) B20.out.size)))).mono ?_)
      rintro e w21 ⟨⟨k9, ok9, rfl, hR, f, n⟩, hK⟩
      have Q21 := Lib.hid hR
      have R21 := Lib.hid (R20.out.kps hK (Nat.ne_of_lt hgr.out))
      have B21 := Lib.hid (B20.out.trans (hK.below (Nat.le_of_lt hgr.out) B20.out.size))
      have X21 := Lib.hid (X20.out.kps hK (Nat.ne_of_gt hgx.out))
      clear hR hK R20 B20 Q20 X20
      have F9 := Lib.hid f
      have N9 := Lib.hid n
      clear f n
      go_wp2_with fail
      (refine (integerK g g x12 [] _ w21 Q21.out (by omega) (fun w9 h9 => E0.out.bl (B21.out.trans (h9.below (Nat.le_of_lt hgr.out) B21.out.size)))).mono ?_)
      rintro e w22 ⟨⟨k10, ok10, rfl, hR, f, n⟩, hK⟩
      have Q22 := Lib.hid hR
      have R22 := Lib.hid (R21.out.kps hK (Nat.ne_of_lt hgr.out))
      have B22 := Lib.hid (B21.out.trans (hK.below (Nat.le_of_lt hgr.out) B21.out.size))
      have X22 := Lib.hid (X21.out.kps hK (Nat.ne_of_gt hgx.out))
      clear hR hK R21 B21 Q21 X21
      have F10 := Lib.hid f
      have N10 := Lib.hid n
      clear f n
      have zX : ∀ i, w22.frozen? ⟨X, i, none⟩ = false := fun i => X22.out.frozen i
      have yX : ∀ i, w22.cell? ⟨X, i, none⟩ = (#[tx x0, .int .i64 k1, .int .i64 k2, .int .i64 k3, .int .i64 k4, .int .i64 k5, .int .i64 k6, .int .i64 k7, .int .i64 k8, .int .i64 0, .int .i64 0] : Array Value)[i]? := fun i => X22.out.cell i
      have X23 := Lib.hid ((show Blk ((w22.setCell ⟨X, 9, none⟩ (.int .i64 k9)).setCell ⟨X, 10, none⟩ (.int .i64 k10)) X 25 #[tx x0, .int .i64 k1, .int .i64 k2, .int .i64 k3, .int .i64 k4, .int .i64 k5, .int .i64 k6, .int .i64 k7, .int .i64 k8, .int .i64 k9, .int .i64 k10] from by simpa using ((show Blk (w22.setCell ⟨X, 9, none⟩ (.int .i64 k9)) X 25 #[tx x0, .int .i64 k1, .int .i64 k2, .int .i64 k3, .int .i64 k4, .int .i64 k5, .int .i64 k6, .int .i64 k7, .int .i64 k8, .int .i64 k9, .int .i64 0] from by simpa using (X22.out).set_ 9 (.int .i64 k9))).set_ 10 (.int .i64 k10)))
      have R23 := Lib.hid (((R22.out).far (p := ⟨X, 9, none⟩) (show w.heap.size ≠ X by have := hgx.out; have := hgr.out; omega) (.int .i64 k9)).far (p := ⟨X, 10, none⟩) (show w.heap.size ≠ X by have := hgx.out; have := hgr.out; omega) (.int .i64 k10))
      have Q23 := Lib.hid (((Q22.out).kps (Kps.set_ X 9 w22 (.int .i64 k9)) (Nat.ne_of_lt hgx.out) (Nat.le_of_lt hgx.out)).kps (Kps.set_ X 10 (w22.setCell ⟨X, 9, none⟩ (.int .i64 k9)) (.int .i64 k10)) (Nat.ne_of_lt hgx.out) (Nat.le_of_lt hgx.out))
      have B23 := Lib.hid (((B22.out).setCell (p := ⟨X, 9, none⟩) (show w.heap.size ≤ X by have := hgx.out; have := hgr.out; omega) (.int .i64 k9)).setCell (p := ⟨X, 10, none⟩) (show w.heap.size ≤ X by have := hgx.out; have := hgr.out; omega) (.int .i64 k10))
      clear R22 Q22 B22 X22
      go_upto_region 13 with fail
      clear zX yX
      generalize ((w22.setCell ⟨X, 9, none⟩ (.int .i64 k9)).setCell ⟨X, 10, none⟩ (.int .i64 k10)) = w23 at *
      obtain ⟨yw, zw⟩ := Q23.out.wrong
      simp only [Bool.true_or] at Q23 yw
      have HNO : Hid (¬ ∃ s, GoodT s t) := Lib.hid fun ⟨s, hs⟩ => by
        have h := (HT.out s).1 hs
        exact N1.out (by trivial) ⟨s.limb, h.h1.2.1, h.h1.2.2, h.h1.1⟩
      go_upto_region 14 with fail
      iterate 4 go_step
      refine wpList_store_row rfl _ (.tmp 2) (.tmp 71) rfl _ _ rfl rfl _ _ R23.out (by kernel_rfl) (by rfl) (by simp [Value.oneCell']) ?_
      simp only [Act.put, List.setIfInBounds_toArray, List.set_cons_zero, List.set_cons_succ]
      have ZZ := Lib.hid (Blk.rowW R23.out #[tx [], .int .i64 0, .int .i64 0, .int .i64 0, .int .i64 0, .int .i64 0, .int .i64 0, .int .i64 0, .int .i64 0, .int .i64 0, .int .i64 0])
      have BB := Lib.hid (bl_setRowW (g := w.heap.size) B23.out (Nat.le_refl _) #[tx [], .int .i64 0, .int .i64 0, .int .i64 0, .int .i64 0, .int .i64 0, .int .i64 0, .int .i64 0, .int .i64 0, .int .i64 0, .int .i64 0])
      generalize w23.setRow w.heap.size #[tx [], .int .i64 0, .int .i64 0, .int .i64 0, .int .i64 0, .int .i64 0, .int .i64 0, .int .i64 0, .int .i64 0, .int .i64 0, .int .i64 0] = wz at *
      go_wp2
      exact bodyPost_ret_by (ret_sg rfl ZZ.out rfl) rfl ⟨P3.out HNO.out, BB.out⟩
    | true =>
      simp only [Bool.not_true] at Q5 yw
      have X6 := Lib.hid (X5.out.far (p := ⟨g, 1, none⟩) (Nat.ne_of_gt hgx.out) (.bool (!nb)))
      have R6 := Lib.hid (R5.out.far (p := ⟨g, 1, none⟩) (Nat.ne_of_lt hgr.out) (.bool (!nb)))
      have Q6 := Lib.hid (Q5.out.set_ (!nb)).1
      have B6 := Lib.hid (B5.out.setCell (p := ⟨g, 1, none⟩) (Nat.le_of_lt hgr.out) (.bool (!nb)))
      go_upto_region 6 with (go_at_call 39; (refine (KN.out _).mono ?_); rintro e w5b ⟨rfl, rfl⟩)
      clear yX yw zw R5 B5 Q5 X5
      generalize w5b.setCell ⟨g, 1, none⟩ (.bool (!nb)) = w6 at *
      go_wp2_with fail
      (refine (instantK g g x2 x3 [x4, x5, x6, x7, x8, x9, x10, x11, x12] _ w6 Q6.out (by omega) (by omega) (fun w9 h9 => E0.out.bl (B6.out.trans (h9.below (Nat.le_of_lt hgr.out) B6.out.size)))).mono ?_)
      rintro e w7 ⟨⟨k2, ok2, rfl, hR, f, n⟩, hK⟩
      have Q7 := Lib.hid hR
      have R7 := Lib.hid (R6.out.kps hK (Nat.ne_of_lt hgr.out))
      have B7 := Lib.hid (B6.out.trans (hK.below (Nat.le_of_lt hgr.out) B6.out.size))
      have X7 := Lib.hid (X6.out.kps hK (Nat.ne_of_gt hgx.out))
      clear hR hK R6 B6 Q6 X6
      have F2 := Lib.hid f
      have N2 := Lib.hid n
      clear f n
      have zX : ∀ i, w7.frozen? ⟨X, i, none⟩ = false := fun i => X7.out.frozen i
      have yX : ∀ i, w7.cell? ⟨X, i, none⟩ = (#[tx x0, .int .i64 k1, .int .i64 0, .int .i64 0, .int .i64 0, .int .i64 0, .int .i64 0, .int .i64 0, .int .i64 0, .int .i64 0, .int .i64 0] : Array Value)[i]? := fun i => X7.out.cell i
      have X8 := Lib.hid ((show Blk (w7.setCell ⟨X, 2, none⟩ (.int .i64 k2)) X 25 #[tx x0, .int .i64 k1, .int .i64 k2, .int .i64 0, .int .i64 0, .int .i64 0, .int .i64 0, .int .i64 0, .int .i64 0, .int .i64 0, .int .i64 0] from by simpa using (X7.out).set_ 2 (.int .i64 k2)))
      have R8 := Lib.hid ((R7.out).far (p := ⟨X, 2, none⟩) (show w.heap.size ≠ X by have := hgx.out; have := hgr.out; omega) (.int .i64 k2))
      have Q8 := Lib.hid ((Q7.out).kps (Kps.set_ X 2 w7 (.int .i64 k2)) (Nat.ne_of_lt hgx.out) (Nat.le_of_lt hgx.out))
      have B8 := Lib.hid ((B7.out).setCell (p := ⟨X, 2, none⟩) (show w.heap.size ≤ X by have := hgx.out; have := hgr.out; omega) (.int .i64 k2))
      clear R7 Q7 B7 X7
      go_upto_region 7 with fail
      clear zX yX
      generalize (w7.setCell ⟨X, 2, none⟩ (.int .i64 k2)) = w8 at *
      go_wp2_with fail
      (refine (instantK g g x4 x5 [x6, x7, x8, x9, x10, x11, x12] _ w8 Q8.out (by omega) (by omega) (fun w9 h9 => E0.out.bl (B8.out.trans (h9.below (Nat.le_of_lt hgr.out) B8.out.size)))).mono ?_)
      rintro e w9 ⟨⟨k3, ok3, rfl, hR, f, n⟩, hK⟩
      have Q9 := Lib.hid hR
      have R9 := Lib.hid (R8.out.kps hK (Nat.ne_of_lt hgr.out))
      have B9 := Lib.hid (B8.out.trans (hK.below (Nat.le_of_lt hgr.out) B8.out.size))
      have X9 := Lib.hid (X8.out.kps hK (Nat.ne_of_gt hgx.out))
      clear hR hK R8 B8 Q8 X8
      have F3 := Lib.hid f
      have N3 := Lib.hid n
      clear f n
      have zX : ∀ i, w9.frozen? ⟨X, i, none⟩ = false := fun i => X9.out.frozen i
      have yX : ∀ i, w9.cell? ⟨X, i, none⟩ = (#[tx x0, .int .i64 k1, .int .i64 k2, .int .i64 0, .int .i64 0, .int .i64 0, .int .i64 0, .int .i64 0, .int .i64 0, .int .i64 0, .int .i64 0] : Array Value)[i]? := fun i => X9.out.cell i
      have X10 := Lib.hid ((show Blk (w9.setCell ⟨X, 3, none⟩ (.int .i64 k3)) X 25 #[tx x0, .int .i64 k1, .int .i64 k2, .int .i64 k3, .int .i64 0, .int .i64 0, .int .i64 0, .int .i64 0, .int .i64 0, .int .i64 0, .int .i64 0] from by simpa using (X9.out).set_ 3 (.int .i64 k3)))
      have R10 := Lib.hid ((R9.out).far (p := ⟨X, 3, none⟩) (show w.heap.size ≠ X by have := hgx.out; have := hgr.out; omega) (.int .i64 k3))
      have Q10 := Lib.hid ((Q9.out).kps (Kps.set_ X 3 w9 (.int .i64 k3)) (Nat.ne_of_lt hgx.out) (Nat.le_of_lt hgx.out))
      have B10 := Lib.hid ((B9.out).setCell (p := ⟨X, 3, none⟩) (show w.heap.size ≤ X by have := hgx.out; have := hgr.out; omega) (.int .i64 k3))
      clear R9 Q9 B9 X9
      go_upto_region 8 with fail
      clear zX yX
      generalize (w9.setCell ⟨X, 3, none⟩ (.int .i64 k3)) = w10 at *
      go_wp2_with fail
      (refine (angleK g g x6 [x7, x8, x9, x10, x11, x12] _ w10 Q10.out (by omega) (fun w9 h9 => E0.out.bl (B10.out.trans (h9.below (Nat.le_of_lt hgr.out) B10.out.size)))).mono ?_)
      rintro e w11 ⟨⟨k4, ok4, rfl, hR, f, n⟩, hK⟩
      have Q11 := Lib.hid hR
      have R11 := Lib.hid (R10.out.kps hK (Nat.ne_of_lt hgr.out))
      have B11 := Lib.hid (B10.out.trans (hK.below (Nat.le_of_lt hgr.out) B10.out.size))
      have X11 := Lib.hid (X10.out.kps hK (Nat.ne_of_gt hgx.out))
      clear hR hK R10 B10 Q10 X10
      have F4 := Lib.hid f
      have N4 := Lib.hid n
      clear f n
      have zX : ∀ i, w11.frozen? ⟨X, i, none⟩ = false := fun i => X11.out.frozen i
      have yX : ∀ i, w11.cell? ⟨X, i, none⟩ = (#[tx x0, .int .i64 k1, .int .i64 k2, .int .i64 k3, .int .i64 0, .int .i64 0, .int .i64 0, .int .i64 0, .int .i64 0, .int .i64 0, .int .i64 0] : Array Value)[i]? := fun i => X11.out.cell i
      have X12 := Lib.hid ((show Blk (w11.setCell ⟨X, 4, none⟩ (.int .i64 k4)) X 25 #[tx x0, .int .i64 k1, .int .i64 k2, .int .i64 k3, .int .i64 k4, .int .i64 0, .int .i64 0, .int .i64 0, .int .i64 0, .int .i64 0, .int .i64 0] from by simpa using (X11.out).set_ 4 (.int .i64 k4)))
      have R12 := Lib.hid ((R11.out).far (p := ⟨X, 4, none⟩) (show w.heap.size ≠ X by have := hgx.out; have := hgr.out; omega) (.int .i64 k4))
      have Q12 := Lib.hid ((Q11.out).kps (Kps.set_ X 4 w11 (.int .i64 k4)) (Nat.ne_of_lt hgx.out) (Nat.le_of_lt hgx.out))
      have B12 := Lib.hid ((B11.out).setCell (p := ⟨X, 4, none⟩) (show w.heap.size ≤ X by have := hgx.out; have := hgr.out; omega) (.int .i64 k4))
      clear R11 Q11 B11 X11
      go_upto_region 9 with fail
      clear zX yX
      generalize (w11.setCell ⟨X, 4, none⟩ (.int .i64 k4)) = w12 at *
      go_wp2_with fail
      (refine (angleK g g x7 [x8, x9, x10, x11, x12] _ w12 Q12.out (by omega) (fun w9 h9 => E0.out.bl (B12.out.trans (h9.below (Nat.le_of_lt hgr.out) B12.out.size)))).mono ?_)
      rintro e w13 ⟨⟨k5, ok5, rfl, hR, f, n⟩, hK⟩
      have Q13 := Lib.hid hR
      have R13 := Lib.hid (R12.out.kps hK (Nat.ne_of_lt hgr.out))
      have B13 := Lib.hid (B12.out.trans (hK.below (Nat.le_of_lt hgr.out) B12.out.size))
      have X13 := Lib.hid (X12.out.kps hK (Nat.ne_of_gt hgx.out))
      clear hR hK R12 B12 Q12 X12
      have F5 := Lib.hid f
      have N5 := Lib.hid n
      clear f n
      have zX : ∀ i, w13.frozen? ⟨X, i, none⟩ = false := fun i => X13.out.frozen i
      have yX : ∀ i, w13.cell? ⟨X, i, none⟩ = (#[tx x0, .int .i64 k1, .int .i64 k2, .int .i64 k3, .int .i64 k4, .int .i64 0, .int .i64 0, .int .i64 0, .int .i64 0, .int .i64 0, .int .i64 0] : Array Value)[i]? := fun i => X13.out.cell i
      have X14 := Lib.hid ((show Blk (w13.setCell ⟨X, 5, none⟩ (.int .i64 k5)) X 25 #[tx x0, .int .i64 k1, .int .i64 k2, .int .i64 k3, .int .i64 k4, .int .i64 k5, .int .i64 0, .int .i64 0, .int .i64 0, .int .i64 0, .int .i64 0] from by simpa using (X13.out).set_ 5 (.int .i64 k5)))
      have R14 := Lib.hid ((R13.out).far (p := ⟨X, 5, none⟩) (show w.heap.size ≠ X by have := hgx.out; have := hgr.out; omega) (.int .i64 k5))
      have Q14 := Lib.hid ((Q13.out).kps (Kps.set_ X 5 w13 (.int .i64 k5)) (Nat.ne_of_lt hgx.out) (Nat.le_of_lt hgx.out))
      have B14 := Lib.hid ((B13.out).setCell (p := ⟨X, 5, none⟩) (show w.heap.size ≤ X by have := hgx.out; have := hgr.out; omega) (.int .i64 k5))
      clear R13 Q13 B13 X13
      go_upto_region 10 with fail
      clear zX yX
      generalize (w13.setCell ⟨X, 5, none⟩ (.int .i64 k5)) = w14 at *
      go_wp2_with fail
      (refine (horizons_any _).mono ?_)
      rintro e w15 ⟨rfl, hb⟩
      have Q15 := Lib.hid (Q14.out.bl hb)
      have R15 := Lib.hid (R14.out.below hb R14.out.lt)
      have X15 := Lib.hid (X14.out.below hb X14.out.lt)
      have B15 := Lib.hid (B14.out.trans (hb.mono B14.out.size))
      clear hb Q14 R14 B14 X14
      go_wp2_with fail
      (refine (choiceK g g _ _ _ x8 [x9, x10, x11, x12] _ w15 Q15.out).mono ?_)
      rintro e w16 ⟨⟨k6, ok6, rfl, hR, f, n⟩, hK⟩
      have Q16 := Lib.hid hR
      have R16 := Lib.hid (R15.out.kps hK (Nat.ne_of_lt hgr.out))
      have B16 := Lib.hid (B15.out.trans (hK.below (Nat.le_of_lt hgr.out) B15.out.size))
      have X16 := Lib.hid (X15.out.kps hK (Nat.ne_of_gt hgx.out))
      clear hR hK R15 B15 Q15 X15
      have F6 := Lib.hid f
      have N6 := Lib.hid n
      clear f n
      have zX : ∀ i, w16.frozen? ⟨X, i, none⟩ = false := fun i => X16.out.frozen i
      have yX : ∀ i, w16.cell? ⟨X, i, none⟩ = (#[tx x0, .int .i64 k1, .int .i64 k2, .int .i64 k3, .int .i64 k4, .int .i64 k5, .int .i64 0, .int .i64 0, .int .i64 0, .int .i64 0, .int .i64 0] : Array Value)[i]? := fun i => X16.out.cell i
      have X17 := Lib.hid ((show Blk (w16.setCell ⟨X, 6, none⟩ (.int .i64 k6)) X 25 #[tx x0, .int .i64 k1, .int .i64 k2, .int .i64 k3, .int .i64 k4, .int .i64 k5, .int .i64 k6, .int .i64 0, .int .i64 0, .int .i64 0, .int .i64 0] from by simpa using (X16.out).set_ 6 (.int .i64 k6)))
      have R17 := Lib.hid ((R16.out).far (p := ⟨X, 6, none⟩) (show w.heap.size ≠ X by have := hgx.out; have := hgr.out; omega) (.int .i64 k6))
      have Q17 := Lib.hid ((Q16.out).kps (Kps.set_ X 6 w16 (.int .i64 k6)) (Nat.ne_of_lt hgx.out) (Nat.le_of_lt hgx.out))
      have B17 := Lib.hid ((B16.out).setCell (p := ⟨X, 6, none⟩) (show w.heap.size ≤ X by have := hgx.out; have := hgr.out; omega) (.int .i64 k6))
      clear R16 Q16 B16 X16
      go_upto_region 11 with fail
      clear zX yX
      generalize (w16.setCell ⟨X, 6, none⟩ (.int .i64 k6)) = w17 at *
      go_wp2_with fail
      (refine (integerK g g x9 [x10, x11, x12] _ w17 Q17.out (by omega) (fun w9 h9 => E0.out.bl (B17.out.trans (h9.below (Nat.le_of_lt hgr.out) B17.out.size)))).mono ?_)
      rintro e w18 ⟨⟨k7, ok7, rfl, hR, f, n⟩, hK⟩
      have Q18 := Lib.hid hR
      have R18 := Lib.hid (R17.out.kps hK (Nat.ne_of_lt hgr.out))
      have B18 := Lib.hid (B17.out.trans (hK.below (Nat.le_of_lt hgr.out) B17.out.size))
      have X18 := Lib.hid (X17.out.kps hK (Nat.ne_of_gt hgx.out))
      clear hR hK R17 B17 Q17 X17
      have F7 := Lib.hid f
      have N7 := Lib.hid n
      clear f n
      go_wp2_with fail
      (refine (integerK g g x10 [x11, x12] _ w18 Q18.out (by omega) (fun w9 h9 => E0.out.bl (B18.out.trans (h9.below (Nat.le_of_lt hgr.out) B18.out.size)))).mono ?_)
      rintro e w19 ⟨⟨k8, ok8, rfl, hR, f, n⟩, hK⟩
      have Q19 := Lib.hid hR
      have R19 := Lib.hid (R18.out.kps hK (Nat.ne_of_lt hgr.out))
      have B19 := Lib.hid (B18.out.trans (hK.below (Nat.le_of_lt hgr.out) B18.out.size))
      have X19 := Lib.hid (X18.out.kps hK (Nat.ne_of_gt hgx.out))
      clear hR hK R18 B18 Q18 X18
      have F8 := Lib.hid f
      have N8 := Lib.hid n
      clear f n
      have zX : ∀ i, w19.frozen? ⟨X, i, none⟩ = false := fun i => X19.out.frozen i
      have yX : ∀ i, w19.cell? ⟨X, i, none⟩ = (#[tx x0, .int .i64 k1, .int .i64 k2, .int .i64 k3, .int .i64 k4, .int .i64 k5, .int .i64 k6, .int .i64 0, .int .i64 0, .int .i64 0, .int .i64 0] : Array Value)[i]? := fun i => X19.out.cell i
      have X20 := Lib.hid ((show Blk ((w19.setCell ⟨X, 7, none⟩ (.int .i64 k7)).setCell ⟨X, 8, none⟩ (.int .i64 k8)) X 25 #[tx x0, .int .i64 k1, .int .i64 k2, .int .i64 k3, .int .i64 k4, .int .i64 k5, .int .i64 k6, .int .i64 k7, .int .i64 k8, .int .i64 0, .int .i64 0] from by simpa using ((show Blk (w19.setCell ⟨X, 7, none⟩ (.int .i64 k7)) X 25 #[tx x0, .int .i64 k1, .int .i64 k2, .int .i64 k3, .int .i64 k4, .int .i64 k5, .int .i64 k6, .int .i64 k7, .int .i64 0, .int .i64 0, .int .i64 0] from by simpa using (X19.out).set_ 7 (.int .i64 k7))).set_ 8 (.int .i64 k8)))
      have R20 := Lib.hid (((R19.out).far (p := ⟨X, 7, none⟩) (show w.heap.size ≠ X by have := hgx.out; have := hgr.out; omega) (.int .i64 k7)).far (p := ⟨X, 8, none⟩) (show w.heap.size ≠ X by have := hgx.out; have := hgr.out; omega) (.int .i64 k8))
      have Q20 := Lib.hid (((Q19.out).kps (Kps.set_ X 7 w19 (.int .i64 k7)) (Nat.ne_of_lt hgx.out) (Nat.le_of_lt hgx.out)).kps (Kps.set_ X 8 (w19.setCell ⟨X, 7, none⟩ (.int .i64 k7)) (.int .i64 k8)) (Nat.ne_of_lt hgx.out) (Nat.le_of_lt hgx.out))
      have B20 := Lib.hid (((B19.out).setCell (p := ⟨X, 7, none⟩) (show w.heap.size ≤ X by have := hgx.out; have := hgr.out; omega) (.int .i64 k7)).setCell (p := ⟨X, 8, none⟩) (show w.heap.size ≤ X by have := hgx.out; have := hgr.out; omega) (.int .i64 k8))
      clear R19 Q19 B19 X19
      go_upto_region 12 with fail
      clear zX yX
      generalize ((w19.setCell ⟨X, 7, none⟩ (.int .i64 k7)).setCell ⟨X, 8, none⟩ (.int .i64 k8)) = w20 at *
      go_wp2_with fail
      (refine (integerK g g x11 [x12] _ w20 Q20.out (by omega) (fun w9 h9 => E0.out.bl (B20.out.trans (h9.below (Nat.le_of_lt hgr.out) B20.out.size)))).mono ?_)
      rintro e w21 ⟨⟨k9, ok9, rfl, hR, f, n⟩, hK⟩
      have Q21 := Lib.hid hR
      have R21 := Lib.hid (R20.out.kps hK (Nat.ne_of_lt hgr.out))
      have B21 := Lib.hid (B20.out.trans (hK.below (Nat.le_of_lt hgr.out) B20.out.size))
      have X21 := Lib.hid (X20.out.kps hK (Nat.ne_of_gt hgx.out))
      clear hR hK R20 B20 Q20 X20
      have F9 := Lib.hid f
      have N9 := Lib.hid n
      clear f n
      go_wp2_with fail
      (refine (integerK g g x12 [] _ w21 Q21.out (by omega) (fun w9 h9 => E0.out.bl (B21.out.trans (h9.below (Nat.le_of_lt hgr.out) B21.out.size)))).mono ?_)
      rintro e w22 ⟨⟨k10, ok10, rfl, hR, f, n⟩, hK⟩
      have Q22 := Lib.hid hR
      have R22 := Lib.hid (R21.out.kps hK (Nat.ne_of_lt hgr.out))
      have B22 := Lib.hid (B21.out.trans (hK.below (Nat.le_of_lt hgr.out) B21.out.size))
      have X22 := Lib.hid (X21.out.kps hK (Nat.ne_of_gt hgx.out))
      clear hR hK R21 B21 Q21 X21
      have F10 := Lib.hid f
      have N10 := Lib.hid n
      clear f n
      have zX : ∀ i, w22.frozen? ⟨X, i, none⟩ = false := fun i => X22.out.frozen i
      have yX : ∀ i, w22.cell? ⟨X, i, none⟩ = (#[tx x0, .int .i64 k1, .int .i64 k2, .int .i64 k3, .int .i64 k4, .int .i64 k5, .int .i64 k6, .int .i64 k7, .int .i64 k8, .int .i64 0, .int .i64 0] : Array Value)[i]? := fun i => X22.out.cell i
      have X23 := Lib.hid ((show Blk ((w22.setCell ⟨X, 9, none⟩ (.int .i64 k9)).setCell ⟨X, 10, none⟩ (.int .i64 k10)) X 25 #[tx x0, .int .i64 k1, .int .i64 k2, .int .i64 k3, .int .i64 k4, .int .i64 k5, .int .i64 k6, .int .i64 k7, .int .i64 k8, .int .i64 k9, .int .i64 k10] from by simpa using ((show Blk (w22.setCell ⟨X, 9, none⟩ (.int .i64 k9)) X 25 #[tx x0, .int .i64 k1, .int .i64 k2, .int .i64 k3, .int .i64 k4, .int .i64 k5, .int .i64 k6, .int .i64 k7, .int .i64 k8, .int .i64 k9, .int .i64 0] from by simpa using (X22.out).set_ 9 (.int .i64 k9))).set_ 10 (.int .i64 k10)))
      have R23 := Lib.hid (((R22.out).far (p := ⟨X, 9, none⟩) (show w.heap.size ≠ X by have := hgx.out; have := hgr.out; omega) (.int .i64 k9)).far (p := ⟨X, 10, none⟩) (show w.heap.size ≠ X by have := hgx.out; have := hgr.out; omega) (.int .i64 k10))
      have Q23 := Lib.hid (((Q22.out).kps (Kps.set_ X 9 w22 (.int .i64 k9)) (Nat.ne_of_lt hgx.out) (Nat.le_of_lt hgx.out)).kps (Kps.set_ X 10 (w22.setCell ⟨X, 9, none⟩ (.int .i64 k9)) (.int .i64 k10)) (Nat.ne_of_lt hgx.out) (Nat.le_of_lt hgx.out))
      have B23 := Lib.hid (((B22.out).setCell (p := ⟨X, 9, none⟩) (show w.heap.size ≤ X by have := hgx.out; have := hgr.out; omega) (.int .i64 k9)).setCell (p := ⟨X, 10, none⟩) (show w.heap.size ≤ X by have := hgx.out; have := hgr.out; omega) (.int .i64 k10))
      clear R22 Q22 B22 X22
      go_upto_region 13 with fail
      clear zX yX
      generalize ((w22.setCell ⟨X, 9, none⟩ (.int .i64 k9)).setCell ⟨X, 10, none⟩ (.int .i64 k10)) = w23 at *
      obtain ⟨yw, zw⟩ := Q23.out.wrong
      obtain ⟨wr, hwr⟩ : ∃ wr, ((((((((((!nb) || !ok2) || !ok3) || !ok4) || !ok5) || !ok6) || !ok7) || !ok8) || !ok9) || !ok10) = wr := ⟨_, rfl⟩
      rw [hwr] at Q23 yw
      have HW := Lib.hid hwr
      clear hwr
      cases wr with
      | true =>
        have HNO : Hid (¬ ∃ s, GoodT s t) := Lib.hid fun ⟨s, hs⟩ => by
          have h := (HT.out s).1 hs
          have hw := HW.out
          simp only [Bool.or_eq_true, Bool.not_eq_true'] at hw
          rcases hw with ((((((((hw | hw) | hw) | hw) | hw) | hw) | hw) | hw) | hw) | hw
          · rw [← HNB.out, h.h0.2] at hw; cases hw
          · exact N2.out hw ⟨s.lo, h.h2⟩
          · exact N3.out hw ⟨s.hi, h.h4⟩
          · exact N4.out hw ⟨s.hs, h.h6⟩
          · exact N5.out hw ⟨s.by_, h.h7⟩
          · exact N6.out hw ⟨s.hor, h.h8.2.1, h.h8.2.2, h.h8.1⟩
          · exact N7.out hw ⟨s.eye, h.h9⟩
          · exact N8.out hw ⟨s.shore, h.h10⟩
          · exact N9.out hw ⟨s.temp, h.h11⟩
          · exact N10.out hw ⟨s.press, h.h12⟩
        go_upto_region 14 with fail
        iterate 4 go_step
        refine wpList_store_row rfl _ (.tmp 2) (.tmp 71) rfl _ _ rfl rfl _ _ R23.out (by kernel_rfl) (by rfl) (by simp [Value.oneCell']) ?_
        simp only [Act.put, List.setIfInBounds_toArray, List.set_cons_zero, List.set_cons_succ]
        have ZZ := Lib.hid (Blk.rowW R23.out #[tx [], .int .i64 0, .int .i64 0, .int .i64 0, .int .i64 0, .int .i64 0, .int .i64 0, .int .i64 0, .int .i64 0, .int .i64 0, .int .i64 0])
        have BB := Lib.hid (bl_setRowW (g := w.heap.size) B23.out (Nat.le_refl _) #[tx [], .int .i64 0, .int .i64 0, .int .i64 0, .int .i64 0, .int .i64 0, .int .i64 0, .int .i64 0, .int .i64 0, .int .i64 0, .int .i64 0])
        generalize w23.setRow w.heap.size #[tx [], .int .i64 0, .int .i64 0, .int .i64 0, .int .i64 0, .int .i64 0, .int .i64 0, .int .i64 0, .int .i64 0, .int .i64 0, .int .i64 0] = wz at *
        go_wp2
        exact bodyPost_ret_by (ret_sg rfl ZZ.out rfl) rfl ⟨P3.out HNO.out, BB.out⟩
      | false =>
        have hg : GoodT ⟨x0, k1, k2, k3, k4, k5, k6, k7, k8, k9, k10⟩ t := by
          have hw := HW.out
          simp only [Bool.or_eq_false_iff, Bool.not_eq_false'] at hw
          obtain ⟨⟨⟨⟨⟨⟨⟨⟨⟨h1, h2⟩, h3⟩, h4⟩, h5⟩, h6⟩, h7⟩, h8⟩, h9⟩, h10⟩ := hw
          have g1 := F1.out (by trivial)
          have g6 := F6.out h6
          exact (HT.out ⟨x0, k1, k2, k3, k4, k5, k6, k7, k8, k9, k10⟩).2 ⟨⟨rfl, by rw [HNB.out, h1]⟩, ⟨g1.2.2, g1.1, g1.2.1⟩, F2.out h2, F3.out h3, F4.out h4, F5.out h5, ⟨g6.2.2, g6.1, g6.2.1⟩, F7.out h7, F8.out h8, F9.out h9, F10.out h10⟩
        have HG := Lib.hid hg
        have KV := Lib.hid (fun W => correctV_any x0 k1 k2 k3 k4 k5 k6 k7 k8 k9 k10 W (by omega))
        have hsi : siB x0 k1 k2 k3 k4 k5 k6 k7 k8 k9 k10 = siS ⟨x0, k1, k2, k3, k4, k5, k6, k7, k8, k9, k10⟩ := rfl
        obtain ⟨vb, hvb⟩ : ∃ vb, siS ⟨x0, k1, k2, k3, k4, k5, k6, k7, k8, k9, k10⟩ = vb := ⟨_, rfl⟩
        rw [hsi, hvb] at KV
        have HVB := Lib.hid hvb
        clear hg hsi hvb
        go_upto_region 15 with fail
        iterate 2 go_step
        refine wp_load_sg (.tmp 5) rfl rfl X23.out rfl ?_
        simp only [Act.put, List.setIfInBounds_toArray, List.set_cons_zero, List.set_cons_succ]
        go_wp2_with fail
        (refine (KV.out _).mono ?_)
        rintro e wv ⟨rfl, hb⟩
        have Xv := Lib.hid (X23.out.below hb X23.out.lt)
        have Rv := Lib.hid (R23.out.below hb R23.out.lt)
        have Bv := Lib.hid (B23.out.trans (hb.mono B23.out.size))
        clear hb X23 R23 B23 Q23 yw zw
        cases vb with
        | false =>
          go_upto_region 16 with fail
          iterate 4 go_step
          refine wpList_store_row rfl _ (.tmp 2) (.tmp 76) rfl _ _ rfl rfl _ _ Rv.out (by kernel_rfl) (by rfl) (by simp [Value.oneCell']) ?_
          simp only [Act.put, List.setIfInBounds_toArray, List.set_cons_zero, List.set_cons_succ]
          have ZZ := Lib.hid (Blk.rowW Rv.out #[tx [], .int .i64 0, .int .i64 0, .int .i64 0, .int .i64 0, .int .i64 0, .int .i64 0, .int .i64 0, .int .i64 0, .int .i64 0, .int .i64 0])
          have BB := Lib.hid (bl_setRowW (g := w.heap.size) Bv.out (Nat.le_refl _) #[tx [], .int .i64 0, .int .i64 0, .int .i64 0, .int .i64 0, .int .i64 0, .int .i64 0, .int .i64 0, .int .i64 0, .int .i64 0, .int .i64 0])
          generalize wv.setRow w.heap.size #[tx [], .int .i64 0, .int .i64 0, .int .i64 0, .int .i64 0, .int .i64 0, .int .i64 0, .int .i64 0, .int .i64 0, .int .i64 0, .int .i64 0] = wz at *
          go_wp2
          exact bodyPost_ret_by (ret_sg rfl ZZ.out rfl) rfl ⟨P2.out _ HG.out HVB.out, BB.out⟩
        | true =>
          go_upto_region 17 with fail
          iterate 2 go_step
          refine wp_load_sg (.tmp 5) rfl rfl Xv.out rfl ?_
          simp only [Act.put, List.setIfInBounds_toArray, List.set_cons_zero, List.set_cons_succ]
          iterate 1 go_step
          refine wpList_store_row rfl _ (.tmp 2) (.tmp 77) rfl _ _ rfl rfl _ _ Rv.out (by kernel_rfl) (by rfl) (by simp [Value.oneCell']) ?_
          simp only [Act.put, List.setIfInBounds_toArray, List.set_cons_zero, List.set_cons_succ]
          have ZZ := Lib.hid (Blk.rowW Rv.out #[tx x0, .int .i64 k1, .int .i64 k2, .int .i64 k3, .int .i64 k4, .int .i64 k5, .int .i64 k6, .int .i64 k7, .int .i64 k8, .int .i64 k9, .int .i64 k10])
          have BB := Lib.hid (bl_setRowW (g := w.heap.size) Bv.out (Nat.le_refl _) #[tx x0, .int .i64 k1, .int .i64 k2, .int .i64 k3, .int .i64 k4, .int .i64 k5, .int .i64 k6, .int .i64 k7, .int .i64 k8, .int .i64 k9, .int .i64 k10])
          generalize wv.setRow w.heap.size #[tx x0, .int .i64 k1, .int .i64 k2, .int .i64 k3, .int .i64 k4, .int .i64 k5, .int .i64 k6, .int .i64 k7, .int .i64 k8, .int .i64 k9, .int .i64 k10] = wz at *
          go_wp2
          exact bodyPost_ret_by (ret_sg rfl ZZ.out rfl) rfl ⟨P1.out _ HG.out HVB.out, BB.out⟩
end Go.Proofs.YtbpnacacnncopaaGreatDoor
