/- angle.digits and angle.Parse. -/
import Derived.Lib.ConvBytes
import Derived.Test.YtbpnacacnncopaaGreatDoorHTm
import Derived.Test.YtbpnacacnncopaaGreatDoorHIc
set_option linter.unusedVariables false
set_option linter.unusedSimpArgs false
namespace Go.Proofs.YtbpnacacnncopaaGreatDoor
open Go.RowKit Go.Shelf Frm
open Lib (decDigits)
set_option maxHeartbeats 1000000 in
set_option maxRecDepth 100000 in
theorem padC_any (n : Nat) (k : Nat) (w : World) (h1 : n < 100000000) (hk : 0 < k) (hk1 : k ≤ 8) (ht : En w) :
    Calls Tryz.prog 160 #[.int .i64 (n : Int), .int .i64 (k : Int)] w fun e w' => e = .returned (tx (dgs n k)) ∧ Below w.heap.size w w' := by
  have K1 := itoa_any (n : Int) w (by omega) (by omega) ht.tab
  rw [itoa_nat] at K1
  have hl := dd_len 7 n (by simpa using h1)
  have hd := dgs_pad (n := n) hk
  generalize decDigits n = D at K1 hl hd
  have hsz := tx_size D
  obtain ⟨d, hd0⟩ : ∃ d, D.length = d := ⟨_, rfl⟩
  rw [hd0] at hsz hd hl
  have hs1 : wrap64 ((k : Int) - (d : Int)) = (k : Int) - (d : Int) := IntWalk.wrap64_in _ (by omega)
  have hmx : max 0 ((k : Int) - (d : Int)) = ((k - d : Nat) : Int) := by omega
  have K2 := Lib.hid (fun W => repeat_any ⟨#[48]⟩ (k - d) W (by omega) (by show 1 * (k - d) ≤ _; omega))
  have hrp : Lib.repeatL (⟨#[48]⟩ : ByteArray).data.toList (k - d) = List.replicate (k - d) 48 := rep48 _
  rw [hrp] at K2
  have ha := tx_add (List.replicate (k - d) 48) D (by simp; omega) (by omega)
  rw [← hd] at ha
  have K1 := Lib.hid K1
  generalize List.replicate (k - d) (48 : UInt8) = R at K2 ha
  clear ht hd hrp hd0
  go_enter Tryz.func160, Tryz.ntmps160
  go_wp2_with fail
  (with_reducible refine (K1.out).mono ?_)
  rintro e w1 ⟨rfl, hb1⟩
  have B1 := Lib.hid hb1
  clear hb1 K1
  go_wp2_with fail
  (with_reducible refine (K2.out _).mono ?_)
  rintro e w2 ⟨rfl, hb2⟩
  have B2 := Lib.hid (B1.out.trans (hb2.mono B1.out.size))
  clear hb2 K2
  go_wp2
  go_ret
  exact ⟨rfl, B2.out⟩
theorem vdB_of {x : CA.Date} (h : CA.vld x) : vdB x.y x.m x.d = true := by
  obtain ⟨h1, h2, h3, h4, h5, h6⟩ := h
  unfold vdB
  rw [Int.toNat_natCast, Bool.and_eq_true, Bool.and_eq_true, decide_eq_true_eq, decide_eq_true_eq, decide_eq_true_eq]
  exact ⟨⟨h1, h2, by omega, by omega⟩, h5, h6⟩
/-- a date's cells -/
abbrev dav (x : CA.Date) : Array Value := dtv x.y x.m x.d
set_option maxHeartbeats 1000000 in
set_option maxRecDepth 100000 in
theorem dtext_any (x : CA.Date) (w : World) (hv : CA.vld x) (ht : En w) :
    Calls Tryz.prog 107 #[.agg (dav x)] w fun e w' => e = .returned (tx (dateT x)) ∧ Below w.heap.size w w' := by
  obtain ⟨y, m, d⟩ := x
  obtain ⟨h1, h2, h3, h4, h5, h6⟩ := hv
  simp only [] at h1 h2 h3 h4 h5 h6
  have h7 := dm_le y m
  obtain ⟨y, rfl⟩ : ∃ k : Nat, y = (k : Int) := ⟨y.toNat, by omega⟩
  obtain ⟨d, rfl⟩ : ∃ k : Nat, d = (k : Int) := ⟨d.toNat, by omega⟩
  have hT : dateT ⟨(y : Int), m, (d : Int)⟩ = dgs y 4 ++ [45] ++ dgs m 2 ++ [45] ++ dgs d 2 := by simp [dateT]
  rw [hT]
  have G0 := Lib.hid (Blk.new w 100 (dtv y m d))
  have b0 := Lib.hid (bl_alloc w (.cells (dtv y m d) 100))
  have ht0 := ht.bl b0.out
  show Calls Tryz.prog 107 #[.agg (dtv y m d)] w _
  have l1 : (dgs y 4).length = 4 := dgs_len 4 _ (by omega)
  have l2 : (dgs m 2).length = 2 := dgs_len 2 _ (by omega)
  have l3 : (dgs d 2).length = 2 := dgs_len 2 _ (by omega)
  have K1 := fun (W : World) (h : En W) => padC_any y 4 W (by omega) (by omega) (by omega) h
  have K2 := fun (W : World) (h : En W) => padC_any m 2 W (by omega) (by omega) (by omega) h
  have K3 := fun (W : World) (h : En W) => padC_any d 2 W (by omega) (by omega) (by omega) h
  rw [show ((4 : Nat) : Int) = 4 from rfl] at K1
  rw [show ((2 : Nat) : Int) = 2 from rfl] at K2 K3
  generalize dgs y 4 = A at *
  generalize dgs m 2 = B at *
  generalize dgs d 2 = C at *
  have a1 := tx_add A [45] (by omega) (by simp)
  have a2 := tx_add (A ++ [45]) B (by simp; omega) (by omega)
  have a3 := tx_add (A ++ [45] ++ B) [45] (by simp; omega) (by simp)
  have a4 := tx_add (A ++ [45] ++ B ++ [45]) C (by simp; omega) (by omega)
  clear hT ht h1 h2 h3 h4 h5 h6 h7 l1 l2 l3
  generalize A ++ [45] = E1 at *
  generalize E1 ++ B = E2 at *
  generalize E2 ++ [45] = E3 at *
  generalize E3 ++ C = E4 at *
  go_enter Tryz.func107, Tryz.ntmps107
  go_upto_region 1 with fail
  generalize w.alloc (.cells (dtv y m d) 100) = w0 at *
  have KK := Lib.hid (fun (s : BQ w0) => K1 s.w (ht0.bl s.hb))
  have KM := Lib.hid (fun (s : BQ w0) => K2 s.w (ht0.bl s.hb))
  have KD := Lib.hid (fun (s : BQ w0) => K3 s.w (ht0.bl s.hb))
  clear K1 K2 K3 ht0
  have y0 : ∀ s : BQ w0, s.w.cell? ⟨w.heap.size, 0, none⟩ = some (.int .i64 y) := fun s => (G0.out.below s.hb G0.out.lt).cell 0
  have y1 : ∀ s : BQ w0, s.w.cell? ⟨w.heap.size, 1, none⟩ = some (.int .i64 m) := fun s => (G0.out.below s.hb G0.out.lt).cell 1
  have y2 : ∀ s : BQ w0, s.w.cell? ⟨w.heap.size, 2, none⟩ = some (.int .i64 d) := fun s => (G0.out.below s.hb G0.out.lt).cell 2
  refine wp_region_bq w0 (by kernel_rfl) (by kernel_rfl) (Below.refl _ _) ?_
  repeat (go_big_quiet_step (first | (go_at_call 160; first | with_reducible exact quiet_bq (KK.out _) | with_reducible exact quiet_bq (KM.out _) | with_reducible exact quiet_bq (KD.out _)) | fail))
  refine wpQuiet_nil ?_
  intro w9 hb9
  go_wp2
  go_ret
  exact ⟨rfl, b0.out.trans (hb9.mono b0.out.size)⟩
set_option maxHeartbeats 1000000 in
set_option maxRecDepth 100000 in
theorem dText_yes (x : CA.Date) (w : World) (hv : CA.vld x) (ht : En w) :
    Calls Tryz.prog 65 #[.agg (dav x)] w fun e w' => e = .returned (.tuple #[tx (dateT x), .int .i64 0]) ∧ Below w.heap.size w w' := by
  have K1 := fun W => dValid_any x.y x.m x.d W
  have K2 := fun (W : World) (h : En W) => dtext_any x W hv h
  have hvb : vdB x.y x.m x.d = true := vdB_of hv
  rw [hvb] at K1
  clear hvb hv
  show Calls Tryz.prog 65 #[.agg (dtv x.y x.m x.d)] w _
  obtain ⟨y, m, d⟩ := x
  simp only [] at K1
  generalize dateT ⟨y, m, d⟩ = T at *
  show Calls Tryz.prog 65 #[.agg (dtv y m d)] w _
  change ∀ (W : World), En W → Calls Tryz.prog 107 #[.agg (dtv y m d)] W _ at K2
  have G0 := Lib.hid (Blk.new w 100 (dtv y m d))
  have b0 := Lib.hid (bl_alloc w (.cells (dtv y m d) 100))
  have ht0 := ht.bl b0.out
  unfold dtv at K1 K2
  have KV := Lib.hid K1
  have KT := Lib.hid K2
  clear K1 K2
  go_enter Tryz.func65, Tryz.ntmps65
  go_upto_region 1 with fail
  generalize w.alloc (.cells (dtv y m d) 100) = w0 at *
  have y0 : w0.cell? ⟨w.heap.size, 0, none⟩ = some (.int .i64 y) := G0.out.cell 0
  have y1 : w0.cell? ⟨w.heap.size, 1, none⟩ = some (.int .i64 m) := G0.out.cell 1
  have y2 : w0.cell? ⟨w.heap.size, 2, none⟩ = some (.int .i64 d) := G0.out.cell 2
  go_wp2_with fail
  (with_reducible refine (KV.out _).mono ?_)
  rintro e w1 ⟨rfl, hb1⟩
  have G1 := Lib.hid (G0.out.below hb1 G0.out.lt)
  have b1 := Lib.hid (b0.out.trans (hb1.mono b0.out.size))
  have ht1 := ht0.bl hb1
  clear hb1 ht0 y0 y1 y2 G0 b0
  have y0 : w1.cell? ⟨w.heap.size, 0, none⟩ = some (.int .i64 y) := G1.out.cell 0
  have y1 : w1.cell? ⟨w.heap.size, 1, none⟩ = some (.int .i64 m) := G1.out.cell 1
  have y2 : w1.cell? ⟨w.heap.size, 2, none⟩ = some (.int .i64 d) := G1.out.cell 2
  go_wp2_with fail
  (with_reducible refine (KT.out _ ht1).mono ?_)
  rintro e w2 ⟨rfl, hb2⟩
  go_wp2
  go_ret2
  exact ⟨rfl, b1.out.trans (hb2.mono b1.out.size)⟩
end Go.Proofs.YtbpnacacnncopaaGreatDoor
namespace Go.Proofs.YtbpnacacnncopaaGreatDoor
open Go.RowKit Go.Shelf Frm
open Lib (decDigits)
/-- what calendar.Parse returns -/
def CpR (s : Bs) (e : Ending) : Prop := (∃ x, CA.vld x ∧ dateT x = s ∧ e = .returned (.tuple #[.agg (dav x), .int .i64 0])) ∨ ((¬ ∃ x, CA.vld x ∧ dateT x = s) ∧ e = .returned (.tuple #[.agg (dtv 0 0 0), .int .i64 7]))
theorem vd_of {y m d : Int} (h : vdB y m d = true) : CA.vld ⟨y, m.toNat, d⟩ ∧ ((m.toNat : Nat) : Int) = m := by
  unfold vdB at h
  simp only [Bool.and_eq_true, decide_eq_true_eq] at h
  exact ⟨⟨by show 1 ≤ y; omega, by show y ≤ 9999; omega, by show 1 ≤ m.toNat; omega, by show m.toNat ≤ 12; omega, by show 1 ≤ d; omega, by show d ≤ CA.dm y m.toNat; omega⟩, by omega⟩
theorem splitc_any (s : Bs) (w : World) (hl : s.length ≤ 1000000) (he : En w) :
    Calls Tryz.prog 36 #[tx s, .string ⟨#[45]⟩] w fun e w' => e = .returned (.slice (some ⟨w.heap.size, 0, none⟩) (SW.wrd 45 s).length (SW.wrd 45 s).length) ∧ w' = w.alloc (.cells ((SW.wrd 45 s).map tx).toArray 9) := split_any s 45 w hl he
theorem bs_ne {a b : Bs} (h : ¬ a = b) : ((⟨a.toArray⟩ : ByteArray) == ⟨b.toArray⟩) = false ∧ (a == b) = false ∧ (a != b) = true := by
  exact ⟨by show (a.toArray == b.toArray) = false; simpa using h, by simpa using h, by simpa using h⟩
set_option maxHeartbeats 4000000 in
set_option maxRecDepth 100000 in
theorem calParse_any (s : Bs) (w : World) (hl : s.length ≤ 1000) (he : En w) :
    Calls Tryz.prog 123 #[tx s] w fun e w' => CpR s e ∧ Below w.heap.size w w' := by
  have b00 := bl_alloc w (.cells #[.int .i64 0, .int .i64 0, .int .i64 0] 100)
  have G0 := Lib.hid (Blk.new w 100 #[.int .i64 0, .int .i64 0, .int .i64 0])
  have he0 := he.bl b00
  have KS := Lib.hid (splitc_any s (w.alloc (.cells #[.int .i64 0, .int .i64 0, .int .i64 0] 100)) (by omega) he0)
  have hsz := tx_size s
  have hx10 : (∃ x, CA.vld x ∧ dateT x = s) → s.length = 10 := fun ⟨x, h1, h2⟩ => h2 ▸ dateT_len h1
  obtain ⟨n, hn⟩ : ∃ n, s.length = n := ⟨_, rfl⟩
  rw [hn] at hx10 hsz hl
  obtain ⟨L, hL⟩ : ∃ L, SW.wrd 45 s = L := ⟨_, rfl⟩
  have hx3 : (∃ x, CA.vld x ∧ dateT x = s) → L.length = 3 := fun ⟨x, h1, h2⟩ => by rw [← hL, ← h2, dateT_wrd]; rfl
  have HL := Lib.hid hL
  have HE := Lib.hid he0
  rw [hL] at KS
  have B0 := Lib.hid b00
  clear he hn hL he0 b00
  by_cases h10 : n = 10
  case neg =>
    have d0 : ((n : Int) != 10) = true := by simp; omega
    have hno : ¬ ∃ x, CA.vld x ∧ dateT x = s := fun h => h10 (hx10 h)
    have HNO := Lib.hid hno
    clear hx10 hx3 hno h10
    go_enter Tryz.func123, Tryz.ntmps123
    go_upto_region 1 with fail
    generalize w.alloc (.cells #[.int .i64 0, .int .i64 0, .int .i64 0] 100) = w0 at *
    have C0 := Lib.hid (B0.out.trans ((bl_alloc w0 (.cells (L.map tx).toArray 9)).mono B0.out.size))
    have G1 := Lib.hid (G0.out.alloc (.cells (L.map tx).toArray 9))
    go_wp2_with fail
    (with_reducible refine (KS.out).mono ?_)
    rintro e w1 ⟨rfl, rfl⟩
    generalize w0.alloc (.cells (L.map tx).toArray 9) = w1 at *
    have y0 : w1.cell? ⟨w.heap.size, 0, none⟩ = some (.int .i64 0) := G1.out.cell 0
    have y1 : w1.cell? ⟨w.heap.size, 1, none⟩ = some (.int .i64 0) := G1.out.cell 1
    have y2 : w1.cell? ⟨w.heap.size, 2, none⟩ = some (.int .i64 0) := G1.out.cell 2
    have z0 := G1.out.frozen 0
    have z1 := G1.out.frozen 1
    have z2 := G1.out.frozen 2
    go_wp2
    refine bodyPost_ret (v := .tuple #[.agg (dtv 0 0 0), .int .i64 7]) (by simp [results, Tryz.results123, go_sem, dtv, *]; done) rfl ⟨.inr ⟨HNO.out, rfl⟩, ?_⟩
    exact ((C0.out.setCell (Nat.le_refl _) _).setCell (Nat.le_refl _) _).setCell (Nat.le_refl _) _
  case pos =>
    subst h10
    obtain ⟨m, hm⟩ : ∃ m, L.length = m := ⟨_, rfl⟩
    rw [hm] at KS hx3
    by_cases h3 : m = 3
    case neg =>
      have d0 : ((m : Int) != 3) = true := by simp; omega
      have hno : ¬ ∃ x, CA.vld x ∧ dateT x = s := fun h => h3 (hx3 h)
      have HNO := Lib.hid hno
      clear hx10 hx3 hno h3 hm
      go_enter Tryz.func123, Tryz.ntmps123
      go_upto_region 1 with fail
      generalize w.alloc (.cells #[.int .i64 0, .int .i64 0, .int .i64 0] 100) = w0 at *
      have C0 := Lib.hid (B0.out.trans ((bl_alloc w0 (.cells (L.map tx).toArray 9)).mono B0.out.size))
      have G1 := Lib.hid (G0.out.alloc (.cells (L.map tx).toArray 9))
      go_wp2_with fail
      (with_reducible refine (KS.out).mono ?_)
      rintro e w1 ⟨rfl, rfl⟩
      generalize w0.alloc (.cells (L.map tx).toArray 9) = w1 at *
      have y0 : w1.cell? ⟨w.heap.size, 0, none⟩ = some (.int .i64 0) := G1.out.cell 0
      have y1 : w1.cell? ⟨w.heap.size, 1, none⟩ = some (.int .i64 0) := G1.out.cell 1
      have y2 : w1.cell? ⟨w.heap.size, 2, none⟩ = some (.int .i64 0) := G1.out.cell 2
      have z0 := G1.out.frozen 0
      have z1 := G1.out.frozen 1
      have z2 := G1.out.frozen 2
      go_wp2
      refine bodyPost_ret (v := .tuple #[.agg (dtv 0 0 0), .int .i64 7]) (by simp [results, Tryz.results123, go_sem, dtv, *]; done) rfl ⟨.inr ⟨HNO.out, rfl⟩, ?_⟩
      exact ((C0.out.setCell (Nat.le_refl _) _).setCell (Nat.le_refl _) _).setCell (Nat.le_refl _) _
    case pos =>
      subst h3
      obtain ⟨p, q, r, rfl⟩ : ∃ p q r, L = [p, q, r] := by
        match L, hm with
        | [p, q, r], _ => exact ⟨p, q, r, rfl⟩
      have hlp : ∀ z, z ∈ [p, q, r] → z.length ≤ 1000 := fun z hz => by
        have hj := SW.jn_wrd 45 s
        rw [HL.out] at hj
        have e : s = p ++ 45 :: (q ++ 45 :: r) := hj.symm
        have e2 := congrArg List.length e
        simp at e2
        have : s.length ≤ 1000 := by have := tx_size s; omega
        simp only [List.mem_cons, List.not_mem_nil, or_false] at hz
        rcases hz with rfl | rfl | rfl <;> omega
      have lp := hlp p (by simp)
      have lq := hlp q (by simp)
      have lr := hlp r (by simp)
      clear hx10 hx3 hlp hm
      have hyes : ∀ x, CA.vld x → dateT x = s → (atR p = (x.y, true) ∧ atR q = ((x.m : Int), true) ∧ atR r = (x.d, true)) := fun x h1 h2 => by
        have h3 := HL.out
        rw [← h2, dateT_wrd] at h3
        simp only [List.cons.injEq, and_true] at h3
        obtain ⟨rfl, rfl, rfl⟩ := h3
        obtain ⟨a1, a2, a3, a4, a5, a6⟩ := h1
        have := dm_le x.y x.m
        have q1 := atR_dgs (n := x.y.toNat) (k := 4) (by omega) (by omega)
        have q2 := atR_dgs (n := x.m) (k := 2) (by omega) (by omega)
        have q3 := atR_dgs (n := x.d.toNat) (k := 2) (by omega) (by omega)
        rw [show ((x.y.toNat : Nat) : Int) = x.y by omega] at q1
        rw [show ((x.d.toNat : Nat) : Int) = x.d by omega] at q3
        exact ⟨q1, q2, q3⟩
      have K1 := Lib.hid (fun (W : World) (h : En W) => atoi_any p W (by omega) h)
      have K2 := Lib.hid (fun (W : World) (h : En W) => atoi_any q W (by omega) h)
      have K3 := Lib.hid (fun (W : World) (h : En W) => atoi_any r W (by omega) h)
      obtain ⟨⟨yy, ok1⟩, e1⟩ : ∃ z, atR p = z := ⟨_, rfl⟩
      obtain ⟨⟨mm, ok2⟩, e2⟩ : ∃ z, atR q = z := ⟨_, rfl⟩
      obtain ⟨⟨dd, ok3⟩, e3⟩ : ∃ z, atR r = z := ⟨_, rfl⟩
      rw [e1] at K1 hyes
      rw [e2] at K2 hyes
      rw [e3] at K3 hyes
      simp only [] at K1 K2 K3
      have HY := Lib.hid hyes
      have KV := Lib.hid (fun W => dValid_any yy mm dd W)
      have KT : Hid (∀ W, En W → vdB yy mm dd = true → Calls Tryz.prog 107 #[.agg (dtv yy mm dd)] W fun e w' => e = .returned (tx (dateT ⟨yy, mm.toNat, dd⟩)) ∧ Below W.heap.size W w') := Lib.hid (fun W h hv => by
        obtain ⟨h1, h2⟩ := vd_of hv
        have := dtext_any ⟨yy, mm.toNat, dd⟩ W h1 h
        unfold dav at this
        simp only [h2] at this
        exact this)
      clear hyes e1 e2 e3 lp lq lr
      have hq : Hid ((w.alloc (.cells #[.int .i64 0, .int .i64 0, .int .i64 0] 100)).heap.size = w.heap.size + 1) := Lib.hid (by simp)
      go_enter Tryz.func123, Tryz.ntmps123
      go_upto_region 1 with fail
      generalize w.alloc (.cells #[.int .i64 0, .int .i64 0, .int .i64 0] 100) = w0 at *
      have C0 := Lib.hid (B0.out.trans ((bl_alloc w0 (.cells #[tx p, tx q, tx r] 9)).mono B0.out.size))
      have G1 := Lib.hid (G0.out.alloc (.cells #[tx p, tx q, tx r] 9))
      have S1 := Lib.hid (Blk.new w0 9 #[tx p, tx q, tx r])
      have E1 := Lib.hid (HE.out.bl (bl_alloc w0 (.cells #[tx p, tx q, tx r] 9)))
      go_wp2_with fail
      (with_reducible refine (KS.out).mono ?_)
      rintro e w1 ⟨rfl, rfl⟩
      simp only [List.map_cons, List.map_nil]
      generalize w0.alloc (.cells #[tx p, tx q, tx r] 9) = w1 at *
      clear G0 B0 HE KS
      have y0 : w1.cell? ⟨w0.heap.size, 0, none⟩ = some (tx p) := S1.out.cell 0
      go_wp2_with fail
      (with_reducible refine (K1.out _ E1.out).mono ?_)
      rintro e w2 ⟨⟨v1, rfl, hv1⟩, hb⟩
      have C2 := Lib.hid (C0.out.trans (hb.mono C0.out.size))
      have G2 := Lib.hid (G1.out.below hb G1.out.lt)
      have S2 := Lib.hid (S1.out.below hb S1.out.lt)
      have E2 := Lib.hid (E1.out.bl hb)
      clear hb C0 G1 S1 E1 y0 K1
      have y0 : w2.cell? ⟨w0.heap.size, 1, none⟩ = some (tx q) := S2.out.cell 1
      go_wp2_with fail
      (with_reducible refine (K2.out _ E2.out).mono ?_)
      rintro e w3 ⟨⟨v2, rfl, hv2⟩, hb⟩
      have C3 := Lib.hid (C2.out.trans (hb.mono C2.out.size))
      have G3 := Lib.hid (G2.out.below hb G2.out.lt)
      have S3 := Lib.hid (S2.out.below hb S2.out.lt)
      have E3 := Lib.hid (E2.out.bl hb)
      clear hb C2 G2 S2 E2 y0 K2
      have y0 : w3.cell? ⟨w0.heap.size, 2, none⟩ = some (tx r) := S3.out.cell 2
      go_wp2_with fail
      (with_reducible refine (K3.out _ E3.out).mono ?_)
      rintro e w4 ⟨⟨v3, rfl, hv3⟩, hb⟩
      have C4 := Lib.hid (C3.out.trans (hb.mono C3.out.size))
      have G4 := Lib.hid (G3.out.below hb G3.out.lt)
      have E4 := Lib.hid (E3.out.bl hb)
      clear hb C3 G3 S3 E3 y0 K3 hq
      have G5 := Lib.hid (G4.out.alloc (.cells #[.int .i64 yy, .int .i64 mm, .int .i64 dd] 100))
      have D5 := Lib.hid (Blk.new w4 100 #[.int .i64 yy, .int .i64 mm, .int .i64 dd])
      have C5 := Lib.hid (C4.out.trans ((bl_alloc w4 (.cells #[.int .i64 yy, .int .i64 mm, .int .i64 dd] 100)).mono C4.out.size))
      have E5 := Lib.hid (E4.out.bl (bl_alloc w4 (.cells #[.int .i64 yy, .int .i64 mm, .int .i64 dd] 100)))
      go_upto_region 8 with fail
      generalize w4.alloc (.cells #[.int .i64 yy, .int .i64 mm, .int .i64 dd] 100) = w5 at *
      clear C4 G4 E4
      cases ok1 with
      | false =>
        have HNO : Hid (¬ ∃ x, CA.vld x ∧ dateT x = s) := Lib.hid fun ⟨x, h1, h2⟩ => by have := (HY.out x h1 h2).1; simp at this
        obtain ⟨N, rfl⟩ := hv1
        have y0 : w5.cell? ⟨w.heap.size, 0, none⟩ = some (.int .i64 0) := G5.out.cell 0
        have y1 : w5.cell? ⟨w.heap.size, 1, none⟩ = some (.int .i64 0) := G5.out.cell 1
        have y2 : w5.cell? ⟨w.heap.size, 2, none⟩ = some (.int .i64 0) := G5.out.cell 2
        have z0 := G5.out.frozen 0
        have z1 := G5.out.frozen 1
        have z2 := G5.out.frozen 2
        go_wp2
        refine bodyPost_ret (v := .tuple #[.agg (dtv 0 0 0), .int .i64 7]) (by simp [results, Tryz.results123, go_sem, dtv, *]; done) rfl ⟨.inr ⟨HNO.out, rfl⟩, ?_⟩
        exact ((C5.out.setCell (Nat.le_refl _) _).setCell (Nat.le_refl _) _).setCell (Nat.le_refl _) _
      | true =>
        obtain rfl : v1 = .nilIface := by simpa [ErrIs] using hv1
        clear hv1
        cases ok2 with
        | false =>
          have HNO : Hid (¬ ∃ x, CA.vld x ∧ dateT x = s) := Lib.hid fun ⟨x, h1, h2⟩ => by have := (HY.out x h1 h2).2.1; simp at this
          obtain ⟨N, rfl⟩ := hv2
          have y0 : w5.cell? ⟨w.heap.size, 0, none⟩ = some (.int .i64 0) := G5.out.cell 0
          have y1 : w5.cell? ⟨w.heap.size, 1, none⟩ = some (.int .i64 0) := G5.out.cell 1
          have y2 : w5.cell? ⟨w.heap.size, 2, none⟩ = some (.int .i64 0) := G5.out.cell 2
          have z0 := G5.out.frozen 0
          have z1 := G5.out.frozen 1
          have z2 := G5.out.frozen 2
          go_wp2
          refine bodyPost_ret (v := .tuple #[.agg (dtv 0 0 0), .int .i64 7]) (by simp [results, Tryz.results123, go_sem, dtv, *]; done) rfl ⟨.inr ⟨HNO.out, rfl⟩, ?_⟩
          exact ((C5.out.setCell (Nat.le_refl _) _).setCell (Nat.le_refl _) _).setCell (Nat.le_refl _) _
        | true =>
          obtain rfl : v2 = .nilIface := by simpa [ErrIs] using hv2
          clear hv2
          cases ok3 with
          | false =>
            have HNO : Hid (¬ ∃ x, CA.vld x ∧ dateT x = s) := Lib.hid fun ⟨x, h1, h2⟩ => by have := (HY.out x h1 h2).2.2; simp at this
            obtain ⟨N, rfl⟩ := hv3
            have y0 : w5.cell? ⟨w.heap.size, 0, none⟩ = some (.int .i64 0) := G5.out.cell 0
            have y1 : w5.cell? ⟨w.heap.size, 1, none⟩ = some (.int .i64 0) := G5.out.cell 1
            have y2 : w5.cell? ⟨w.heap.size, 2, none⟩ = some (.int .i64 0) := G5.out.cell 2
            have z0 := G5.out.frozen 0
            have z1 := G5.out.frozen 1
            have z2 := G5.out.frozen 2
            go_wp2
            refine bodyPost_ret (v := .tuple #[.agg (dtv 0 0 0), .int .i64 7]) (by simp [results, Tryz.results123, go_sem, dtv, *]; done) rfl ⟨.inr ⟨HNO.out, rfl⟩, ?_⟩
            exact ((C5.out.setCell (Nat.le_refl _) _).setCell (Nat.le_refl _) _).setCell (Nat.le_refl _) _
          | true =>
            obtain rfl : v3 = .nilIface := by simpa [ErrIs] using hv3
            clear hv3
            have y0 : w5.cell? ⟨w4.heap.size, 0, none⟩ = some (.int .i64 yy) := D5.out.cell 0
            have y1 : w5.cell? ⟨w4.heap.size, 1, none⟩ = some (.int .i64 mm) := D5.out.cell 1
            have y2 : w5.cell? ⟨w4.heap.size, 2, none⟩ = some (.int .i64 dd) := D5.out.cell 2
            cases hvd : vdB yy mm dd with
            | false =>
              rw [hvd] at KV
              have HNO : Hid (¬ ∃ x, CA.vld x ∧ dateT x = s) := Lib.hid fun ⟨x, h1, h2⟩ => by
                obtain ⟨e1, e2, e3⟩ := HY.out x h1 h2
                simp only [Prod.mk.injEq, and_true] at e1 e2 e3
                rw [e1, e2, e3, vdB_of h1] at hvd
                cases hvd
              clear hvd
              go_wp2_with fail
              (refine (KV.out _).mono ?_)
              rintro e w6 ⟨rfl, hb⟩
              have G6 := Lib.hid (G5.out.below hb G5.out.lt)
              have C6 := Lib.hid (C5.out.trans (hb.mono C5.out.size))
              clear hb y0 y1 y2 G5 C5
              have y0 : w6.cell? ⟨w.heap.size, 0, none⟩ = some (.int .i64 0) := G6.out.cell 0
              have y1 : w6.cell? ⟨w.heap.size, 1, none⟩ = some (.int .i64 0) := G6.out.cell 1
              have y2 : w6.cell? ⟨w.heap.size, 2, none⟩ = some (.int .i64 0) := G6.out.cell 2
              have z0 := G6.out.frozen 0
              have z1 := G6.out.frozen 1
              have z2 := G6.out.frozen 2
              go_wp2
              refine bodyPost_ret (v := .tuple #[.agg (dtv 0 0 0), .int .i64 7]) (by simp [results, Tryz.results123, go_sem, dtv, *]; done) rfl ⟨.inr ⟨HNO.out, rfl⟩, ?_⟩
              exact ((C6.out.setCell (Nat.le_refl _) _).setCell (Nat.le_refl _) _).setCell (Nat.le_refl _) _
            | true =>
              rw [hvd] at KV
              obtain ⟨hvl, hmm⟩ := vd_of hvd
              have KT2 := Lib.hid (fun W (h : En W) => KT.out W h hvd)
              have HVL := Lib.hid hvl
              have HMM := Lib.hid hmm
              clear KT hvd hvl hmm
              go_wp2_with fail
              (refine (KV.out _).mono ?_)
              rintro e w6 ⟨rfl, hb⟩
              have G6 := Lib.hid (G5.out.below hb G5.out.lt)
              have D6 := Lib.hid (D5.out.below hb D5.out.lt)
              have C6 := Lib.hid (C5.out.trans (hb.mono C5.out.size))
              have E6 := Lib.hid (E5.out.bl hb)
              clear hb y0 y1 y2 G5 C5 D5 E5
              have y0 : w6.cell? ⟨w4.heap.size, 0, none⟩ = some (.int .i64 yy) := D6.out.cell 0
              have y1 : w6.cell? ⟨w4.heap.size, 1, none⟩ = some (.int .i64 mm) := D6.out.cell 1
              have y2 : w6.cell? ⟨w4.heap.size, 2, none⟩ = some (.int .i64 dd) := D6.out.cell 2
              have KT3 := Lib.hid (KT2.out w6 E6.out)
              clear KT2
              obtain ⟨T, hT⟩ : ∃ T, dateT ⟨yy, mm.toNat, dd⟩ = T := ⟨_, rfl⟩
              rw [hT] at KT3
              have HT := Lib.hid hT
              clear hT
              go_wp2_with fail
              (refine (KT3.out).mono ?_)
              rintro e w7 ⟨rfl, hb⟩
              have G7 := Lib.hid (G6.out.below hb G6.out.lt)
              have D7 := Lib.hid (D6.out.below hb D6.out.lt)
              have C7 := Lib.hid (C6.out.trans (hb.mono C6.out.size))
              clear hb y0 y1 y2 G6 C6 D6 E6
              by_cases hTs : T = s
              · subst hTs
                have y0 : w7.cell? ⟨w.heap.size, 0, none⟩ = some (.int .i64 0) := G7.out.cell 0
                have y1 : w7.cell? ⟨w.heap.size, 1, none⟩ = some (.int .i64 0) := G7.out.cell 1
                have y2 : w7.cell? ⟨w.heap.size, 2, none⟩ = some (.int .i64 0) := G7.out.cell 2
                have x0 : w7.cell? ⟨w4.heap.size, 0, none⟩ = some (.int .i64 yy) := D7.out.cell 0
                have x1 : w7.cell? ⟨w4.heap.size, 1, none⟩ = some (.int .i64 mm) := D7.out.cell 1
                have x2 : w7.cell? ⟨w4.heap.size, 2, none⟩ = some (.int .i64 dd) := D7.out.cell 2
                have z0 := G7.out.frozen 0
                have z1 := G7.out.frozen 1
                have z2 := G7.out.frozen 2
                go_wp2
                refine bodyPost_ret (v := .tuple #[.agg (dtv yy mm dd), .int .i64 0]) (by simp [results, Tryz.results123, go_sem, dtv, *]; done) rfl ⟨.inl ⟨⟨yy, mm.toNat, dd⟩, HVL.out, HT.out, by unfold dav; simp only [HMM.out]⟩, ?_⟩
                exact ((C7.out.setCell (Nat.le_refl _) _).setCell (Nat.le_refl _) _).setCell (Nat.le_refl _) _
              · obtain ⟨n1, n2, n3⟩ := bs_ne hTs
                have HNO : Hid (¬ ∃ x, CA.vld x ∧ dateT x = s) := Lib.hid fun ⟨x, h1, h2⟩ => by
                  obtain ⟨e1, e2, e3⟩ := HY.out x h1 h2
                  simp only [Prod.mk.injEq, and_true] at e1 e2 e3
                  refine hTs (HT.out.symm.trans (Eq.trans (congrArg dateT ?_) h2))
                  rw [e1, e2, e3, Int.toNat_natCast]
                clear hTs
                have y0 : w7.cell? ⟨w.heap.size, 0, none⟩ = some (.int .i64 0) := G7.out.cell 0
                have y1 : w7.cell? ⟨w.heap.size, 1, none⟩ = some (.int .i64 0) := G7.out.cell 1
                have y2 : w7.cell? ⟨w.heap.size, 2, none⟩ = some (.int .i64 0) := G7.out.cell 2
                have z0 := G7.out.frozen 0
                have z1 := G7.out.frozen 1
                have z2 := G7.out.frozen 2
                go_wp2
                refine bodyPost_ret (v := .tuple #[.agg (dtv 0 0 0), .int .i64 7]) (by simp [results, Tryz.results123, go_sem, dtv, *]; done) rfl ⟨.inr ⟨HNO.out, rfl⟩, ?_⟩
                exact ((C7.out.setCell (Nat.le_refl _) _).setCell (Nat.le_refl _) _).setCell (Nat.le_refl _) _
end Go.Proofs.YtbpnacacnncopaaGreatDoor
namespace Go.Proofs.YtbpnacacnncopaaGreatDoor
open Go.RowKit Go.Shelf Frm
open Lib (decDigits)
theorem getD_take (l : Bs) {k : Nat} (h : k < l.length) : l.take (k + 1) = l.take k ++ [l.getD k 0] := by
  rw [List.take_succ_eq_append_getElem h]
  congr 2
  rw [List.getD_eq_getElem?_getD, List.getElem?_eq_getElem h]
  rfl
theorem dig_bad {l : Bs} {k : Nat} (h : k < l.length) (hb : isD (l.getD k 0) = false) : digP l = (0, false) := by
  unfold digP
  rw [if_neg]
  intro ha
  rw [List.all_eq_true] at ha
  have hm : l.getD k 0 ∈ l := by rw [List.getD_eq_getElem?_getD, List.getElem?_eq_getElem h]; exact List.getElem_mem h
  rw [ha _ hm] at hb
  cases hb
theorem bytes_below (w : World) (e : TypeId) (s : ByteArray) : Below w.heap.size w (Lib.bytesWorld w e s) :=
  ⟨rfl, rfl, rfl, by rw [Lib.bytesWorld_size]; omega, fun k hk => Lib.bytesWorld_at_old w e s k hk⟩
set_option maxHeartbeats 2000000 in
set_option maxRecDepth 100000 in
theorem digits_any (l : Bs) (w : World) (hl : l.length ≤ 1000) :
    Calls Tryz.prog 127 #[tx l] w fun e w' => e = .returned (.tuple #[.int .i64 ((digP l).1 : Int), .bool (digP l).2]) ∧ Below w.heap.size w w' := by
  have hcv := Lib.run_convert_string_bytes (P := Tryz.prog) w 9 106 5 ⟨l.toArray⟩ (u := .string) Tryz.underlying9 Tryz.underlying106 Tryz.underlying5
  have hb := bytes_below w 5 ⟨l.toArray⟩
  have hc : ∀ j, j < l.length → (Lib.bytesWorld w 5 ⟨l.toArray⟩).cell? ⟨w.heap.size, j, none⟩ = some (.int .u8 (l.getD j 0).toNat) := fun j hj => Lib.bytesWorld_cell w _ ⟨l.toArray⟩ j (by rw [tx_size]; exact hj)
  have hsz := tx_size l
  rw [hsz] at hcv
  have hcap : l.length ≤ grownCap w l.length 0 5 := by
    exact grownCap_ge _ _ _ _
  generalize Lib.bytesWorld w 5 ⟨l.toArray⟩ = w1 at hcv hb hc
  generalize grownCap w l.length 0 5 = cp at hcv hcap
  obtain ⟨n, hn⟩ : ∃ n, l.length = n := ⟨_, rfl⟩
  have HC := Lib.hid hc
  have HN := Lib.hid hn
  rw [hn] at hcv hcap hl
  clear hc hn hsz
  go_enter Tryz.func127, Tryz.ntmps127
  go_wp2
  go_loopg [4, 10] n (fun gz s4 s10 wr => ∃ k : Nat, k ≤ n ∧ n - k ≤ gz ∧ s10 = .int .i64 (k : Int) ∧ s4 = .int .i64 ((numV (l.take k) : Nat) : Int) ∧ (∀ c ∈ l.take k, isD c = true) ∧ wr = w1)
  case atStart => exact ⟨0, Nat.zero_le _, by omega, rfl, rfl, fun c hc => by simp at hc, rfl⟩
  case round =>
    obtain ⟨k, hk, hg, rfl, rfl, hall, rfl⟩ := hrel
    have HA := Lib.hid hall
    have hv := numV_le (l.take k)
    clear hall
    by_cases hlt : k < n
    · have x := HC.out k (by rw [HN.out]; exact hlt)
      have ht := getD_take l (k := k) (by rw [HN.out]; exact hlt)
      have hbad := dig_bad (l := l) (k := k) (by rw [HN.out]; exact hlt)
      have hnx := numV_app (l.take k) (l.getD k 0)
      rw [← ht] at hnx
      have HT := Lib.hid ht
      obtain ⟨c, hc⟩ : ∃ c, l.getD k 0 = c := ⟨_, rfl⟩
      rw [hc] at x hbad hnx HT
      have hc2 : c.toNat < 256 := c.toNat_lt
      obtain ⟨z, hz⟩ : ∃ z, c.toNat = z := ⟨_, rfl⟩
      rw [hz] at x hnx hc2
      generalize numV (l.take k) = v at hv hnx ⊢
      have HX := Lib.hid hnx
      clear ht hnx
      by_cases hd : 48 ≤ z ∧ z ≤ 57
      · have hdc : isD c = true := by unfold isD; rw [hz]; simp; omega
        have d0 : decide ((z : Int) < 48) = false := decide_eq_false (by omega)
        have d1 : decide ((57 : Int) < (z : Int)) = false := decide_eq_false (by omega)
        have HD := Lib.hid hdc
        clear hbad hdc
        go_wp2
        go_roundg (n - (k + 1))
        case measure => omega
        case rel =>
          refine ⟨k + 1, by omega, by omega, by go_num, congrArg (Value.int .i64) (by rw [HX.out]; omega), fun x hx => ?_, rfl⟩
          rw [HT.out] at hx
          rcases List.mem_append.1 hx with h | h
          · exact HA.out x h
          · simp at h; subst h; exact HD.out
      · have hdc : isD c = false := by unfold isD; rw [hz]; simp; omega
        have hr := hbad hdc
        rcases Nat.lt_or_ge z 48 with h1 | h1
        · have d0 : decide ((z : Int) < 48) = true := decide_eq_true (by omega)
          clear hbad hdc hd
          go_wp2
          go_ret2
          exact ⟨by rw [hr]; rfl, hb⟩
        · have d0 : decide ((z : Int) < 48) = false := decide_eq_false (by omega)
          have d1 : decide ((57 : Int) < (z : Int)) = true := decide_eq_true (by omega)
          clear hbad hdc hd
          go_wp2
          go_ret2
          exact ⟨by rw [hr]; rfl, hb⟩
    · obtain rfl : k = n := by omega
      have hall : l.all isD = true := by
        have := HA.out
        rw [List.take_of_length_le (by rw [HN.out]; exact Nat.le_refl _)] at this
        exact List.all_eq_true.2 this
      have hr : digP l = (numV l, !l.isEmpty) := by unfold digP; rw [if_pos hall]
      have HR := Lib.hid hr
      clear hr hall
      have hlk : l.take k = l := List.take_of_length_le (by rw [HN.out]; exact Nat.le_refl _)
      rw [hlk]
      go_wp2
      go_ret2
      exact ⟨by simp [HR.out], hb⟩
theorem cutPrefix_tx (s p : Bs) (w : World) :
    Calls Tryz.prog 126 #[tx s, tx p] w fun e w' => e = .returned (.tuple #[tx (Lib.trimPrefix s p), .bool (Lib.hasPrefix s p)]) ∧ w' = w := cutPrefix_any ⟨s.toArray⟩ ⟨p.toArray⟩ w
theorem cut_tx (s p : Bs) (w : World) (hs : s.length < 4294967281) (hm : Mx w) :
    Calls Tryz.prog 122 #[tx s, tx p] w fun e w' => e = .returned (.tuple #[tx (Lib.cut s p).1, tx (Lib.cut s p).2.1, .bool (Lib.cut s p).2.2]) ∧ Below w.heap.size w w' := cut_any ⟨s.toArray⟩ ⟨p.toArray⟩ w (by rw [tx_size]; exact hs) hm
theorem trim_len (s p : Bs) : (Lib.trimPrefix s p).length ≤ s.length := by
  unfold Lib.trimPrefix
  split
  · rw [List.length_drop]; omega
  · exact Nat.le_refl _
theorem cut_len (s p : Bs) : (Lib.cut s p).1.length ≤ s.length ∧ (Lib.cut s p).2.1.length ≤ s.length := by
  unfold Lib.cut
  split
  · exact ⟨by rw [List.length_take]; omega, by rw [List.length_drop]; omega⟩
  · simp
theorem Mx.stays {w w' : World} (h : Mx w) (hb : Below w.heap.size w w') : Mx w' := by
  obtain ⟨m, hm⟩ := h
  have hlt := World.block_lt_of_cell? w _ hm
  exact ⟨m, (hb.cell (p := ⟨1, 0, none⟩) hlt).trans hm⟩
theorem getB {s : Bs} {k : Nat} {c : UInt8} (h : s[k]? = some c) : ∀ (hh : k < (⟨s.toArray⟩ : ByteArray).size), (⟨s.toArray⟩ : ByteArray)[k]'hh = c := by
  obtain ⟨hk, rfl⟩ := List.getElem?_eq_some_iff.1 h
  intro hh
  rfl
end Go.Proofs.YtbpnacacnncopaaGreatDoor
