/- ref54.Same and law54.small. -/
import Derived.Test.YthfndnmfnijpeaaGreatHMh
import Derived.Test.YthfndnmfnijpeaaGreatHMi
import Derived.Test.YthfndnmfnijpeaaGreatHMj
import Derived.Test.YthfndnmfnijpeaaGreatHLy
import Derived.Test.YthfndnmfnijpeaaGreatHLq
import Derived.Test.YthfndnmfnijpeaaGreatHMy
import Derived.Test.YthfndnmfnijpeaaGreatHMe
set_option linter.unusedVariables false
set_option linter.unusedSimpArgs false
namespace Go.Proofs.YthfndnmfnijpeaaGreat
open Go.RowKit
open LB (Bs Rec St)
theorem Decode_any (b : Bs) (A : Option Addr) (n c : Nat) (w : World) (hA : BytesAt w w.heap.size A b) (hn : b.length = n) (hc : n ≤ c) (hcm : c ≤ maxLen) (hn1 : n ≤ 1000) :
    Calls Tryz.prog 6 #[.slice A n c] w fun e w' => (∃ A' n' c', e = .returned (.tuple #[recV (LB.dec vaB b).1 (.slice A' n' c'), .int .i64 (LB.dec vaB b).2]) ∧ IntsAt w' A' (LB.dec vaB b).1.list ∧ (LB.dec vaB b).1.list.length = n' ∧ n' ≤ c' ∧ c' ≤ maxLen) ∧ Below w.heap.size w w' := by
  cases b with
  | nil =>
    obtain rfl : n = 0 := by simpa using hn.symm
    exact decNil_any A c w
  | cons kb t =>
    by_cases h : kb.toNat < 1 ∨ 5 < kb.toNat
    · exact decOut_any kb h t A n c w hA hn
    · have hk : kb.toNat = 1 ∨ kb.toNat = 2 ∨ kb.toNat = 3 ∨ kb.toNat = 4 ∨ kb.toNat = 5 := by omega
      rcases hk with hk | hk | hk | hk | hk
      · exact dec1_any kb hk t A n c w hA hn hc hcm hn1
      · exact dec2_any kb hk t A n c w hA hn hc hcm hn1
      · exact dec3_any kb hk t A n c w hA hn hc hcm hn1
      · exact dec4_any kb hk t A n c w hA hn hc hcm hn1
      · exact dec5_any kb hk t A n c w hA hn hc hcm hn1
end Go.Proofs.YthfndnmfnijpeaaGreat
namespace Go.Proofs.YthfndnmfnijpeaaGreat
open Go.RowKit Go.Shelf
open LB (Bs Rec St)
theorem bytesAt_own {w : World} {base n : Nat} {v : Value} {l : Bs} (h : w.ownsRow base 5 1 v n (bcs l)) : ∃ A c, v = .slice A n c ∧ BytesAt w w.heap.size A l ∧ l.length = n ∧ n ≤ c ∧ c ≤ maxLen := by
  obtain ⟨A, c, rfl, hr, hc, hcm⟩ := own_form h
  have hl : l.length = n := by have := hr.1; rw [bcs_length] at this; omega
  refine ⟨A, c, rfl, ?_, hl, hc, hcm⟩
  cases l with
  | nil => exact .inl rfl
  | cons x0 l =>
    simp at hl
    obtain ⟨ad, rfl, hb, hcell⟩ := hr.2 (by omega)
    obtain ⟨b, off, spot⟩ := ad
    have hspot : spot = none := by simpa [Addr.add] using World.cell?_spot (hcell 0 (.int .u8 (x0.toNat : Int)) (by simp [bcs]))
    subst hspot
    refine .inr ⟨b, off, rfl, hb, fun j x hx => ?_⟩
    have := hcell j (.int .u8 (x.toNat : Int)) (by unfold bcs; rw [List.getElem?_map, hx]; rfl)
    rwa [Go.WideShapes.add_plain] at this
theorem bytesIn {w : World} {B n : Nat} {A : Option Addr} {l : Bs} (h : BytesAt w B A l) (hn : l.length = n) : Lib.BytesIn w A n (l.map fun c => (c.toNat : Int)) := by
  rcases h with h | ⟨b, off, e, hlt, hc⟩
  · subst h
    obtain rfl : n = 0 := by simpa using hn.symm
    exact Lib.BytesIn.nil _ _ _
  · subst e
    exact Lib.BytesIn.of_cells (fun i hi => by
      have hi' : i < l.length := by omega
      rw [Go.WideShapes.add_plain, hc i l[i] (List.getElem?_eq_getElem hi')]
      simp [List.getD_eq_getElem?_getD, List.getElem?_eq_getElem hi'])
theorem bytesEq_any (A1 A2 : Option Addr) (n1 c1 n2 c2 B1 B2 : Nat) (x y : Bs) (w : World) (h1 : BytesAt w B1 A1 x) (h2 : BytesAt w B2 A2 y) (e1 : x.length = n1) (e2 : y.length = n2) :
    Calls Tryz.prog 8 #[.slice A1 n1 c1, .slice A2 n2 c2] w fun e w' => e = .returned (.bool (decide (x = y))) ∧ w' = w := by
  have hx : Lib.bytesOf (x.map fun c => (c.toNat : Int)) = x := by
    unfold Lib.bytesOf
    rw [List.map_map]
    refine (List.map_congr_left fun c _ => ?_).trans (List.map_id x)
    show UInt8.ofNat ((c.toNat : Int)).toNat = id c
    simp
  have hy : Lib.bytesOf (y.map fun c => (c.toNat : Int)) = y := by
    unfold Lib.bytesOf
    rw [List.map_map]
    refine (List.map_congr_left fun c _ => ?_).trans (List.map_id y)
    show UInt8.ofNat ((c.toNat : Int)).toNat = id c
    simp
  refine (Any.bytes_Equal_all Tryz.lays115 A1 A2 n1 c1 n2 c2 _ _ w (by simpa using e1) (by simpa using e2) (bytesIn h1 e1) (bytesIn h2 e2)).mono fun e w' ⟨he, hw⟩ => ⟨?_, hw⟩
  rw [he, hx, hy]
  exact ret_boo (by by_cases h : x = y <;> simp [h])
end Go.Proofs.YthfndnmfnijpeaaGreat
namespace Go.Proofs.YthfndnmfnijpeaaGreat
open Go.RowKit Go.Shelf
open LB (Bs Rec)
def rN : Rec := ⟨5, 0, 0, 0, 0, 0, 0, 0, 0, 0, 0, [], 0, 0, 0, 0, 0, 0, 0, 0, 0, 0, [], [104, 101, 108, 108, 111]⟩
theorem numZ {r : Rec} (h : (numL r).all (fun x => decide (-9223372036854775808 ≤ x) && decide (x < 9223372036854775808)) = true) : ∀ x ∈ numL r, LB.I64 x := fun x hx => by
  have := List.all_eq_true.1 h x hx
  simp only [Bool.and_eq_true, decide_eq_true_eq] at this
  exact this
theorem note_any (w : World) : Calls Tryz.prog 7 #[recV rN (.slice none 0 0)] w fun e w' => (∃ A c, e = .returned (.tuple #[.slice A 24 c, .int .i64 0])) ∧ Below w.heap.size w w' := by
  have h := Encode_any rN none 0 0 w (.inl rfl) rfl (by omega) (Nat.le_refl _) (by simp [maxLen]) (by decide) (by decide) (numZ (by decide)) (fun x hx => by simp [rN] at hx)
  refine h.mono fun e w' ⟨_, h1, hb⟩ => ?_
  obtain ⟨v, rfl, ho⟩ := h1 (by decide +kernel)
  obtain ⟨A, c, rfl, -, hl, -⟩ := bytesAt_own ho
  have : (LB.enc rN).length = 24 := by decide +kernel
  rw [this]
  exact ⟨⟨A, c, rfl⟩, hb⟩
theorem Blk.ne_log {w : World} {q l : Nat} {cs ds : Array Value} (h : Blk w q 33 cs) (h' : Blk w l 102 ds) : q ≠ l := h.ne_ h' (by decide)
theorem vA : vaB rA = true := by decide +kernel
theorem vB : vaB rB = true := by decide +kernel
set_option maxHeartbeats 8000000 in
set_option maxRecDepth 100000 in
theorem awake_yes (w : World) : Calls Tryz.prog 4 #[] w fun e w' => e = .returned (.bool true) ∧ Below w.heap.size w w' := by
  have K1 := Lib.hid note_any
  have K2 := Lib.hid newNil
  have K3 := Lib.hid logNew
  go_enter Tryz.func4, Tryz.ntmps4
  go_upto_region 7 with (first | (go_at_call 7; (refine (K1.out _).mono ?_); rintro e w1 ⟨⟨A1, c1, rfl⟩, hb1⟩) | (go_at_call 11; (with_reducible refine (K2.out _).mono ?_); rintro e w2 ⟨bk, rfl, -, hb2⟩) | (go_at_call 12; (with_reducible refine (K3.out _ _).mono ?_); rintro e w3 ⟨l, hl, rfl, hL, hb3⟩))
  have b2 := hb1.trans (hb2.mono hb1.size)
  have b3 := Lib.hid (b2.trans (hb3.mono b2.size))
  have hlw : w.heap.size ≤ l := Nat.le_trans b2.size hl
  have L3 := Lib.hid hL
  clear hb1 hb2 hb3 b2 hL hl K1 K2 K3
  repeat ((fail_if_success (refine wpList_store_row rfl _ (.tmp 8) (.tmp 50) rfl w3.heap.size (recC rA (.slice none 0 0)) rfl rfl _ _ (heap_alloc_last _ _) (info24 rfl) rfl (by simp [rA, txb, Value.oneCell']) ?_)); (first | go_values | go_skip | go_guarded | go_step))
  refine wpList_store_row rfl _ (.tmp 8) (.tmp 50) rfl w3.heap.size (recC rA (.slice none 0 0)) rfl rfl _ _ (heap_alloc_last _ _) (info24 rfl) rfl (by simp [rA, txb, Value.oneCell']) ?_
  rw [World.setRow_alloc_new]
  simp only [Act.put]
  have L4 := Lib.hid (L3.out.alloc (.cells (recC rA (.slice none 0 0)) 33))
  have S4 := Lib.hid (Blk.new w3 33 (recC rA (.slice none 0 0)))
  have b4 := Lib.hid (b3.out.trans ((bl_alloc w3 (.cells (recC rA (.slice none 0 0)) 33)).mono b3.out.size))
  clear L3 b3
  generalize w3.alloc (.cells (recC rA (.slice none 0 0)) 33) = w4 at *
  repeat ((fail_if_success (refine wpList_store_row rfl _ (.tmp 9) (.tmp 53) rfl w4.heap.size (recC rB (.slice none 0 0)) rfl rfl _ _ (heap_alloc_last _ _) (info24 rfl) rfl (by simp [rB, txb, Value.oneCell']) ?_)); (first | go_values | go_skip | go_guarded | go_step))
  refine wpList_store_row rfl _ (.tmp 9) (.tmp 53) rfl w4.heap.size (recC rB (.slice none 0 0)) rfl rfl _ _ (heap_alloc_last _ _) (info24 rfl) rfl (by simp [rB, txb, Value.oneCell']) ?_
  rw [World.setRow_alloc_new]
  simp only [Act.put]
  have L5 := Lib.hid (L4.out.alloc (.cells (recC rB (.slice none 0 0)) 33))
  have S5 := Lib.hid (S4.out.alloc (.cells (recC rB (.slice none 0 0)) 33))
  have M5 := Lib.hid (Blk.new w4 33 (recC rB (.slice none 0 0)))
  have b5 := Lib.hid (b4.out.trans ((bl_alloc w4 (.cells (recC rB (.slice none 0 0)) 33)).mono b4.out.size))
  clear L4 S4 b4
  generalize w4.alloc (.cells (recC rB (.slice none 0 0)) 33) = w5 at *
  obtain ⟨q8, h8⟩ : ∃ q, w3.heap.size = q := ⟨_, rfl⟩
  obtain ⟨q9, h9⟩ : ∃ q, w4.heap.size = q := ⟨_, rfl⟩
  rw [h8] at S5 ⊢
  rw [h9] at M5 ⊢
  clear h8 h9
  go_upto_region 9 with fail
  repeat ((fail_if_success (refine wp_load_rec (.tmp 8) rfl rfl S5.out rfl ?_)); (first | go_values | go_skip | go_guarded | go_step))
  refine wp_load_rec (.tmp 8) rfl rfl S5.out rfl ?_
  simp only [Act.put, List.setIfInBounds_toArray, List.set_cons_zero, List.set_cons_succ]
  have KA := Lib.hid (add0_any l w.heap.size (.pointer (some ⟨bk, 0, none⟩)) rA w5 b5.out.size vA rfl (by decide) (by decide) (by decide) (by decide) L5.out)
  go_wp2_with fail
  (refine (KA.out).mono ?_)
  rintro e w6 ⟨rfl, k6, v6, hL6, hO6⟩
  have M6 := Lib.hid (M5.out.adk k6 (M5.out.ne_log L5.out))
  have b6 := Lib.hid (AdK.below b5.out k6 b5.out.size hlw (fun j hj => by simp [Value.ownBlock] at hj))
  obtain ⟨g0, c0, rfl, hg1, hg0, -, -, hR0⟩ := own_rec1 hO6 rfl
  have L6 := Lib.hid hL6
  have O6 := Lib.hid hO6
  have R6 := Lib.hid hR0
  clear k6 hL6 hO6 hR0 KA L5 S5 M5 b5
  dsimp only
  repeat ((fail_if_success (refine wp_load_rec (.tmp 9) rfl rfl M6.out rfl ?_)); (first | go_values | go_skip | go_guarded | go_step))
  refine wp_load_rec (.tmp 9) rfl rfl M6.out rfl ?_
  simp only [Act.put, List.setIfInBounds_toArray, List.set_cons_zero, List.set_cons_succ]
  have KA := Lib.hid (add1_any l w.heap.size (.pointer (some ⟨bk, 0, none⟩)) rB w6 b6.out.size vB rfl (by decide) (by decide) (by decide) (by decide) g0 c0 rA L6.out O6.out R6.out hg0 (by decide))
  go_wp2_with fail
  (refine (KA.out).mono ?_)
  rintro e w7 ⟨rfl, k7, v7, hL7, hO7⟩
  have b7 := Lib.hid (AdK.below b6.out k7 b6.out.size hlw (fun j hj => by simp [Value.ownBlock] at hj; omega))
  obtain ⟨g1, n1, rfl, hg3, hg2, -, -, hR1, hR2⟩ := own_rec2 hO7 rfl rfl
  have L7 := Lib.hid hL7
  have R7 := Lib.hid hR1
  have Q7 := Lib.hid hR2
  clear k7 hL7 hO7 hR1 hR2 KA L6 O6 R6 M6 b6
  have KR := Lib.hid (Reckoned_two l g1 n1 (.pointer (some ⟨bk, 0, none⟩)) w7 L7.out R7.out Q7.out hg2)
  go_wp2_with fail
  (refine (KR.out).mono ?_)
  rintro e w8 ⟨rfl, hb8⟩
  have L8 := Lib.hid ((L7.out.below hb8 L7.out.lt).alloc (.cells #[.int .i64 3010000, .int .i64 3010000, .int .i64 0, .int .i64 0] 26))
  have R8 := Lib.hid ((R7.out.below hb8 hg2).below (bl_alloc w8 (.cells #[.int .i64 3010000, .int .i64 3010000, .int .i64 0, .int .i64 0] 26)) (Nat.lt_of_lt_of_le hg2 hb8.size))
  have Q8 := Lib.hid ((Q7.out.below hb8 hg2).below (bl_alloc w8 (.cells #[.int .i64 3010000, .int .i64 3010000, .int .i64 0, .int .i64 0] 26)) (Nat.lt_of_lt_of_le hg2 hb8.size))
  have b80 := b7.out.trans (hb8.mono b7.out.size)
  have b8 := Lib.hid (b80.trans ((bl_alloc w8 (.cells #[.int .i64 3010000, .int .i64 3010000, .int .i64 0, .int .i64 0] 26)).mono b80.size))
  have hg8 : g1 < (w8.alloc (.cells #[.int .i64 3010000, .int .i64 3010000, .int .i64 0, .int .i64 0] 26)).heap.size := by have := hb8.size; simp; omega
  have P8 := Blk.new w8 26 #[.int .i64 3010000, .int .i64 3010000, .int .i64 0, .int .i64 0]
  clear hb8 L7 R7 Q7 b7 KR b80
  go_upto_region 12 with fail
  generalize w8.alloc (.cells #[.int .i64 3010000, .int .i64 3010000, .int .i64 0, .int .i64 0] 26) = w9 at *
  have y0 : w9.cell? ⟨w8.heap.size, 0, none⟩ = some (.int .i64 3010000) := P8.cell 0
  have y1 : w9.cell? ⟨w8.heap.size, 1, none⟩ = some (.int .i64 3010000) := P8.cell 1
  have KC := Lib.hid (records2_any l g1 n1 (.pointer (some ⟨bk, 0, none⟩)) rA rB w9 L8.out R8.out Q8.out hg8)
  clear P8 L8 R8 Q8
  go_wp2_with (go_at_call 15; (refine (KC.out).mono ?_); rintro e w10 ⟨⟨A2, c2, rfl⟩, hb10⟩)
  go_ret
  exact ⟨rfl, b8.out.trans (hb10.mono b8.out.size)⟩
end Go.Proofs.YthfndnmfnijpeaaGreat
namespace Go.Proofs.YthfndnmfnijpeaaGreat
open Go.RowKit Go.Shelf
open LB (Bs Rec)
set_option maxHeartbeats 4000000 in
set_option maxRecDepth 100000 in
theorem small_any (r : Rec) (A : Option Addr) (n c : Nat) (w : World) (hb : r.body.length ≤ 9223372036854775807) (ht : r.text.length ≤ 9223372036854775807) (hn : n ≤ 9223372036854775807) :
    Calls Tryz.prog 5 #[recV r (.slice A n c)] w fun e w' => e = .returned (.bool (decide (r.text.length ≤ 505 ∧ n ≤ 45 ∧ r.body.length ≤ 100))) ∧ Below w.heap.size w w' := by
  have hz1 : (⟨r.text.toArray⟩ : ByteArray).size = r.text.length := txb_size _
  have hz2 : (⟨r.body.toArray⟩ : ByteArray).size = r.body.length := txb_size _
  obtain ⟨R, hR⟩ : ∃ R, decide (r.text.length ≤ 505 ∧ n ≤ 45 ∧ r.body.length ≤ 100) = R := ⟨_, rfl⟩
  rw [hR]
  have HR := Lib.hid hR
  clear hR
  generalize r.text.length = x at hz1 HR ht
  generalize r.body.length = y at hz2 HR hb
  by_cases h1 : x ≤ 505
  · by_cases h2 : n ≤ 45
    · by_cases h3 : y ≤ 100
      · obtain rfl : R = true := by rw [← HR.out]; exact decide_eq_true ⟨h1, h2, h3⟩
        clear HR
        go_enter Tryz.func5, Tryz.ntmps5
        go_wp2
        go_ret
        refine ⟨ret_boo (by first | rfl | (simp; done) | (simp; omega) | (exact decide_eq_true (by omega))), ?_⟩
        repeat (first | exact Below.refl _ _ | assumption | refine bl_drew ?_ | refine bl_drewN ?_ _ | refine Below.setCell ?_ (by first | assumption | omega | (simp; done) | (simp; omega)) _ | refine Below.alloc ?_ (by first | assumption | omega | (simp; done) | (simp; omega)) _)
      · obtain rfl : R = false := by rw [← HR.out]; exact decide_eq_false (fun h => h3 h.2.2)
        clear HR
        go_enter Tryz.func5, Tryz.ntmps5
        go_wp2
        go_ret
        refine ⟨ret_boo (by first | rfl | (simp; done) | (simp; omega) | (exact decide_eq_false (by omega))), ?_⟩
        repeat (first | exact Below.refl _ _ | assumption | refine bl_drew ?_ | refine bl_drewN ?_ _ | refine Below.setCell ?_ (by first | assumption | omega | (simp; done) | (simp; omega)) _ | refine Below.alloc ?_ (by first | assumption | omega | (simp; done) | (simp; omega)) _)
    · obtain rfl : R = false := by rw [← HR.out]; exact decide_eq_false (fun h => h2 h.2.1)
      clear HR
      go_enter Tryz.func5, Tryz.ntmps5
      go_wp2
      go_ret
      refine ⟨ret_boo (by first | rfl | (simp; done) | (simp; omega) | (exact decide_eq_false (by omega))), ?_⟩
      repeat (first | exact Below.refl _ _ | assumption | refine bl_drew ?_ | refine bl_drewN ?_ _ | refine Below.setCell ?_ (by first | assumption | omega | (simp; done) | (simp; omega)) _ | refine Below.alloc ?_ (by first | assumption | omega | (simp; done) | (simp; omega)) _)
  · obtain rfl : R = false := by rw [← HR.out]; exact decide_eq_false (fun h => h1 h.1)
    clear HR
    go_enter Tryz.func5, Tryz.ntmps5
    go_wp2
    go_ret
    refine ⟨ret_boo (by first | rfl | (simp; done) | (simp; omega) | (exact decide_eq_false (by omega))), ?_⟩
    repeat (first | exact Below.refl _ _ | assumption | refine bl_drew ?_ | refine bl_drewN ?_ _ | refine Below.setCell ?_ (by first | assumption | omega | (simp; done) | (simp; omega)) _ | refine Below.alloc ?_ (by first | assumption | omega | (simp; done) | (simp; omega)) _)
set_option maxHeartbeats 8000000 in
set_option maxRecDepth 100000 in
theorem Same_yes (x : Rec) (A1 A2 : Option Addr) (n c1 c2 : Nat) (w : World) (h1 : IntsAt w A1 x.list) (h2 : IntsAt w A2 x.list) (hn : x.list.length = n) (b1 : n ≤ 100000) :
    Calls Tryz.prog 10 #[recV x (.slice A1 n c1), recV x (.slice A2 n c2)] w fun e w' => e = .returned (.bool true) ∧ Below w.heap.size w w' := by
  have hA : ∀ W, (binOp .neq 23 (tiv x.at0 x.at1) (tiv x.at0 x.at1)).run Tryz.prog W = .ok (.bool false) W := fun W => by rw [run_neq_struct, show (10000 : Nat) = 9998 + 1 + 1 from rfl, eqInTime]; simp [Result.andThen]
  have hP : ∀ W, (binOp .neq 26 (plv x.p0 x.p1 x.p2 x.p3) (plv x.p0 x.p1 x.p2 x.p3)).run Tryz.prog W = .ok (.bool false) W := fun W => by rw [run_neq_struct, eqInPlace]; simp [Result.andThen]
  have hM : ∀ W, (binOp .neq 28 (plv x.m0 x.m1 x.m2 x.m3) (plv x.m0 x.m1 x.m2 x.m3)).run Tryz.prog W = .ok (.bool false) W := fun W => by rw [run_neq_struct, eqInMotion]; simp [Result.andThen]
  have hS : ∀ W, (binOp .neq 30 (sgv x.body x.limb x.sa0 x.sa1 x.hs x.within x.horizon x.eye x.shore x.temp x.pres) (sgv x.body x.limb x.sa0 x.sa1 x.hs x.within x.horizon x.eye x.shore x.temp x.pres)).run Tryz.prog W = .ok (.bool false) W := fun W => by rw [run_neq_struct, eqInSight]; simp [Result.andThen, sgE]
  obtain ⟨k, a0, a1, p0, p1, p2, p3, m0, m1, m2, m3, bo, s0, s1, s2, s3, s4, s5, s6, s7, s8, s9, li, te⟩ := x
  simp only [] at *
  have H1 := Lib.hid h1
  have H2 := Lib.hid h2
  have HN := Lib.hid hn
  clear h1 h2 hn
  go_enter Tryz.func10, Tryz.ntmps10
  go_upto_region 3 with fail
  have Bz := Lib.hid (((Below.refl _ w).alloc (Nat.le_refl _) (.cells #[.int .i64 k, .int .i64 a0, .int .i64 a1, .int .i64 p0, .int .i64 p1, .int .i64 p2, .int .i64 p3, .int .i64 m0, .int .i64 m1, .int .i64 m2, .int .i64 m3, txb bo, .int .i64 s0, .int .i64 s1, .int .i64 s2, .int .i64 s3, .int .i64 s4, .int .i64 s5, .int .i64 s6, .int .i64 s7, .int .i64 s8, .int .i64 s9, .slice A1 n c1, txb te] 33)).alloc (by simp) (.cells #[.int .i64 k, .int .i64 a0, .int .i64 a1, .int .i64 p0, .int .i64 p1, .int .i64 p2, .int .i64 p3, .int .i64 m0, .int .i64 m1, .int .i64 m2, .int .i64 m3, txb bo, .int .i64 s0, .int .i64 s1, .int .i64 s2, .int .i64 s3, .int .i64 s4, .int .i64 s5, .int .i64 s6, .int .i64 s7, .int .i64 s8, .int .i64 s9, .slice A2 n c2, txb te] 33))
  have z1 : ((w.alloc (.cells #[.int .i64 k, .int .i64 a0, .int .i64 a1, .int .i64 p0, .int .i64 p1, .int .i64 p2, .int .i64 p3, .int .i64 m0, .int .i64 m1, .int .i64 m2, .int .i64 m3, txb bo, .int .i64 s0, .int .i64 s1, .int .i64 s2, .int .i64 s3, .int .i64 s4, .int .i64 s5, .int .i64 s6, .int .i64 s7, .int .i64 s8, .int .i64 s9, .slice A1 n c1, txb te] 33)).alloc (.cells #[.int .i64 k, .int .i64 a0, .int .i64 a1, .int .i64 p0, .int .i64 p1, .int .i64 p2, .int .i64 p3, .int .i64 m0, .int .i64 m1, .int .i64 m2, .int .i64 m3, txb bo, .int .i64 s0, .int .i64 s1, .int .i64 s2, .int .i64 s3, .int .i64 s4, .int .i64 s5, .int .i64 s6, .int .i64 s7, .int .i64 s8, .int .i64 s9, .slice A2 n c2, txb te] 33)).cell? ⟨w.heap.size, 22, none⟩ = some (.slice A1 n c1) := ((Blk.new w 33 #[.int .i64 k, .int .i64 a0, .int .i64 a1, .int .i64 p0, .int .i64 p1, .int .i64 p2, .int .i64 p3, .int .i64 m0, .int .i64 m1, .int .i64 m2, .int .i64 m3, txb bo, .int .i64 s0, .int .i64 s1, .int .i64 s2, .int .i64 s3, .int .i64 s4, .int .i64 s5, .int .i64 s6, .int .i64 s7, .int .i64 s8, .int .i64 s9, .slice A1 n c1, txb te]).alloc _).cell 22
  have z2 : ((w.alloc (.cells #[.int .i64 k, .int .i64 a0, .int .i64 a1, .int .i64 p0, .int .i64 p1, .int .i64 p2, .int .i64 p3, .int .i64 m0, .int .i64 m1, .int .i64 m2, .int .i64 m3, txb bo, .int .i64 s0, .int .i64 s1, .int .i64 s2, .int .i64 s3, .int .i64 s4, .int .i64 s5, .int .i64 s6, .int .i64 s7, .int .i64 s8, .int .i64 s9, .slice A1 n c1, txb te] 33)).alloc (.cells #[.int .i64 k, .int .i64 a0, .int .i64 a1, .int .i64 p0, .int .i64 p1, .int .i64 p2, .int .i64 p3, .int .i64 m0, .int .i64 m1, .int .i64 m2, .int .i64 m3, txb bo, .int .i64 s0, .int .i64 s1, .int .i64 s2, .int .i64 s3, .int .i64 s4, .int .i64 s5, .int .i64 s6, .int .i64 s7, .int .i64 s8, .int .i64 s9, .slice A2 n c2, txb te] 33)).cell? ⟨w.heap.size + 1, 22, none⟩ = some (.slice A2 n c2) := by simp
  generalize (w.alloc (.cells #[.int .i64 k, .int .i64 a0, .int .i64 a1, .int .i64 p0, .int .i64 p1, .int .i64 p2, .int .i64 p3, .int .i64 m0, .int .i64 m1, .int .i64 m2, .int .i64 m3, txb bo, .int .i64 s0, .int .i64 s1, .int .i64 s2, .int .i64 s3, .int .i64 s4, .int .i64 s5, .int .i64 s6, .int .i64 s7, .int .i64 s8, .int .i64 s9, .slice A1 n c1, txb te] 33)).alloc (.cells #[.int .i64 k, .int .i64 a0, .int .i64 a1, .int .i64 p0, .int .i64 p1, .int .i64 p2, .int .i64 p3, .int .i64 m0, .int .i64 m1, .int .i64 m2, .int .i64 m3, txb bo, .int .i64 s0, .int .i64 s1, .int .i64 s2, .int .i64 s3, .int .i64 s4, .int .i64 s5, .int .i64 s6, .int .i64 s7, .int .i64 s8, .int .i64 s9, .slice A2 n c2, txb te] 33) = wa at Bz z1 z2 ⊢
  have I1 := Lib.hid (H1.out.bl Bz.out)
  have I2 := Lib.hid (H2.out.bl Bz.out)
  clear H1 H2 hA hP hM hS
  go_wp2
  go_loopg [5] n (fun gz s5 wr => ∃ j : Nat, j ≤ n ∧ n - j ≤ gz ∧ s5 = .int .i64 (j : Int) ∧ ∃ q, wr = wa.drewN q)
  case atStart => exact ⟨0, Nat.zero_le _, by omega, rfl, 0, rfl⟩
  case round =>
    obtain ⟨j, hj, hg, rfl, q, rfl⟩ := hrel
    by_cases hlt : j < n
    · obtain ⟨x, hx⟩ : ∃ x, li[j]? = some x := ⟨_, List.getElem?_eq_getElem (by rw [HN.out]; exact hlt)⟩
      obtain ⟨b1', o1, rfl, y1⟩ : ∃ b off, A1 = some ⟨b, off, none⟩ ∧ wa.cell? ⟨b, off + j, none⟩ = some (.int .i64 x) := by
        rcases I1.out with e | ⟨b, off, e, _, hc⟩
        · rw [e] at hx; simp at hx
        · exact ⟨b, off, e, hc j x hx⟩
      obtain ⟨b2', o2, rfl, y2⟩ : ∃ b off, A2 = some ⟨b, off, none⟩ ∧ wa.cell? ⟨b, off + j, none⟩ = some (.int .i64 x) := by
        rcases I2.out with e | ⟨b, off, e, _, hc⟩
        · rw [e] at hx; simp at hx
        · exact ⟨b, off, e, hc j x hx⟩
      clear hx
      go_wp2
      go_region
      go_wp2
      go_roundg (n - (j + 1))
      case measure => omega
      case rel => exact ⟨j + 1, by omega, by omega, by go_num, q + 1, rfl⟩
    · obtain rfl : j = n := by omega
      go_wp2
      go_ret
      exact ⟨rfl, bl_drewN Bz.out q⟩
end Go.Proofs.YthfndnmfnijpeaaGreat
