/- slices.ContainsFunc at cells, where the function that is asked changes what there is and always says no. -/
import Derived.Test.YtpemohoibeipfaaGreatHKx
import Derived.Test.YtpemohoibeipfaaGreatHJb
set_option linter.unusedVariables false
set_option linter.unusedSimpArgs false
namespace Go.Proofs.YtpemohoibeipfaaGreat
open Go.RowKit
set_option maxHeartbeats 1000000 in
set_option maxRecDepth 100000 in
theorem idxIn_any (g : Nat) (lb : Array Value) (p : Cl → Bool) (eg : ∀ args w, (callFunc g args).run Tryz.prog w = .ok (.enter g args) w) (A : Option Addr) (n c : Nat) (L : List Cl) (w : World)
    (hr : Reads w w.heap.size 3 A n (cvs L)) (hn : n ≤ maxLen) (hp : ∀ (W : World) (x : Cl), x ∈ L → Below w.heap.size w W → Calls Tryz.prog g (#[cva x] ++ lb) W fun e w' => e = .returned (.bool (p x)) ∧ Below W.heap.size W w') :
    Calls Tryz.prog 99 #[.slice A n c, .func (.func g) #[] lb] w (IdxPost w (L.any p)) := by
  have HL := Lib.hid hr.len
  have HR := Lib.hid hr
  have HP := Lib.hid hp
  clear hr hp
  unfold maxLen at hn
  go_enter Tryz.func99, Tryz.ntmps99
  go_wp2
  go_loopg [8] n (fun gg s8 wr => ∃ kk : Nat, kk ≤ n ∧ n - kk ≤ gg ∧ s8 = .int .i64 kk ∧ Below w.heap.size w wr ∧ (L.take kk).any p = false)
  case atStart => exact ⟨0, Nat.zero_le _, by omega, rfl, Below.refl _ w, rfl⟩
  case round =>
    obtain ⟨kk, hkk, hg, rfl, BW, HA⟩ := hrel
    have HA := Lib.hid HA
    by_cases hlt : kk < n
    · obtain ⟨b, off, rfl, hb, x1, x2, x3⟩ := HR.out.elem hlt
      have y1 := (BW.cell (p := ⟨b, off + kk * 3, none⟩) hb).trans x1
      have y2 := (BW.cell (p := ⟨b, off + kk * 3 + 1, none⟩) hb).trans x2
      have y3 := (BW.cell (p := ⟨b, off + kk * 3 + 2, none⟩) hb).trans x3
      clear x1 x2 x3
      have hcall := HP.out wr (gt L kk) (gt_mem L kk (by rw [HL.out]; exact hlt)) BW
      have h1 := Lib.hid (any_take_succ L p kk (by rw [HL.out]; exact hlt) HA.out)
      have h2 := Lib.hid (any_of_gt L p kk (by rw [HL.out]; exact hlt))
      cases hq : p (gt L kk) with
      | true =>
        have h3 := Lib.hid (h2.out hq)
        rw [hq] at hcall
        have hcall := Lib.hid hcall
        clear hq h1 h2
        go_wp2_with (go_at_fn g; refine hcall.out.mono ?_; rintro e w' ⟨rfl, hb'⟩)
        go_ret
        exact ⟨kk, rfl, by rw [h3.out]; simp, BW.trans (hb'.mono BW.size)⟩
      | false =>
        have h3 := Lib.hid (h1.out hq)
        rw [hq] at hcall
        have hcall := Lib.hid hcall
        clear hq h1 h2
        go_wp2_with (go_at_fn g; refine hcall.out.mono ?_; rintro e w' ⟨rfl, hb'⟩)
        go_roundg (n - (kk + 1))
        case measure => omega
        case rel => exact ⟨kk + 1, by omega, by omega, by go_num, BW.trans (hb'.mono BW.size), h3.out⟩
    · go_wp2
      go_ret
      have h := HA.out
      rw [List.take_of_length_le (by rw [HL.out]; omega)] at h
      exact ⟨-1, rfl, by rw [h]; rfl, BW⟩

set_option maxHeartbeats 1000000 in
theorem contIn_any (g : Nat) (lb : Array Value) (p : Cl → Bool) (eg : ∀ args w, (callFunc g args).run Tryz.prog w = .ok (.enter g args) w) (A : Option Addr) (n c : Nat) (L : List Cl) (w : World)
    (hr : Reads w w.heap.size 3 A n (cvs L)) (hn : n ≤ maxLen) (hp : ∀ (W : World) (x : Cl), x ∈ L → Below w.heap.size w W → Calls Tryz.prog g (#[cva x] ++ lb) W fun e w' => e = .returned (.bool (p x)) ∧ Below W.heap.size W w') :
    Calls Tryz.prog 56 #[.slice A n c, .func (.func g) #[] lb] w fun e w' => e = .returned (.bool (L.any p)) ∧ Below w.heap.size w w' := by
  have H := Lib.hid (idxIn_any g lb p eg A n c L w hr hn hp)
  clear hp hr hn eg
  go_enter Tryz.func56, Tryz.ntmps56
  go_wp2_with (go_at_call 99; refine H.out.mono ?_; rintro e w1 ⟨k, rfl, hk, hb⟩; have HK := Lib.hid hk; clear hk)
  go_ret
  exact ⟨ret_bool HK.out, hb⟩
/-- one cell that is known -/
structure K3 (W : World) (g : Nat) (x : Cl) : Prop where
  lt : g < W.heap.size
  c0 : W.cell? ⟨g, 0, none⟩ = some (.int .i64 x.1)
  c1 : W.cell? ⟨g, 1, none⟩ = some (.int .i64 x.2.1)
  c2 : W.cell? ⟨g, 2, none⟩ = some (.int .i64 x.2.2)
end Go.Proofs.YtpemohoibeipfaaGreat
namespace Go.Proofs.YtpemohoibeipfaaGreat
open Go.RowKit
set_option maxHeartbeats 1000000 in
set_option maxRecDepth 100000 in
theorem idxSt_any (g : Nat) (lb : Array Value) (J : Nat → World → Prop) (eg : ∀ args w, (callFunc g args).run Tryz.prog w = .ok (.enter g args) w) (A : Option Addr) (n c : Nat) (L : List Cl) (w : World) (hl : L.length = n)
    (hr : ∀ k W, J k W → Reads W W.heap.size 3 A n (cvs L)) (hn : n ≤ maxLen) (h0 : J 0 w) (hp : ∀ (W : World) (k : Nat), k < n → J k W → Calls Tryz.prog g (#[cva (gt L k)] ++ lb) W fun e w' => e = .returned (.bool false) ∧ J (k + 1) w') :
    Calls Tryz.prog 99 #[.slice A n c, .func (.func g) #[] lb] w fun e w' => e = .returned (.int .i64 (-1)) ∧ J n w' := by
  have HR := Lib.hid hr
  have HP := Lib.hid hp
  have H0 := Lib.hid h0
  clear hr hp hl h0
  unfold maxLen at hn
  go_enter Tryz.func99, Tryz.ntmps99
  go_wp2
  go_loopg [8] n (fun gg s8 wr => ∃ kk : Nat, kk ≤ n ∧ n - kk ≤ gg ∧ s8 = .int .i64 kk ∧ J kk wr)
  case atStart => exact ⟨0, Nat.zero_le _, by omega, rfl, H0.out⟩
  case round =>
    obtain ⟨kk, hkk, hg, rfl, hJ⟩ := hrel
    have HJ := Lib.hid hJ
    clear hJ
    by_cases hlt : kk < n
    · obtain ⟨b, off, rfl, hb, y1, y2, y3⟩ := (HR.out kk wr HJ.out).elem hlt
      have hcall := Lib.hid (HP.out wr kk hlt HJ.out)
      go_wp2_with (go_at_fn g; refine hcall.out.mono ?_; rintro e w' ⟨rfl, hj'⟩)
      go_roundg (n - (kk + 1))
      case measure => omega
      case rel => exact ⟨kk + 1, by omega, by omega, by go_num, hj'⟩
    · go_wp2
      go_ret
      have h := HJ.out
      rw [show kk = n by omega] at h
      exact ⟨rfl, h⟩
set_option maxHeartbeats 1000000 in
theorem contSt_any (g : Nat) (lb : Array Value) (J : Nat → World → Prop) (eg : ∀ args w, (callFunc g args).run Tryz.prog w = .ok (.enter g args) w) (A : Option Addr) (n c : Nat) (L : List Cl) (w : World) (hl : L.length = n)
    (hr : ∀ k W, J k W → Reads W W.heap.size 3 A n (cvs L)) (hn : n ≤ maxLen) (h0 : J 0 w) (hp : ∀ (W : World) (k : Nat), k < n → J k W → Calls Tryz.prog g (#[cva (gt L k)] ++ lb) W fun e w' => e = .returned (.bool false) ∧ J (k + 1) w') :
    Calls Tryz.prog 56 #[.slice A n c, .func (.func g) #[] lb] w fun e w' => e = .returned (.bool false) ∧ J n w' := by
  have H := Lib.hid (idxSt_any g lb J eg A n c L w hl hr hn h0 hp)
  clear hp hr hn eg h0
  go_enter Tryz.func56, Tryz.ntmps56
  go_wp2_with (go_at_call 99; refine H.out.mono ?_; rintro e w1 ⟨rfl, hj⟩)
  go_ret
  exact ⟨rfl, hj⟩
end Go.Proofs.YtpemohoibeipfaaGreat
