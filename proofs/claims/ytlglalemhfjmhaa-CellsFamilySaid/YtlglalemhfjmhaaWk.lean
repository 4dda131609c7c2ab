/- Walks of invalid, slices.IndexFunc and slices.ContainsFunc at cells. -/
import Derived.Test.YtlglalemhfjmhaaWj
import Derived.Shelf.Abstract
namespace Go.Proofs.Ytlglalemhfjmhaa
open Go.RowKit
def IdxPost (w : World) (b : Bool) (e : Ending) (w' : World) : Prop := ∃ k : Int, e = .returned (.int .i64 k) ∧ decide (0 ≤ k) = b ∧ Below w.heap.size w w'
set_option maxHeartbeats 400000 in
theorem invalid_any (x : Cl) (w : World) : Calls Try.prog 55 #[cva x] w fun e w' => e = .returned (.bool (!(vldB x.1 x.2.1 x.2.2))) ∧ Below w.heap.size w w' := by
  obtain ⟨l, r, c⟩ := x
  have V := Lib.hid (fun w => valid_any l r c w)
  generalize vldB l r c = b at V ⊢
  go_enter Try.func55, Try.ntmps55
  go_wp2_with (go_at_call 24; refine (V.out _).mono ?_; rintro e w1 ⟨rfl, hb⟩)
  go_ret
  exact ⟨rfl, one_bl hb⟩
theorem any_take_succ (L : List Cl) (p : Cl → Bool) (k : Nat) (hk : k < L.length) (h : (L.take k).any p = false) (hp : p (gt L k) = false) : (L.take (k + 1)).any p = false := by
  rw [List.take_succ_eq_append_getElem hk, List.any_append, h]
  simp [gt, hk] at hp
  simp [hp]
theorem any_of_gt (L : List Cl) (p : Cl → Bool) (k : Nat) (hk : k < L.length) (hp : p (gt L k) = true) : L.any p = true := by
  rw [List.any_eq_true]
  simp [gt, hk] at hp
  exact ⟨L[k], List.getElem_mem hk, hp⟩

set_option maxHeartbeats 1000000 in
set_option maxRecDepth 100000 in
theorem idxFunc_any (g : Nat) (lb : Array Value) (p : Cl → Bool) (eg : ∀ args w, (callFunc g args).run Try.prog w = .ok (.enter g args) w) (A : Option Addr) (n c : Nat) (L : List Cl) (w : World)
    (hr : Reads w w.heap.size 3 A n (cvs L)) (hn : n ≤ maxLen) (hp : ∀ (W : World) (x : Cl), Below w.heap.size w W → Calls Try.prog g (#[cva x] ++ lb) W fun e w' => e = .returned (.bool (p x)) ∧ Below W.heap.size W w') :
    Calls Try.prog 92 #[.slice A n c, .func (.func g) #[] lb] w (IdxPost w (L.any p)) := by
  have HL := Lib.hid hr.len
  have HR := Lib.hid hr
  have HP := Lib.hid hp
  clear hr hp
  unfold maxLen at hn
  go_enter Try.func92, Try.ntmps92
  go_wp2
  go_loopg [8] n (fun gg s8 wr => ∃ kk : Nat, kk ≤ n ∧ n - kk ≤ gg ∧ s8 = .int .i64 kk ∧ Below w.heap.size w wr ∧ (L.take kk).any p = false)
  case atStart => exact ⟨0, Nat.zero_le _, by omega, rfl, Below.refl _ w, rfl⟩
  case round =>
    obtain ⟨kk, hkk, hg, rfl, BW, HA⟩ := hrel
    have HA := Lib.hid HA
    by_cases hlt : kk < n
    · obtain ⟨b, off, rfl, hb, x1, x2, x3⟩ := HR.out.elem hlt
      have y1 := (BW.cell (p := ⟨b, off + kk * 3, none⟩) hb).trans x1
      have y2 := (BW.cell (p := ⟨b, off + kk * 3 + 1, none⟩) hb).trans x2
      have y3 := (BW.cell (p := ⟨b, off + kk * 3 + 2, none⟩) hb).trans x3
      clear x1 x2 x3
      have hcall := HP.out wr (gt L kk) BW
      have h1 := Lib.hid (any_take_succ L p kk (by rw [HL.out]; exact hlt) HA.out)
      have h2 := Lib.hid (any_of_gt L p kk (by rw [HL.out]; exact hlt))
      cases hq : p (gt L kk) with
      | true =>
        have h3 := Lib.hid (h2.out hq)
        rw [hq] at hcall
        have hcall := Lib.hid hcall
        clear hq h1 h2
        go_wp2_with (go_at_fn g; refine hcall.out.mono ?_; rintro e w' ⟨rfl, hb'⟩)
        go_ret
        exact ⟨kk, rfl, by rw [h3.out]; simp, BW.trans (hb'.mono BW.size)⟩
      | false =>
        have h3 := Lib.hid (h1.out hq)
        rw [hq] at hcall
        have hcall := Lib.hid hcall
        clear hq h1 h2
        go_wp2_with (go_at_fn g; refine hcall.out.mono ?_; rintro e w' ⟨rfl, hb'⟩)
        go_roundg (n - (kk + 1))
        case measure => omega
        case rel => exact ⟨kk + 1, by omega, by omega, by go_num, BW.trans (hb'.mono BW.size), h3.out⟩
    · go_wp2
      go_ret
      have h := HA.out
      rw [List.take_of_length_le (by rw [HL.out]; omega)] at h
      exact ⟨-1, rfl, by rw [h]; rfl, BW⟩

set_option maxHeartbeats 1000000 in
theorem contFunc_any (g : Nat) (lb : Array Value) (p : Cl → Bool) (eg : ∀ args w, (callFunc g args).run Try.prog w = .ok (.enter g args) w) (A : Option Addr) (n c : Nat) (L : List Cl) (w : World)
    (hr : Reads w w.heap.size 3 A n (cvs L)) (hn : n ≤ maxLen) (hp : ∀ (W : World) (x : Cl), Below w.heap.size w W → Calls Try.prog g (#[cva x] ++ lb) W fun e w' => e = .returned (.bool (p x)) ∧ Below W.heap.size W w') :
    Calls Try.prog 52 #[.slice A n c, .func (.func g) #[] lb] w fun e w' => e = .returned (.bool (L.any p)) ∧ Below w.heap.size w w' := by
  have H := Lib.hid (idxFunc_any g lb p eg A n c L w hr hn hp)
  clear hp hr hn eg
  go_enter Try.func52, Try.ntmps52
  go_wp2_with (go_at_call 92; refine H.out.mono ?_; rintro e w1 ⟨k, rfl, hk, hb⟩; have HK := Lib.hid hk; clear hk)
  go_ret
  exact ⟨ret_bool HK.out, hb⟩
theorem allValid_any (A : Option Addr) (n c : Nat) (L : List Cl) (w : World) (hr : Reads w w.heap.size 3 A n (cvs L)) (hn : n ≤ maxLen) :
    Calls Try.prog 52 #[.slice A n c, .func (.func 55) #[] #[]] w fun e w' => e = .returned (.bool (L.any fun x => !(vldB x.1 x.2.1 x.2.2))) ∧ Below w.heap.size w w' :=
  contFunc_any _ _ _ (enters_of Try.func55 (by kernel_rfl) rfl) A n c L w hr hn fun W x _ => invalid_any x W
end Go.Proofs.Ytlglalemhfjmhaa
