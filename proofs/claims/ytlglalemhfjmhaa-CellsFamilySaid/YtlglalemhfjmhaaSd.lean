/- The walks of combine's has, and of the rules. -/
import Derived.Test.YtlglalemhfjmhaaSc
namespace Go.Proofs.Ytlglalemhfjmhaa
open Go.RowKit
theorem rule_or (x y : Bool) (w : World) : Calls Try.prog 68 #[.bool x, .bool y] w fun e w' => e = .returned (.bool (x || y)) ∧ w' = w := by
  cases x with
  | true =>
    go_enter Try.func68, Try.ntmps68
    go_wp2
    go_ret
    exact ⟨rfl, rfl⟩
  | false =>
    go_enter Try.func68, Try.ntmps68
    go_wp2
    go_ret
    exact ⟨rfl, rfl⟩
theorem rule_and (x y : Bool) (w : World) : Calls Try.prog 69 #[.bool x, .bool y] w fun e w' => e = .returned (.bool (x && y)) ∧ w' = w := by
  cases x with
  | true =>
    go_enter Try.func69, Try.ntmps69
    go_wp2
    go_ret
    exact ⟨rfl, rfl⟩
  | false =>
    go_enter Try.func69, Try.ntmps69
    go_wp2
    go_ret
    exact ⟨rfl, rfl⟩
theorem rule_not (x y : Bool) (w : World) : Calls Try.prog 70 #[.bool x, .bool y] w fun e w' => e = .returned (.bool (x && !y)) ∧ w' = w := by
  cases x with
  | true =>
    go_enter Try.func70, Try.ntmps70
    go_wp2
    go_ret
    exact ⟨rfl, rfl⟩
  | false =>
    go_enter Try.func70, Try.ntmps70
    go_wp2
    go_ret
    exact ⟨rfl, rfl⟩
theorem rule_in (x y : Bool) (w : World) : Calls Try.prog 72 #[.bool x, .bool y] w fun e w' => e = .returned (.bool (x && !y)) ∧ w' = w := by
  cases x with
  | true =>
    go_enter Try.func72, Try.ntmps72
    go_wp2
    go_ret
    exact ⟨rfl, rfl⟩
  | false =>
    go_enter Try.func72, Try.ntmps72
    go_wp2
    go_ret
    exact ⟨rfl, rfl⟩
theorem sreads_tail {w : World} {B b off m : Nat} {s : Sp} {r : List Sp} (h : Reads w B 2 (some ⟨b, off, none⟩) (m + 1) (spvs (s :: r))) : Reads w B 2 (some ⟨b, off + 2, none⟩) m (spvs r) := by
  have e : spvs (s :: r) = .int .i64 s.1 :: .int .i64 s.2 :: spvs r := rfl
  obtain ⟨h1, h2⟩ := h
  rw [e] at h1 h2
  refine ⟨by simp only [List.length_cons] at h1; omega, fun _ => ?_⟩
  obtain ⟨ad, ea, hb, hc⟩ := h2 (by omega)
  cases ea
  refine ⟨_, rfl, hb, fun j u hu => ?_⟩
  have := hc (j + 2) u (by simpa using hu)
  rw [Go.WideShapes.add_plain] at this ⊢
  rw [show off + 2 + j = off + (j + 2) by omega]
  exact this
theorem grown_set {w w' : World} {g : Nat} (h : w.grownBy w' (some g)) (u : Value) : w.grownBy (w'.setCell ⟨g, 0, none⟩ u) (some g) :=
  ⟨h.os, h.tape, h.output, Nat.le_trans h.size (by simp [World.setCell]), fun i hi hne => (Below.heap_setCell w' ⟨g, 0, none⟩ u i (fun e => hne (by rw [e]))).trans (h.block i hi hne)⟩
theorem dropS_yes {e : Int} {s : Sp} {r : List Sp} (h : s.2 ≤ e) : dropS e (s :: r) = dropS e r := by simp [dropS, h]
theorem dropS_no {e : Int} {s : Sp} {r : List Sp} (h : ¬ s.2 ≤ e) : dropS e (s :: r) = s :: r := by simp [dropS, h]
set_option maxHeartbeats 1000000 in
set_option maxRecDepth 100000 in
theorem hasS_any (g B : Nat) (A : Option Addr) (n ca : Nat) (D : List Sp) (e : Int) (w : World) (hB : Blk w g 85 #[.slice A n ca]) (hr : Reads w B 2 A n (spvs D)) (hBg : B ≤ g) (hn : n ≤ ca) (hca : ca ≤ maxLen) :
    Calls Try.prog 107 #[.pointer (some ⟨g, 0, none⟩), .int .i64 e] w fun e' w' => e' = .returned (.bool (hdS e (dropS e D))) ∧ w.grownBy w' (some g) ∧
      ∃ A' n' ca', Blk w' g 85 #[.slice A' n' ca'] ∧ Reads w' B 2 A' n' (spvs (dropS e D)) ∧ n' ≤ ca' ∧ ca' ≤ ca := by
  have HB := Lib.hid hB
  have HR := Lib.hid hr
  unfold maxLen at hca
  clear hB hr
  go_enter Try.func107, Try.ntmps107
  go_wp2
  go_loopg [] n (fun gg wr => ∃ (A' : Option Addr) (n' ca' : Nat) (F : List Sp), n' ≤ gg ∧ Blk wr g 85 #[.slice A' n' ca'] ∧ Reads wr B 2 A' n' (spvs F) ∧ n' ≤ ca' ∧ ca' ≤ ca ∧ dropS e F = dropS e D ∧ w.grownBy wr (some g))
  case atStart => exact ⟨A, n, ca, D, Nat.le_refl _, HB.out, HR.out, hn, Nat.le_refl _, rfl, World.grownBy.refl _ _⟩
  case round =>
    obtain ⟨A', n', ca', F, hgg, hB', hr', hn', hca', hF, hgw⟩ := hrel
    have x0 : wr.cell? ⟨g, 0, none⟩ = some (.slice A' n' ca') := hB'.cell 0
    have x1 := hB'.frozen 0
    have HF := Lib.hid hF
    have HB' := Lib.hid hB'
    have HR' := Lib.hid hr'
    have HGW := Lib.hid hgw
    have hlF : F.length = n' := by have := hr'.1; rw [spvs_length] at this; omega
    clear hF hB' hgw
    cases F with
    | nil =>
      have h0 : n' = 0 := by simpa using hlF.symm
      subst h0
      clear hr' hlF
      have e1 : Hid (dropS e D = []) := Lib.hid (by rw [← HF.out]; rfl)
      go_wp2
      go_ret
      exact ⟨ret_bool (by rw [e1.out]; rfl), HGW.out, A', 0, ca', HB'.out, by rw [e1.out]; exact HR'.out, hn', hca'⟩
    | cons s r =>
      obtain ⟨m, rfl, hrm⟩ : ∃ m, n' = m + 1 ∧ r.length = m := ⟨r.length, by simpa using hlF.symm, rfl⟩
      have HRM := Lib.hid hrm
      clear hrm
      obtain ⟨b, off, rfl, hb, y1, y2⟩ := SReads.elem hr' (k := 0) (by omega)
      have e0 : gs (s :: r) 0 = s := rfl
      rw [e0] at y1 y2
      simp only [Nat.zero_mul, Nat.add_zero] at y1 y2
      obtain ⟨sf, st⟩ := s
      simp only [] at y1 y2
      clear e0 hr' hlF
      by_cases hst : st ≤ e
      · have hd := Lib.hid (dropS_yes (e := e) (s := (sf, st)) (r := r) hst)
        by_cases hc1 : ca' = 1
        · have hm0 : m = 0 := by omega
          have hr0 : r = [] := List.eq_nil_of_length_eq_zero (by rw [HRM.out]; exact hm0)
          subst hc1 hm0 hr0
          go_wp2
          go_roundg 0
          case measure => omega
          case rel => exact ⟨_, 0, 0, [], Nat.le_refl _, HB'.out.set_ 0 _, Reads.none_, Nat.le_refl _, by omega, by rw [← hd.out]; exact HF.out, grown_set HGW.out _⟩
        · have hc2 : 1 < ca' := by omega
          have hc3 : ¬ ca' - 1 = 0 := by omega
          clear hc1
          go_wp2
          go_roundg m
          case measure => omega
          case rel => exact ⟨_, m, ca' - 1, r, Nat.le_refl _, HB'.out.set_ 0 _, (sreads_tail HR'.out).setCell hBg _, by omega, by omega, by rw [← hd.out]; exact HF.out, grown_set HGW.out _⟩
      · have hd : Hid (dropS e D = (sf, st) :: r) := Lib.hid (by rw [← HF.out]; exact dropS_no hst)
        go_wp2
        go_ret
        exact ⟨ret_bool (by rw [hd.out]; rfl), HGW.out, _, _, _, HB'.out, by rw [hd.out]; exact HR'.out, hn', hca'⟩
end Go.Proofs.Ytlglalemhfjmhaa
