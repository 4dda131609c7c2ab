/- Walks of the reference's before. -/
import Derived.Test.YtlglalemhfjmhaaRb
namespace Go.Proofs.Ytlglalemhfjmhaa
open Go.RowKit
/-- a number at a level of its ancestors -/
def anc (r l : Int) (k : Nat) : Int := r / 2 ^ (l.toNat - k)
/-- the first difference of the ancestors, from a level on -/
def befF (x y : Cl) : Nat → Nat → Bool
  | 0, _ => false
  | f + 1, k =>
    if anc x.2.1 x.1 k = anc y.2.1 y.1 k then
      if anc x.2.2 x.1 k = anc y.2.2 y.1 k then befF x y f (k + 1) else decide (anc x.2.2 x.1 k < anc y.2.2 y.1 k)
    else decide (anc x.2.1 x.1 k < anc y.2.1 y.1 k)
def befB (x y : Cl) : Bool := befF x y ((min x.1 y.1).toNat + 1) 0
set_option maxHeartbeats 1000000 in
set_option maxRecDepth 100000 in
theorem before_any (l r c l' r' c' : Int) (w : World) (h0 : 0 ≤ l) (h1 : l ≤ 16) (h2 : 0 ≤ l') (h3 : l' ≤ 16) :
    Calls Try.prog 59 #[.agg #[.int .i64 l, .int .i64 r, .int .i64 c], .agg #[.int .i64 l', .int .i64 r', .int .i64 c']] w fun e w' => e = .returned (.bool (befB (l, r, c) (l', r', c'))) ∧ Below w.heap.size w w' := by
  go_enter Try.func59, Try.ntmps59
  go_wp2
  go_loopw [5] (fun i wr => ∃ k q : Nat, k ≤ (min l l').toNat + 1 ∧ i = .int .i64 k ∧ befF (l, r, c) (l', r', c') ((min l l').toNat + 1 - k) k = befB (l, r, c) (l', r', c') ∧ wr = ((w.alloc (.cells #[.int .i64 l, .int .i64 r, .int .i64 c] 32)).alloc (.cells #[.int .i64 l', .int .i64 r', .int .i64 c'] 32)).drewN q) (fun i _ => 20 - (intOf i).toNat)
  case atStart => exact ⟨0, 0, Nat.zero_le _, rfl, rfl, rfl⟩
  case round =>
    obtain ⟨k, q, hk, rfl, hh, rfl⟩ := hrel
    by_cases g1 : (k : Int) ≤ l
    · by_cases g2 : (k : Int) ≤ l'
      · have hf : (min l l').toNat + 1 - k = ((min l l').toNat + 1 - (k + 1)) + 1 := by omega
        rw [hf] at hh
        unfold befF at hh
        simp only [] at hh
        have hk2 : k + 1 ≤ (min l l').toNat + 1 := by omega
        have HK := Lib.hid hk2
        clear hk hf hk2
        have s1 : IntKind.i64.wrap (l - k) = l - k := IntWalk.i64_in _ (by omega)
        have s2 : IntKind.i64.wrap (l' - k) = l' - k := IntWalk.i64_in _ (by omega)
        have p1 : 0 ≤ l - (k : Int) := by clear s1 s2; omega
        have p2 : 0 ≤ l' - (k : Int) := by clear s1 s2; omega
        have p3 : l - (k : Int) ≤ 64 := by clear s1 s2; omega
        have p4 : l' - (k : Int) ≤ 64 := by clear s1 s2; omega
        have d1 : anc r l k = r / 2 ^ (l.toNat - k) := rfl
        have d2 : anc r' l' k = r' / 2 ^ (l'.toNat - k) := rfl
        have d3 : anc c l k = c / 2 ^ (l.toNat - k) := rfl
        have d4 : anc c' l' k = c' / 2 ^ (l'.toNat - k) := rfl
        have D := Lib.hid (And.intro d1 (And.intro d2 (And.intro d3 d4)))
        clear d1 d2 d3 d4
        by_cases g3 : anc r l k = anc r' l' k
        · rw [if_pos g3] at hh
          have e3 : (r / 2 ^ (l.toNat - k) != r' / 2 ^ (l'.toNat - k)) = false := by rw [← D.out.1, ← D.out.2.1]; simp [g3]
          by_cases g4 : anc c l k = anc c' l' k
          · rw [if_pos g4] at hh
            have HH := Lib.hid hh
            clear hh
            have e4 : (c / 2 ^ (l.toNat - k) != c' / 2 ^ (l'.toNat - k)) = false := by rw [← D.out.2.2.1, ← D.out.2.2.2]; simp [g4]
            clear g3 g4
            go_wp2
            go_quiet (fail)
            go_wp2
            go_quiet (fail)
            go_wp2
            go_roundw
            case rel => exact ⟨k + 1, _, HK.out, by go_num, HH.out, rfl⟩
            case measure => clear s1 s2 p1 p2 p3 p4; simp [intOf]; omega
          · rw [if_neg g4] at hh
            have e4 : (c / 2 ^ (l.toNat - k) != c' / 2 ^ (l'.toNat - k)) = true := by rw [← D.out.2.2.1, ← D.out.2.2.2]; simp [g4]
            rw [D.out.2.2.1, D.out.2.2.2] at hh
            have HH := Lib.hid hh
            clear hh g3 g4
            go_wp2
            go_quiet (fail)
            go_wp2
            go_quiet (fail)
            go_wp2
            go_ret
            refine ⟨ret_bool HH.out, ?_⟩
            clear s1 s2
            repeat (first | exact Below.refl _ _ | assumption | refine bl_drew ?_ | refine bl_drewN ?_ _ | refine Below.setCell ?_ (by first | assumption | omega | (simp; done) | (simp; omega)) _ | refine Below.alloc ?_ (by first | assumption | omega | (simp; done) | (simp; omega)) _)
        · rw [if_neg g3] at hh
          have e3 : (r / 2 ^ (l.toNat - k) != r' / 2 ^ (l'.toNat - k)) = true := by rw [← D.out.1, ← D.out.2.1]; simp [g3]
          rw [D.out.1, D.out.2.1] at hh
          have HH := Lib.hid hh
          clear hh g3
          go_wp2
          go_quiet (fail)
          go_wp2
          go_quiet (fail)
          go_wp2
          go_ret
          refine ⟨ret_bool HH.out, ?_⟩
          clear s1 s2
          repeat (first | exact Below.refl _ _ | assumption | refine bl_drew ?_ | refine bl_drewN ?_ _ | refine Below.setCell ?_ (by first | assumption | omega | (simp; done) | (simp; omega)) _ | refine Below.alloc ?_ (by first | assumption | omega | (simp; done) | (simp; omega)) _)
      · have hf : (min l l').toNat + 1 - k = 0 := by omega
        rw [hf] at hh
        have HH := Lib.hid hh
        clear hh hf
        have d2 := decide_eq_false g2
        go_wp2
        go_ret
        refine ⟨ret_bool HH.out, ?_⟩
        repeat (first | exact Below.refl _ _ | assumption | refine bl_drew ?_ | refine bl_drewN ?_ _ | refine Below.setCell ?_ (by first | assumption | omega | (simp; done) | (simp; omega)) _ | refine Below.alloc ?_ (by first | assumption | omega | (simp; done) | (simp; omega)) _)
    · have hf : (min l l').toNat + 1 - k = 0 := by omega
      rw [hf] at hh
      have HH := Lib.hid hh
      clear hh hf
      have d2 := decide_eq_false g1
      go_wp2
      go_ret
      refine ⟨ret_bool HH.out, ?_⟩
      repeat (first | exact Below.refl _ _ | assumption | refine bl_drew ?_ | refine bl_drewN ?_ _ | refine Below.setCell ?_ (by first | assumption | omega | (simp; done) | (simp; omega)) _ | refine Below.alloc ?_ (by first | assumption | omega | (simp; done) | (simp; omega)) _)
end Go.Proofs.Ytlglalemhfjmhaa
