/- The walk of fix.Radius where there is an error. -/
import Derived.Test.YtienkfcliocjgaaGreatGAn
set_option linter.unusedVariables false
set_option linter.unusedSimpArgs false
namespace Go.Proofs.YtienkfcliocjgaaGreat
open Go.RowKit
set_option maxHeartbeats 1000000 in
set_option maxRecDepth 100000 in
theorem Radius_no (A : Option Addr) (n c : Nat) (L : List Cl) (p0 p1 E : Int) (w : World) (hr : Reads w w.heap.size 3 A n (cvs L)) (hn : n ≤ maxLen) (hE : (vrB L = false ∧ E = 1) ∨ (vrB L = true ∧ okP (p0, p1) = false ∧ E = 1) ∨ (vrB L = true ∧ okP (p0, p1) = true ∧ n = 0 ∧ E = 14)) :
    Calls Tryz.prog 7 #[.slice A n c, .agg #[.int .i64 p0, .int .i64 p1]] w fun e w' => e = .returned (.tuple #[.agg #[.int .i64 0, .int .i64 0], .int .i64 E]) ∧ Below w.heap.size w w' := by
  have hlen : L.length = n := hr.len
  have KB := Lib.hid (fun W (hW : Below w.heap.size w W) => boxes_any A n c L W ((hr.below hW).more hW.size) hn)
  have kp := fun W => vpt_any p0 p1 W
  rw [show vptB p0 p1 = okP (p0, p1) from rfl] at kp
  have KP := Lib.hid kp
  clear kp hr hn
  have T0 := Lib.hid ((K2.new w p0 p1 24).alloc (.cells #[.int .i64 0, .int .i64 0] 27))
  have z0 := K2.new (w.alloc (.cells #[.int .i64 p0, .int .i64 p1] 24)) 0 0 27
  rw [World.size_alloc] at z0
  have Z0 := Lib.hid z0
  clear z0
  have B0 := Lib.hid ((bl_alloc w (.cells #[.int .i64 p0, .int .i64 p1] 24)).alloc (by simp) (.cells #[.int .i64 0, .int .i64 0] 27))
  rcases hE with ⟨hv, rfl⟩ | ⟨hv, hp, rfl⟩ | ⟨hv, hp, rfl, rfl⟩
  · rw [hv] at KB
    simp only [Bool.false_eq_true, if_false] at KB
    clear T0 KP
    go_enter Tryz.func7, Tryz.ntmps7
    go_wp2_with fail
    (with_reducible refine (KB.out _ B0.out).mono ?_)
    rintro e w1 ⟨v, rfl, hown, hb1⟩
    obtain ⟨A1, c1, rfl, ra, -, -⟩ := own_form hown
    have B1 := Lib.hid (B0.out.trans (hb1.mono B0.out.size))
    obtain ⟨zt, z0, z1, zf0, zf1⟩ := Z0.out.below hb1 Z0.out.lt
    clear hown hb1 ra Z0 B0 KB
    go_wp2
    refine bodyPost_ret (v := .tuple #[.agg #[.int .i64 0, .int .i64 0], .int .i64 1]) (by simp [results, Tryz.results7, go_sem, *]; done) rfl ⟨rfl, ?_⟩
    exact (B1.out.setCell (by simp) _).setCell (by simp) _
  · rw [hv] at KB
    simp only [if_true] at KB
    rw [hp] at KP
    go_enter Tryz.func7, Tryz.ntmps7
    go_wp2_with fail
    (with_reducible refine (KB.out _ B0.out).mono ?_)
    rintro e w1 ⟨v, rfl, hown, hb1⟩
    obtain ⟨A1, c1, rfl, ra, -, -⟩ := own_form hown
    have B1 := Lib.hid (B0.out.trans (hb1.mono B0.out.size))
    obtain ⟨tt, t0, t1, -, -⟩ := T0.out.below hb1 T0.out.lt
    have Z1 := Lib.hid (Z0.out.below hb1 Z0.out.lt)
    clear hown hb1 ra Z0 B0 KB T0
    go_wp2_with fail
    (with_reducible refine (KP.out _).mono ?_)
    rintro e w2 ⟨rfl, hb2⟩
    have B2 := Lib.hid (B1.out.trans (hb2.mono B1.out.size))
    obtain ⟨zt, z0, z1, zf0, zf1⟩ := Z1.out.below hb2 Z1.out.lt
    clear t0 t1 tt hb2 Z1 B1 KP
    go_wp2
    refine bodyPost_ret (v := .tuple #[.agg #[.int .i64 0, .int .i64 0], .int .i64 1]) (by simp [results, Tryz.results7, go_sem, *]; done) rfl ⟨rfl, ?_⟩
    exact (B2.out.setCell (by simp) _).setCell (by simp) _
  · obtain rfl := List.eq_nil_of_length_eq_zero hlen
    rw [hv] at KB
    simp only [if_true, List.map_nil] at KB
    rw [hp] at KP
    go_enter Tryz.func7, Tryz.ntmps7
    go_wp2_with fail
    (with_reducible refine (KB.out _ B0.out).mono ?_)
    rintro e w1 ⟨v, rfl, hown, hb1⟩
    obtain ⟨A1, c1, rfl, ra, -, -⟩ := own_form hown
    have B1 := Lib.hid (B0.out.trans (hb1.mono B0.out.size))
    obtain ⟨tt, t0, t1, -, -⟩ := T0.out.below hb1 T0.out.lt
    have Z1 := Lib.hid (Z0.out.below hb1 Z0.out.lt)
    clear hown hb1 ra Z0 B0 KB T0
    go_wp2_with fail
    (with_reducible refine (KP.out _).mono ?_)
    rintro e w2 ⟨rfl, hb2⟩
    have B2 := Lib.hid (B1.out.trans (hb2.mono B1.out.size))
    obtain ⟨zt, z0, z1, zf0, zf1⟩ := Z1.out.below hb2 Z1.out.lt
    clear t0 t1 tt hb2 Z1 B1 KP
    go_wp2
    refine bodyPost_ret (v := .tuple #[.agg #[.int .i64 0, .int .i64 0], .int .i64 14]) (by simp [results, Tryz.results7, go_sem, *]; done) rfl ⟨rfl, ?_⟩
    exact (B2.out.setCell (by simp) _).setCell (by simp) _
end Go.Proofs.YtienkfcliocjgaaGreat
