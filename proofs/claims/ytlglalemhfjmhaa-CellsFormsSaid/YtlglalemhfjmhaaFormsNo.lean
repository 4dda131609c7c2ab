/- The walk of CellsForms: the case 'no' of the cell. -/
import Derived.Test.YtlglalemhfjmhaaFormsA
import Derived.Deep.RegionHeld3
namespace Go.Proofs.Ytlglalemhfjmhaa
open Go.RowKit
set_option maxHeartbeats 4000000 in
set_option maxRecDepth 100000 in
theorem forms_no (l r c a b l' z2 z3 : Int) (w : World) (hv : vldB l r c = false) (hP : PtCase a b l' z2 z3) :
    Calls Try.prog 4 #[.agg #[.int .i64 l, .int .i64 r, .int .i64 c], .agg #[.int .i64 a, .int .i64 b], .int .i64 l'] w fun e w' => e = .returned (.bool true) ∧ Below w.heap.size w w' := by
  have A38 := awake38
  have hq1 := neqCell
  have hq2 := eqlCell
  have hq3 := neqPlace
  have hq4 := eqlPlace
  have A38 := Lib.hid A38
  have k1 : ceq (0, 0, 0) (0, 0, 0) = true := by decide
  have k2 : peq 0 0 0 0 0 0 0 0 = true := by decide
  have k5 : ceq (l', z2, z3) (l', z2, z3) = true := by simp [ceq]
  have H1 := Lib.hid (refValid_no l r c hv)
  have H2 := Lib.hid (fun w => Box_no l r c w hv)
  have H3 := Lib.hid (fun w => Parent_no l r c w hv)
  have H4 := Lib.hid (fun w => Children_no l r c w hv)
  have H5 := Lib.hid (valid_no l r c hv)
  clear hv
  go_enter Try.func4, Try.ntmps4
  have E := Env.start w
  have E := E.alloc 32 #[.int .i64 l, .int .i64 r, .int .i64 c] (w.heap.size) (by simp)
  have E := E.alloc 34 #[.int .i64 a, .int .i64 b] (w.heap.size + 1) (by simp)
  go_wp2_with fail
  (with_reducible refine (A38.out _).mono ?_)
  rintro e w1 ⟨rfl, hb⟩
  have E := E.call hb
  clear hb
  have ppL : w.heap.size + 1 < w1.heap.size := E.lt (t := 34) (cs := #[.int .i64 a, .int .i64 b]) (by simp)
  have pp0 : w1.cell? ⟨w.heap.size + 1, 0, none⟩ = some (.int .i64 a) := E.cell (t := 34) (cs := #[.int .i64 a, .int .i64 b]) (by simp) 0
  have pp1 : w1.cell? ⟨w.heap.size + 1, 1, none⟩ = some (.int .i64 b) := E.cell (t := 34) (cs := #[.int .i64 a, .int .i64 b]) (by simp) 1
  have ccL : w.heap.size < w1.heap.size := E.lt (t := 32) (cs := #[.int .i64 l, .int .i64 r, .int .i64 c]) (by simp)
  have cc0 : w1.cell? ⟨w.heap.size, 0, none⟩ = some (.int .i64 l) := E.cell (t := 32) (cs := #[.int .i64 l, .int .i64 r, .int .i64 c]) (by simp) 0
  have cc1 : w1.cell? ⟨w.heap.size, 1, none⟩ = some (.int .i64 r) := E.cell (t := 32) (cs := #[.int .i64 l, .int .i64 r, .int .i64 c]) (by simp) 1
  have cc2 : w1.cell? ⟨w.heap.size, 2, none⟩ = some (.int .i64 c) := E.cell (t := 32) (cs := #[.int .i64 l, .int .i64 r, .int .i64 c]) (by simp) 2
  go_wp2_with fail
  (with_reducible refine (H1.out _).mono ?_)
  rintro e w2 ⟨rfl, hb⟩
  have E := E.call hb
  clear hb
  clear ppL pp0 pp1 ccL cc0 cc1 cc2
  have ppL : w.heap.size + 1 < w2.heap.size := E.lt (t := 34) (cs := #[.int .i64 a, .int .i64 b]) (by simp)
  have pp0 : w2.cell? ⟨w.heap.size + 1, 0, none⟩ = some (.int .i64 a) := E.cell (t := 34) (cs := #[.int .i64 a, .int .i64 b]) (by simp) 0
  have pp1 : w2.cell? ⟨w.heap.size + 1, 1, none⟩ = some (.int .i64 b) := E.cell (t := 34) (cs := #[.int .i64 a, .int .i64 b]) (by simp) 1
  have ccL : w.heap.size < w2.heap.size := E.lt (t := 32) (cs := #[.int .i64 l, .int .i64 r, .int .i64 c]) (by simp)
  have cc0 : w2.cell? ⟨w.heap.size, 0, none⟩ = some (.int .i64 l) := E.cell (t := 32) (cs := #[.int .i64 l, .int .i64 r, .int .i64 c]) (by simp) 0
  have cc1 : w2.cell? ⟨w.heap.size, 1, none⟩ = some (.int .i64 r) := E.cell (t := 32) (cs := #[.int .i64 l, .int .i64 r, .int .i64 c]) (by simp) 1
  have cc2 : w2.cell? ⟨w.heap.size, 2, none⟩ = some (.int .i64 c) := E.cell (t := 32) (cs := #[.int .i64 l, .int .i64 r, .int .i64 c]) (by simp) 2
  go_wp2_with fail
  (with_reducible refine (H2.out _).mono ?_)
  rintro e w3 ⟨rfl, hb⟩
  have E := E.call hb
  clear hb
  clear ppL pp0 pp1 ccL cc0 cc1 cc2
  have ppL : w.heap.size + 1 < w3.heap.size := E.lt (t := 34) (cs := #[.int .i64 a, .int .i64 b]) (by simp)
  have pp0 : w3.cell? ⟨w.heap.size + 1, 0, none⟩ = some (.int .i64 a) := E.cell (t := 34) (cs := #[.int .i64 a, .int .i64 b]) (by simp) 0
  have pp1 : w3.cell? ⟨w.heap.size + 1, 1, none⟩ = some (.int .i64 b) := E.cell (t := 34) (cs := #[.int .i64 a, .int .i64 b]) (by simp) 1
  have ccL : w.heap.size < w3.heap.size := E.lt (t := 32) (cs := #[.int .i64 l, .int .i64 r, .int .i64 c]) (by simp)
  have cc0 : w3.cell? ⟨w.heap.size, 0, none⟩ = some (.int .i64 l) := E.cell (t := 32) (cs := #[.int .i64 l, .int .i64 r, .int .i64 c]) (by simp) 0
  have cc1 : w3.cell? ⟨w.heap.size, 1, none⟩ = some (.int .i64 r) := E.cell (t := 32) (cs := #[.int .i64 l, .int .i64 r, .int .i64 c]) (by simp) 1
  have cc2 : w3.cell? ⟨w.heap.size, 2, none⟩ = some (.int .i64 c) := E.cell (t := 32) (cs := #[.int .i64 l, .int .i64 r, .int .i64 c]) (by simp) 2
  have E := E.alloc 39 #[.int .i64 0, .int .i64 0, .int .i64 0, .int .i64 0] (w3.heap.size) (by simp)
  go_wp2_with fail
  (with_reducible refine (H3.out _).mono ?_)
  rintro e w4 ⟨rfl, hb⟩
  have E := E.call hb
  clear hb
  clear ppL pp0 pp1 ccL cc0 cc1 cc2
  have bbL : w3.heap.size < w4.heap.size := E.lt (t := 39) (cs := #[.int .i64 0, .int .i64 0, .int .i64 0, .int .i64 0]) (by simp)
  have bb0 : w4.cell? ⟨w3.heap.size, 0, none⟩ = some (.int .i64 0) := E.cell (t := 39) (cs := #[.int .i64 0, .int .i64 0, .int .i64 0, .int .i64 0]) (by simp) 0
  have bb1 : w4.cell? ⟨w3.heap.size, 1, none⟩ = some (.int .i64 0) := E.cell (t := 39) (cs := #[.int .i64 0, .int .i64 0, .int .i64 0, .int .i64 0]) (by simp) 1
  have bb2 : w4.cell? ⟨w3.heap.size, 2, none⟩ = some (.int .i64 0) := E.cell (t := 39) (cs := #[.int .i64 0, .int .i64 0, .int .i64 0, .int .i64 0]) (by simp) 2
  have bb3 : w4.cell? ⟨w3.heap.size, 3, none⟩ = some (.int .i64 0) := E.cell (t := 39) (cs := #[.int .i64 0, .int .i64 0, .int .i64 0, .int .i64 0]) (by simp) 3
  have ppL : w.heap.size + 1 < w4.heap.size := E.lt (t := 34) (cs := #[.int .i64 a, .int .i64 b]) (by simp)
  have pp0 : w4.cell? ⟨w.heap.size + 1, 0, none⟩ = some (.int .i64 a) := E.cell (t := 34) (cs := #[.int .i64 a, .int .i64 b]) (by simp) 0
  have pp1 : w4.cell? ⟨w.heap.size + 1, 1, none⟩ = some (.int .i64 b) := E.cell (t := 34) (cs := #[.int .i64 a, .int .i64 b]) (by simp) 1
  have ccL : w.heap.size < w4.heap.size := E.lt (t := 32) (cs := #[.int .i64 l, .int .i64 r, .int .i64 c]) (by simp)
  have cc0 : w4.cell? ⟨w.heap.size, 0, none⟩ = some (.int .i64 l) := E.cell (t := 32) (cs := #[.int .i64 l, .int .i64 r, .int .i64 c]) (by simp) 0
  have cc1 : w4.cell? ⟨w.heap.size, 1, none⟩ = some (.int .i64 r) := E.cell (t := 32) (cs := #[.int .i64 l, .int .i64 r, .int .i64 c]) (by simp) 1
  have cc2 : w4.cell? ⟨w.heap.size, 2, none⟩ = some (.int .i64 c) := E.cell (t := 32) (cs := #[.int .i64 l, .int .i64 r, .int .i64 c]) (by simp) 2
  have E := E.alloc 32 #[.int .i64 0, .int .i64 0, .int .i64 0] (w4.heap.size) (by simp)
  go_wp2_with fail
  (with_reducible refine (H4.out _).mono ?_)
  rintro e w5 ⟨v5, rfl, hown, hb⟩
  have E := E.call hb
  clear hb
  clear bbL bb0 bb1 bb2 bb3 ppL pp0 pp1 ccL cc0 cc1 cc2
  have uuL : w4.heap.size < w5.heap.size := E.lt (t := 32) (cs := #[.int .i64 0, .int .i64 0, .int .i64 0]) (by simp)
  have uu0 : w5.cell? ⟨w4.heap.size, 0, none⟩ = some (.int .i64 0) := E.cell (t := 32) (cs := #[.int .i64 0, .int .i64 0, .int .i64 0]) (by simp) 0
  have uu1 : w5.cell? ⟨w4.heap.size, 1, none⟩ = some (.int .i64 0) := E.cell (t := 32) (cs := #[.int .i64 0, .int .i64 0, .int .i64 0]) (by simp) 1
  have uu2 : w5.cell? ⟨w4.heap.size, 2, none⟩ = some (.int .i64 0) := E.cell (t := 32) (cs := #[.int .i64 0, .int .i64 0, .int .i64 0]) (by simp) 2
  have bbL : w3.heap.size < w5.heap.size := E.lt (t := 39) (cs := #[.int .i64 0, .int .i64 0, .int .i64 0, .int .i64 0]) (by simp)
  have bb0 : w5.cell? ⟨w3.heap.size, 0, none⟩ = some (.int .i64 0) := E.cell (t := 39) (cs := #[.int .i64 0, .int .i64 0, .int .i64 0, .int .i64 0]) (by simp) 0
  have bb1 : w5.cell? ⟨w3.heap.size, 1, none⟩ = some (.int .i64 0) := E.cell (t := 39) (cs := #[.int .i64 0, .int .i64 0, .int .i64 0, .int .i64 0]) (by simp) 1
  have bb2 : w5.cell? ⟨w3.heap.size, 2, none⟩ = some (.int .i64 0) := E.cell (t := 39) (cs := #[.int .i64 0, .int .i64 0, .int .i64 0, .int .i64 0]) (by simp) 2
  have bb3 : w5.cell? ⟨w3.heap.size, 3, none⟩ = some (.int .i64 0) := E.cell (t := 39) (cs := #[.int .i64 0, .int .i64 0, .int .i64 0, .int .i64 0]) (by simp) 3
  have ppL : w.heap.size + 1 < w5.heap.size := E.lt (t := 34) (cs := #[.int .i64 a, .int .i64 b]) (by simp)
  have pp0 : w5.cell? ⟨w.heap.size + 1, 0, none⟩ = some (.int .i64 a) := E.cell (t := 34) (cs := #[.int .i64 a, .int .i64 b]) (by simp) 0
  have pp1 : w5.cell? ⟨w.heap.size + 1, 1, none⟩ = some (.int .i64 b) := E.cell (t := 34) (cs := #[.int .i64 a, .int .i64 b]) (by simp) 1
  have ccL : w.heap.size < w5.heap.size := E.lt (t := 32) (cs := #[.int .i64 l, .int .i64 r, .int .i64 c]) (by simp)
  have cc0 : w5.cell? ⟨w.heap.size, 0, none⟩ = some (.int .i64 l) := E.cell (t := 32) (cs := #[.int .i64 l, .int .i64 r, .int .i64 c]) (by simp) 0
  have cc1 : w5.cell? ⟨w.heap.size, 1, none⟩ = some (.int .i64 r) := E.cell (t := 32) (cs := #[.int .i64 l, .int .i64 r, .int .i64 c]) (by simp) 1
  have cc2 : w5.cell? ⟨w.heap.size, 2, none⟩ = some (.int .i64 c) := E.cell (t := 32) (cs := #[.int .i64 l, .int .i64 r, .int .i64 c]) (by simp) 2
  obtain ⟨A5, c5, hv5, hr5, -, -⟩ := own_form hown
  subst hv5
  clear hown
  have F := Env.start w5
  rcases hP with ⟨P1, P2⟩ | ⟨P1, P2, hlr⟩ | ⟨P1, P2, P3, hlr⟩
  · skip
    go_wp2_with fail
    (with_reducible refine (P1.out _).mono ?_)
    rintro e w6 ⟨rfl, hb⟩
    have E := E.call hb
    have F := F.call hb
    clear hb
    clear uuL uu0 uu1 uu2 bbL bb0 bb1 bb2 bb3 ppL pp0 pp1 ccL cc0 cc1 cc2
    have uuL : w4.heap.size < w6.heap.size := E.lt (t := 32) (cs := #[.int .i64 0, .int .i64 0, .int .i64 0]) (by simp)
    have uu0 : w6.cell? ⟨w4.heap.size, 0, none⟩ = some (.int .i64 0) := E.cell (t := 32) (cs := #[.int .i64 0, .int .i64 0, .int .i64 0]) (by simp) 0
    have uu1 : w6.cell? ⟨w4.heap.size, 1, none⟩ = some (.int .i64 0) := E.cell (t := 32) (cs := #[.int .i64 0, .int .i64 0, .int .i64 0]) (by simp) 1
    have uu2 : w6.cell? ⟨w4.heap.size, 2, none⟩ = some (.int .i64 0) := E.cell (t := 32) (cs := #[.int .i64 0, .int .i64 0, .int .i64 0]) (by simp) 2
    have bbL : w3.heap.size < w6.heap.size := E.lt (t := 39) (cs := #[.int .i64 0, .int .i64 0, .int .i64 0, .int .i64 0]) (by simp)
    have bb0 : w6.cell? ⟨w3.heap.size, 0, none⟩ = some (.int .i64 0) := E.cell (t := 39) (cs := #[.int .i64 0, .int .i64 0, .int .i64 0, .int .i64 0]) (by simp) 0
    have bb1 : w6.cell? ⟨w3.heap.size, 1, none⟩ = some (.int .i64 0) := E.cell (t := 39) (cs := #[.int .i64 0, .int .i64 0, .int .i64 0, .int .i64 0]) (by simp) 1
    have bb2 : w6.cell? ⟨w3.heap.size, 2, none⟩ = some (.int .i64 0) := E.cell (t := 39) (cs := #[.int .i64 0, .int .i64 0, .int .i64 0, .int .i64 0]) (by simp) 2
    have bb3 : w6.cell? ⟨w3.heap.size, 3, none⟩ = some (.int .i64 0) := E.cell (t := 39) (cs := #[.int .i64 0, .int .i64 0, .int .i64 0, .int .i64 0]) (by simp) 3
    have ppL : w.heap.size + 1 < w6.heap.size := E.lt (t := 34) (cs := #[.int .i64 a, .int .i64 b]) (by simp)
    have pp0 : w6.cell? ⟨w.heap.size + 1, 0, none⟩ = some (.int .i64 a) := E.cell (t := 34) (cs := #[.int .i64 a, .int .i64 b]) (by simp) 0
    have pp1 : w6.cell? ⟨w.heap.size + 1, 1, none⟩ = some (.int .i64 b) := E.cell (t := 34) (cs := #[.int .i64 a, .int .i64 b]) (by simp) 1
    have ccL : w.heap.size < w6.heap.size := E.lt (t := 32) (cs := #[.int .i64 l, .int .i64 r, .int .i64 c]) (by simp)
    have cc0 : w6.cell? ⟨w.heap.size, 0, none⟩ = some (.int .i64 l) := E.cell (t := 32) (cs := #[.int .i64 l, .int .i64 r, .int .i64 c]) (by simp) 0
    have cc1 : w6.cell? ⟨w.heap.size, 1, none⟩ = some (.int .i64 r) := E.cell (t := 32) (cs := #[.int .i64 l, .int .i64 r, .int .i64 c]) (by simp) 1
    have cc2 : w6.cell? ⟨w.heap.size, 2, none⟩ = some (.int .i64 c) := E.cell (t := 32) (cs := #[.int .i64 l, .int .i64 r, .int .i64 c]) (by simp) 2
    have E := E.alloc 32 #[.int .i64 0, .int .i64 0, .int .i64 0] (w6.heap.size) (by simp)
    have F := F.alloc 32 #[.int .i64 0, .int .i64 0, .int .i64 0] (w6.heap.size) rfl
    go_wp2_with fail
    (with_reducible refine (H5.out _).mono ?_)
    rintro e w7 ⟨rfl, hb⟩
    have E := E.call hb
    have F := F.call hb
    clear hb
    clear uuL uu0 uu1 uu2 bbL bb0 bb1 bb2 bb3 ppL pp0 pp1 ccL cc0 cc1 cc2
    have ooL : w6.heap.size < w7.heap.size := E.lt (t := 32) (cs := #[.int .i64 0, .int .i64 0, .int .i64 0]) (by simp)
    have oo0 : w7.cell? ⟨w6.heap.size, 0, none⟩ = some (.int .i64 0) := E.cell (t := 32) (cs := #[.int .i64 0, .int .i64 0, .int .i64 0]) (by simp) 0
    have oo1 : w7.cell? ⟨w6.heap.size, 1, none⟩ = some (.int .i64 0) := E.cell (t := 32) (cs := #[.int .i64 0, .int .i64 0, .int .i64 0]) (by simp) 1
    have oo2 : w7.cell? ⟨w6.heap.size, 2, none⟩ = some (.int .i64 0) := E.cell (t := 32) (cs := #[.int .i64 0, .int .i64 0, .int .i64 0]) (by simp) 2
    have uuL : w4.heap.size < w7.heap.size := E.lt (t := 32) (cs := #[.int .i64 0, .int .i64 0, .int .i64 0]) (by simp)
    have uu0 : w7.cell? ⟨w4.heap.size, 0, none⟩ = some (.int .i64 0) := E.cell (t := 32) (cs := #[.int .i64 0, .int .i64 0, .int .i64 0]) (by simp) 0
    have uu1 : w7.cell? ⟨w4.heap.size, 1, none⟩ = some (.int .i64 0) := E.cell (t := 32) (cs := #[.int .i64 0, .int .i64 0, .int .i64 0]) (by simp) 1
    have uu2 : w7.cell? ⟨w4.heap.size, 2, none⟩ = some (.int .i64 0) := E.cell (t := 32) (cs := #[.int .i64 0, .int .i64 0, .int .i64 0]) (by simp) 2
    have bbL : w3.heap.size < w7.heap.size := E.lt (t := 39) (cs := #[.int .i64 0, .int .i64 0, .int .i64 0, .int .i64 0]) (by simp)
    have bb0 : w7.cell? ⟨w3.heap.size, 0, none⟩ = some (.int .i64 0) := E.cell (t := 39) (cs := #[.int .i64 0, .int .i64 0, .int .i64 0, .int .i64 0]) (by simp) 0
    have bb1 : w7.cell? ⟨w3.heap.size, 1, none⟩ = some (.int .i64 0) := E.cell (t := 39) (cs := #[.int .i64 0, .int .i64 0, .int .i64 0, .int .i64 0]) (by simp) 1
    have bb2 : w7.cell? ⟨w3.heap.size, 2, none⟩ = some (.int .i64 0) := E.cell (t := 39) (cs := #[.int .i64 0, .int .i64 0, .int .i64 0, .int .i64 0]) (by simp) 2
    have bb3 : w7.cell? ⟨w3.heap.size, 3, none⟩ = some (.int .i64 0) := E.cell (t := 39) (cs := #[.int .i64 0, .int .i64 0, .int .i64 0, .int .i64 0]) (by simp) 3
    have ppL : w.heap.size + 1 < w7.heap.size := E.lt (t := 34) (cs := #[.int .i64 a, .int .i64 b]) (by simp)
    have pp0 : w7.cell? ⟨w.heap.size + 1, 0, none⟩ = some (.int .i64 a) := E.cell (t := 34) (cs := #[.int .i64 a, .int .i64 b]) (by simp) 0
    have pp1 : w7.cell? ⟨w.heap.size + 1, 1, none⟩ = some (.int .i64 b) := E.cell (t := 34) (cs := #[.int .i64 a, .int .i64 b]) (by simp) 1
    have ccL : w.heap.size < w7.heap.size := E.lt (t := 32) (cs := #[.int .i64 l, .int .i64 r, .int .i64 c]) (by simp)
    have cc0 : w7.cell? ⟨w.heap.size, 0, none⟩ = some (.int .i64 l) := E.cell (t := 32) (cs := #[.int .i64 l, .int .i64 r, .int .i64 c]) (by simp) 0
    have cc1 : w7.cell? ⟨w.heap.size, 1, none⟩ = some (.int .i64 r) := E.cell (t := 32) (cs := #[.int .i64 l, .int .i64 r, .int .i64 c]) (by simp) 1
    have cc2 : w7.cell? ⟨w.heap.size, 2, none⟩ = some (.int .i64 c) := E.cell (t := 32) (cs := #[.int .i64 l, .int .i64 r, .int .i64 c]) (by simp) 2
    go_wp2_with fail
    (with_reducible refine (P2.out _).mono ?_)
    rintro e w8 ⟨rfl, hb⟩
    have E := E.call hb
    have F := F.call hb
    clear hb
    clear ooL oo0 oo1 oo2 uuL uu0 uu1 uu2 bbL bb0 bb1 bb2 bb3 ppL pp0 pp1 ccL cc0 cc1 cc2
    have ooL : w6.heap.size < w8.heap.size := E.lt (t := 32) (cs := #[.int .i64 0, .int .i64 0, .int .i64 0]) (by simp)
    have oo0 : w8.cell? ⟨w6.heap.size, 0, none⟩ = some (.int .i64 0) := E.cell (t := 32) (cs := #[.int .i64 0, .int .i64 0, .int .i64 0]) (by simp) 0
    have oo1 : w8.cell? ⟨w6.heap.size, 1, none⟩ = some (.int .i64 0) := E.cell (t := 32) (cs := #[.int .i64 0, .int .i64 0, .int .i64 0]) (by simp) 1
    have oo2 : w8.cell? ⟨w6.heap.size, 2, none⟩ = some (.int .i64 0) := E.cell (t := 32) (cs := #[.int .i64 0, .int .i64 0, .int .i64 0]) (by simp) 2
    have uuL : w4.heap.size < w8.heap.size := E.lt (t := 32) (cs := #[.int .i64 0, .int .i64 0, .int .i64 0]) (by simp)
    have uu0 : w8.cell? ⟨w4.heap.size, 0, none⟩ = some (.int .i64 0) := E.cell (t := 32) (cs := #[.int .i64 0, .int .i64 0, .int .i64 0]) (by simp) 0
    have uu1 : w8.cell? ⟨w4.heap.size, 1, none⟩ = some (.int .i64 0) := E.cell (t := 32) (cs := #[.int .i64 0, .int .i64 0, .int .i64 0]) (by simp) 1
    have uu2 : w8.cell? ⟨w4.heap.size, 2, none⟩ = some (.int .i64 0) := E.cell (t := 32) (cs := #[.int .i64 0, .int .i64 0, .int .i64 0]) (by simp) 2
    have bbL : w3.heap.size < w8.heap.size := E.lt (t := 39) (cs := #[.int .i64 0, .int .i64 0, .int .i64 0, .int .i64 0]) (by simp)
    have bb0 : w8.cell? ⟨w3.heap.size, 0, none⟩ = some (.int .i64 0) := E.cell (t := 39) (cs := #[.int .i64 0, .int .i64 0, .int .i64 0, .int .i64 0]) (by simp) 0
    have bb1 : w8.cell? ⟨w3.heap.size, 1, none⟩ = some (.int .i64 0) := E.cell (t := 39) (cs := #[.int .i64 0, .int .i64 0, .int .i64 0, .int .i64 0]) (by simp) 1
    have bb2 : w8.cell? ⟨w3.heap.size, 2, none⟩ = some (.int .i64 0) := E.cell (t := 39) (cs := #[.int .i64 0, .int .i64 0, .int .i64 0, .int .i64 0]) (by simp) 2
    have bb3 : w8.cell? ⟨w3.heap.size, 3, none⟩ = some (.int .i64 0) := E.cell (t := 39) (cs := #[.int .i64 0, .int .i64 0, .int .i64 0, .int .i64 0]) (by simp) 3
    have ppL : w.heap.size + 1 < w8.heap.size := E.lt (t := 34) (cs := #[.int .i64 a, .int .i64 b]) (by simp)
    have pp0 : w8.cell? ⟨w.heap.size + 1, 0, none⟩ = some (.int .i64 a) := E.cell (t := 34) (cs := #[.int .i64 a, .int .i64 b]) (by simp) 0
    have pp1 : w8.cell? ⟨w.heap.size + 1, 1, none⟩ = some (.int .i64 b) := E.cell (t := 34) (cs := #[.int .i64 a, .int .i64 b]) (by simp) 1
    have ccL : w.heap.size < w8.heap.size := E.lt (t := 32) (cs := #[.int .i64 l, .int .i64 r, .int .i64 c]) (by simp)
    have cc0 : w8.cell? ⟨w.heap.size, 0, none⟩ = some (.int .i64 l) := E.cell (t := 32) (cs := #[.int .i64 l, .int .i64 r, .int .i64 c]) (by simp) 0
    have cc1 : w8.cell? ⟨w.heap.size, 1, none⟩ = some (.int .i64 r) := E.cell (t := 32) (cs := #[.int .i64 l, .int .i64 r, .int .i64 c]) (by simp) 1
    have cc2 : w8.cell? ⟨w.heap.size, 2, none⟩ = some (.int .i64 c) := E.cell (t := 32) (cs := #[.int .i64 l, .int .i64 r, .int .i64 c]) (by simp) 2
    go_wp2
    go_ret
    exact ⟨ret_bool (by simp_all), E.1⟩
  · skip
    go_wp2_with fail
    (with_reducible refine (P1.out _).mono ?_)
    rintro e w6 ⟨rfl, hb⟩
    have E := E.call hb
    have F := F.call hb
    clear hb
    clear uuL uu0 uu1 uu2 bbL bb0 bb1 bb2 bb3 ppL pp0 pp1 ccL cc0 cc1 cc2
    have uuL : w4.heap.size < w6.heap.size := E.lt (t := 32) (cs := #[.int .i64 0, .int .i64 0, .int .i64 0]) (by simp)
    have uu0 : w6.cell? ⟨w4.heap.size, 0, none⟩ = some (.int .i64 0) := E.cell (t := 32) (cs := #[.int .i64 0, .int .i64 0, .int .i64 0]) (by simp) 0
    have uu1 : w6.cell? ⟨w4.heap.size, 1, none⟩ = some (.int .i64 0) := E.cell (t := 32) (cs := #[.int .i64 0, .int .i64 0, .int .i64 0]) (by simp) 1
    have uu2 : w6.cell? ⟨w4.heap.size, 2, none⟩ = some (.int .i64 0) := E.cell (t := 32) (cs := #[.int .i64 0, .int .i64 0, .int .i64 0]) (by simp) 2
    have bbL : w3.heap.size < w6.heap.size := E.lt (t := 39) (cs := #[.int .i64 0, .int .i64 0, .int .i64 0, .int .i64 0]) (by simp)
    have bb0 : w6.cell? ⟨w3.heap.size, 0, none⟩ = some (.int .i64 0) := E.cell (t := 39) (cs := #[.int .i64 0, .int .i64 0, .int .i64 0, .int .i64 0]) (by simp) 0
    have bb1 : w6.cell? ⟨w3.heap.size, 1, none⟩ = some (.int .i64 0) := E.cell (t := 39) (cs := #[.int .i64 0, .int .i64 0, .int .i64 0, .int .i64 0]) (by simp) 1
    have bb2 : w6.cell? ⟨w3.heap.size, 2, none⟩ = some (.int .i64 0) := E.cell (t := 39) (cs := #[.int .i64 0, .int .i64 0, .int .i64 0, .int .i64 0]) (by simp) 2
    have bb3 : w6.cell? ⟨w3.heap.size, 3, none⟩ = some (.int .i64 0) := E.cell (t := 39) (cs := #[.int .i64 0, .int .i64 0, .int .i64 0, .int .i64 0]) (by simp) 3
    have ppL : w.heap.size + 1 < w6.heap.size := E.lt (t := 34) (cs := #[.int .i64 a, .int .i64 b]) (by simp)
    have pp0 : w6.cell? ⟨w.heap.size + 1, 0, none⟩ = some (.int .i64 a) := E.cell (t := 34) (cs := #[.int .i64 a, .int .i64 b]) (by simp) 0
    have pp1 : w6.cell? ⟨w.heap.size + 1, 1, none⟩ = some (.int .i64 b) := E.cell (t := 34) (cs := #[.int .i64 a, .int .i64 b]) (by simp) 1
    have ccL : w.heap.size < w6.heap.size := E.lt (t := 32) (cs := #[.int .i64 l, .int .i64 r, .int .i64 c]) (by simp)
    have cc0 : w6.cell? ⟨w.heap.size, 0, none⟩ = some (.int .i64 l) := E.cell (t := 32) (cs := #[.int .i64 l, .int .i64 r, .int .i64 c]) (by simp) 0
    have cc1 : w6.cell? ⟨w.heap.size, 1, none⟩ = some (.int .i64 r) := E.cell (t := 32) (cs := #[.int .i64 l, .int .i64 r, .int .i64 c]) (by simp) 1
    have cc2 : w6.cell? ⟨w.heap.size, 2, none⟩ = some (.int .i64 c) := E.cell (t := 32) (cs := #[.int .i64 l, .int .i64 r, .int .i64 c]) (by simp) 2
    have E := E.alloc 32 #[.int .i64 0, .int .i64 0, .int .i64 0] (w6.heap.size) (by simp)
    have F := F.alloc 32 #[.int .i64 0, .int .i64 0, .int .i64 0] (w6.heap.size) rfl
    go_wp2_with fail
    (with_reducible refine (H5.out _).mono ?_)
    rintro e w7 ⟨rfl, hb⟩
    have E := E.call hb
    have F := F.call hb
    clear hb
    clear uuL uu0 uu1 uu2 bbL bb0 bb1 bb2 bb3 ppL pp0 pp1 ccL cc0 cc1 cc2
    have ooL : w6.heap.size < w7.heap.size := E.lt (t := 32) (cs := #[.int .i64 0, .int .i64 0, .int .i64 0]) (by simp)
    have oo0 : w7.cell? ⟨w6.heap.size, 0, none⟩ = some (.int .i64 0) := E.cell (t := 32) (cs := #[.int .i64 0, .int .i64 0, .int .i64 0]) (by simp) 0
    have oo1 : w7.cell? ⟨w6.heap.size, 1, none⟩ = some (.int .i64 0) := E.cell (t := 32) (cs := #[.int .i64 0, .int .i64 0, .int .i64 0]) (by simp) 1
    have oo2 : w7.cell? ⟨w6.heap.size, 2, none⟩ = some (.int .i64 0) := E.cell (t := 32) (cs := #[.int .i64 0, .int .i64 0, .int .i64 0]) (by simp) 2
    have uuL : w4.heap.size < w7.heap.size := E.lt (t := 32) (cs := #[.int .i64 0, .int .i64 0, .int .i64 0]) (by simp)
    have uu0 : w7.cell? ⟨w4.heap.size, 0, none⟩ = some (.int .i64 0) := E.cell (t := 32) (cs := #[.int .i64 0, .int .i64 0, .int .i64 0]) (by simp) 0
    have uu1 : w7.cell? ⟨w4.heap.size, 1, none⟩ = some (.int .i64 0) := E.cell (t := 32) (cs := #[.int .i64 0, .int .i64 0, .int .i64 0]) (by simp) 1
    have uu2 : w7.cell? ⟨w4.heap.size, 2, none⟩ = some (.int .i64 0) := E.cell (t := 32) (cs := #[.int .i64 0, .int .i64 0, .int .i64 0]) (by simp) 2
    have bbL : w3.heap.size < w7.heap.size := E.lt (t := 39) (cs := #[.int .i64 0, .int .i64 0, .int .i64 0, .int .i64 0]) (by simp)
    have bb0 : w7.cell? ⟨w3.heap.size, 0, none⟩ = some (.int .i64 0) := E.cell (t := 39) (cs := #[.int .i64 0, .int .i64 0, .int .i64 0, .int .i64 0]) (by simp) 0
    have bb1 : w7.cell? ⟨w3.heap.size, 1, none⟩ = some (.int .i64 0) := E.cell (t := 39) (cs := #[.int .i64 0, .int .i64 0, .int .i64 0, .int .i64 0]) (by simp) 1
    have bb2 : w7.cell? ⟨w3.heap.size, 2, none⟩ = some (.int .i64 0) := E.cell (t := 39) (cs := #[.int .i64 0, .int .i64 0, .int .i64 0, .int .i64 0]) (by simp) 2
    have bb3 : w7.cell? ⟨w3.heap.size, 3, none⟩ = some (.int .i64 0) := E.cell (t := 39) (cs := #[.int .i64 0, .int .i64 0, .int .i64 0, .int .i64 0]) (by simp) 3
    have ppL : w.heap.size + 1 < w7.heap.size := E.lt (t := 34) (cs := #[.int .i64 a, .int .i64 b]) (by simp)
    have pp0 : w7.cell? ⟨w.heap.size + 1, 0, none⟩ = some (.int .i64 a) := E.cell (t := 34) (cs := #[.int .i64 a, .int .i64 b]) (by simp) 0
    have pp1 : w7.cell? ⟨w.heap.size + 1, 1, none⟩ = some (.int .i64 b) := E.cell (t := 34) (cs := #[.int .i64 a, .int .i64 b]) (by simp) 1
    have ccL : w.heap.size < w7.heap.size := E.lt (t := 32) (cs := #[.int .i64 l, .int .i64 r, .int .i64 c]) (by simp)
    have cc0 : w7.cell? ⟨w.heap.size, 0, none⟩ = some (.int .i64 l) := E.cell (t := 32) (cs := #[.int .i64 l, .int .i64 r, .int .i64 c]) (by simp) 0
    have cc1 : w7.cell? ⟨w.heap.size, 1, none⟩ = some (.int .i64 r) := E.cell (t := 32) (cs := #[.int .i64 l, .int .i64 r, .int .i64 c]) (by simp) 1
    have cc2 : w7.cell? ⟨w.heap.size, 2, none⟩ = some (.int .i64 c) := E.cell (t := 32) (cs := #[.int .i64 l, .int .i64 r, .int .i64 c]) (by simp) 2
    go_wp2_with fail
    (with_reducible refine (P2.out _).mono ?_)
    rintro e w8 ⟨rfl, hb⟩
    have E := E.call hb
    have F := F.call hb
    clear hb
    clear ooL oo0 oo1 oo2 uuL uu0 uu1 uu2 bbL bb0 bb1 bb2 bb3 ppL pp0 pp1 ccL cc0 cc1 cc2
    have ooL : w6.heap.size < w8.heap.size := E.lt (t := 32) (cs := #[.int .i64 0, .int .i64 0, .int .i64 0]) (by simp)
    have oo0 : w8.cell? ⟨w6.heap.size, 0, none⟩ = some (.int .i64 0) := E.cell (t := 32) (cs := #[.int .i64 0, .int .i64 0, .int .i64 0]) (by simp) 0
    have oo1 : w8.cell? ⟨w6.heap.size, 1, none⟩ = some (.int .i64 0) := E.cell (t := 32) (cs := #[.int .i64 0, .int .i64 0, .int .i64 0]) (by simp) 1
    have oo2 : w8.cell? ⟨w6.heap.size, 2, none⟩ = some (.int .i64 0) := E.cell (t := 32) (cs := #[.int .i64 0, .int .i64 0, .int .i64 0]) (by simp) 2
    have uuL : w4.heap.size < w8.heap.size := E.lt (t := 32) (cs := #[.int .i64 0, .int .i64 0, .int .i64 0]) (by simp)
    have uu0 : w8.cell? ⟨w4.heap.size, 0, none⟩ = some (.int .i64 0) := E.cell (t := 32) (cs := #[.int .i64 0, .int .i64 0, .int .i64 0]) (by simp) 0
    have uu1 : w8.cell? ⟨w4.heap.size, 1, none⟩ = some (.int .i64 0) := E.cell (t := 32) (cs := #[.int .i64 0, .int .i64 0, .int .i64 0]) (by simp) 1
    have uu2 : w8.cell? ⟨w4.heap.size, 2, none⟩ = some (.int .i64 0) := E.cell (t := 32) (cs := #[.int .i64 0, .int .i64 0, .int .i64 0]) (by simp) 2
    have bbL : w3.heap.size < w8.heap.size := E.lt (t := 39) (cs := #[.int .i64 0, .int .i64 0, .int .i64 0, .int .i64 0]) (by simp)
    have bb0 : w8.cell? ⟨w3.heap.size, 0, none⟩ = some (.int .i64 0) := E.cell (t := 39) (cs := #[.int .i64 0, .int .i64 0, .int .i64 0, .int .i64 0]) (by simp) 0
    have bb1 : w8.cell? ⟨w3.heap.size, 1, none⟩ = some (.int .i64 0) := E.cell (t := 39) (cs := #[.int .i64 0, .int .i64 0, .int .i64 0, .int .i64 0]) (by simp) 1
    have bb2 : w8.cell? ⟨w3.heap.size, 2, none⟩ = some (.int .i64 0) := E.cell (t := 39) (cs := #[.int .i64 0, .int .i64 0, .int .i64 0, .int .i64 0]) (by simp) 2
    have bb3 : w8.cell? ⟨w3.heap.size, 3, none⟩ = some (.int .i64 0) := E.cell (t := 39) (cs := #[.int .i64 0, .int .i64 0, .int .i64 0, .int .i64 0]) (by simp) 3
    have ppL : w.heap.size + 1 < w8.heap.size := E.lt (t := 34) (cs := #[.int .i64 a, .int .i64 b]) (by simp)
    have pp0 : w8.cell? ⟨w.heap.size + 1, 0, none⟩ = some (.int .i64 a) := E.cell (t := 34) (cs := #[.int .i64 a, .int .i64 b]) (by simp) 0
    have pp1 : w8.cell? ⟨w.heap.size + 1, 1, none⟩ = some (.int .i64 b) := E.cell (t := 34) (cs := #[.int .i64 a, .int .i64 b]) (by simp) 1
    have ccL : w.heap.size < w8.heap.size := E.lt (t := 32) (cs := #[.int .i64 l, .int .i64 r, .int .i64 c]) (by simp)
    have cc0 : w8.cell? ⟨w.heap.size, 0, none⟩ = some (.int .i64 l) := E.cell (t := 32) (cs := #[.int .i64 l, .int .i64 r, .int .i64 c]) (by simp) 0
    have cc1 : w8.cell? ⟨w.heap.size, 1, none⟩ = some (.int .i64 r) := E.cell (t := 32) (cs := #[.int .i64 l, .int .i64 r, .int .i64 c]) (by simp) 1
    have cc2 : w8.cell? ⟨w.heap.size, 2, none⟩ = some (.int .i64 c) := E.cell (t := 32) (cs := #[.int .i64 l, .int .i64 r, .int .i64 c]) (by simp) 2
    rcases hlr with hlr | hlr
    all_goals
      go_wp2
      go_ret
      exact ⟨ret_bool (by simp_all), E.1⟩
  · skip
    go_wp2_with fail
    (with_reducible refine (P1.out _).mono ?_)
    rintro e w6 ⟨rfl, hb⟩
    have E := E.call hb
    have F := F.call hb
    clear hb
    clear uuL uu0 uu1 uu2 bbL bb0 bb1 bb2 bb3 ppL pp0 pp1 ccL cc0 cc1 cc2
    have uuL : w4.heap.size < w6.heap.size := E.lt (t := 32) (cs := #[.int .i64 0, .int .i64 0, .int .i64 0]) (by simp)
    have uu0 : w6.cell? ⟨w4.heap.size, 0, none⟩ = some (.int .i64 0) := E.cell (t := 32) (cs := #[.int .i64 0, .int .i64 0, .int .i64 0]) (by simp) 0
    have uu1 : w6.cell? ⟨w4.heap.size, 1, none⟩ = some (.int .i64 0) := E.cell (t := 32) (cs := #[.int .i64 0, .int .i64 0, .int .i64 0]) (by simp) 1
    have uu2 : w6.cell? ⟨w4.heap.size, 2, none⟩ = some (.int .i64 0) := E.cell (t := 32) (cs := #[.int .i64 0, .int .i64 0, .int .i64 0]) (by simp) 2
    have bbL : w3.heap.size < w6.heap.size := E.lt (t := 39) (cs := #[.int .i64 0, .int .i64 0, .int .i64 0, .int .i64 0]) (by simp)
    have bb0 : w6.cell? ⟨w3.heap.size, 0, none⟩ = some (.int .i64 0) := E.cell (t := 39) (cs := #[.int .i64 0, .int .i64 0, .int .i64 0, .int .i64 0]) (by simp) 0
    have bb1 : w6.cell? ⟨w3.heap.size, 1, none⟩ = some (.int .i64 0) := E.cell (t := 39) (cs := #[.int .i64 0, .int .i64 0, .int .i64 0, .int .i64 0]) (by simp) 1
    have bb2 : w6.cell? ⟨w3.heap.size, 2, none⟩ = some (.int .i64 0) := E.cell (t := 39) (cs := #[.int .i64 0, .int .i64 0, .int .i64 0, .int .i64 0]) (by simp) 2
    have bb3 : w6.cell? ⟨w3.heap.size, 3, none⟩ = some (.int .i64 0) := E.cell (t := 39) (cs := #[.int .i64 0, .int .i64 0, .int .i64 0, .int .i64 0]) (by simp) 3
    have ppL : w.heap.size + 1 < w6.heap.size := E.lt (t := 34) (cs := #[.int .i64 a, .int .i64 b]) (by simp)
    have pp0 : w6.cell? ⟨w.heap.size + 1, 0, none⟩ = some (.int .i64 a) := E.cell (t := 34) (cs := #[.int .i64 a, .int .i64 b]) (by simp) 0
    have pp1 : w6.cell? ⟨w.heap.size + 1, 1, none⟩ = some (.int .i64 b) := E.cell (t := 34) (cs := #[.int .i64 a, .int .i64 b]) (by simp) 1
    have ccL : w.heap.size < w6.heap.size := E.lt (t := 32) (cs := #[.int .i64 l, .int .i64 r, .int .i64 c]) (by simp)
    have cc0 : w6.cell? ⟨w.heap.size, 0, none⟩ = some (.int .i64 l) := E.cell (t := 32) (cs := #[.int .i64 l, .int .i64 r, .int .i64 c]) (by simp) 0
    have cc1 : w6.cell? ⟨w.heap.size, 1, none⟩ = some (.int .i64 r) := E.cell (t := 32) (cs := #[.int .i64 l, .int .i64 r, .int .i64 c]) (by simp) 1
    have cc2 : w6.cell? ⟨w.heap.size, 2, none⟩ = some (.int .i64 c) := E.cell (t := 32) (cs := #[.int .i64 l, .int .i64 r, .int .i64 c]) (by simp) 2
    have E := E.alloc 32 #[.int .i64 (l'), .int .i64 z2, .int .i64 z3] (w6.heap.size) (by simp)
    have F := F.alloc 32 #[.int .i64 (l'), .int .i64 z2, .int .i64 z3] (w6.heap.size) rfl
    go_wp2_with fail
    (with_reducible refine (H5.out _).mono ?_)
    rintro e w7 ⟨rfl, hb⟩
    have E := E.call hb
    have F := F.call hb
    clear hb
    clear uuL uu0 uu1 uu2 bbL bb0 bb1 bb2 bb3 ppL pp0 pp1 ccL cc0 cc1 cc2
    have ooL : w6.heap.size < w7.heap.size := E.lt (t := 32) (cs := #[.int .i64 (l'), .int .i64 z2, .int .i64 z3]) (by simp)
    have oo0 : w7.cell? ⟨w6.heap.size, 0, none⟩ = some (.int .i64 (l')) := E.cell (t := 32) (cs := #[.int .i64 (l'), .int .i64 z2, .int .i64 z3]) (by simp) 0
    have oo1 : w7.cell? ⟨w6.heap.size, 1, none⟩ = some (.int .i64 z2) := E.cell (t := 32) (cs := #[.int .i64 (l'), .int .i64 z2, .int .i64 z3]) (by simp) 1
    have oo2 : w7.cell? ⟨w6.heap.size, 2, none⟩ = some (.int .i64 z3) := E.cell (t := 32) (cs := #[.int .i64 (l'), .int .i64 z2, .int .i64 z3]) (by simp) 2
    have uuL : w4.heap.size < w7.heap.size := E.lt (t := 32) (cs := #[.int .i64 0, .int .i64 0, .int .i64 0]) (by simp)
    have uu0 : w7.cell? ⟨w4.heap.size, 0, none⟩ = some (.int .i64 0) := E.cell (t := 32) (cs := #[.int .i64 0, .int .i64 0, .int .i64 0]) (by simp) 0
    have uu1 : w7.cell? ⟨w4.heap.size, 1, none⟩ = some (.int .i64 0) := E.cell (t := 32) (cs := #[.int .i64 0, .int .i64 0, .int .i64 0]) (by simp) 1
    have uu2 : w7.cell? ⟨w4.heap.size, 2, none⟩ = some (.int .i64 0) := E.cell (t := 32) (cs := #[.int .i64 0, .int .i64 0, .int .i64 0]) (by simp) 2
    have bbL : w3.heap.size < w7.heap.size := E.lt (t := 39) (cs := #[.int .i64 0, .int .i64 0, .int .i64 0, .int .i64 0]) (by simp)
    have bb0 : w7.cell? ⟨w3.heap.size, 0, none⟩ = some (.int .i64 0) := E.cell (t := 39) (cs := #[.int .i64 0, .int .i64 0, .int .i64 0, .int .i64 0]) (by simp) 0
    have bb1 : w7.cell? ⟨w3.heap.size, 1, none⟩ = some (.int .i64 0) := E.cell (t := 39) (cs := #[.int .i64 0, .int .i64 0, .int .i64 0, .int .i64 0]) (by simp) 1
    have bb2 : w7.cell? ⟨w3.heap.size, 2, none⟩ = some (.int .i64 0) := E.cell (t := 39) (cs := #[.int .i64 0, .int .i64 0, .int .i64 0, .int .i64 0]) (by simp) 2
    have bb3 : w7.cell? ⟨w3.heap.size, 3, none⟩ = some (.int .i64 0) := E.cell (t := 39) (cs := #[.int .i64 0, .int .i64 0, .int .i64 0, .int .i64 0]) (by simp) 3
    have ppL : w.heap.size + 1 < w7.heap.size := E.lt (t := 34) (cs := #[.int .i64 a, .int .i64 b]) (by simp)
    have pp0 : w7.cell? ⟨w.heap.size + 1, 0, none⟩ = some (.int .i64 a) := E.cell (t := 34) (cs := #[.int .i64 a, .int .i64 b]) (by simp) 0
    have pp1 : w7.cell? ⟨w.heap.size + 1, 1, none⟩ = some (.int .i64 b) := E.cell (t := 34) (cs := #[.int .i64 a, .int .i64 b]) (by simp) 1
    have ccL : w.heap.size < w7.heap.size := E.lt (t := 32) (cs := #[.int .i64 l, .int .i64 r, .int .i64 c]) (by simp)
    have cc0 : w7.cell? ⟨w.heap.size, 0, none⟩ = some (.int .i64 l) := E.cell (t := 32) (cs := #[.int .i64 l, .int .i64 r, .int .i64 c]) (by simp) 0
    have cc1 : w7.cell? ⟨w.heap.size, 1, none⟩ = some (.int .i64 r) := E.cell (t := 32) (cs := #[.int .i64 l, .int .i64 r, .int .i64 c]) (by simp) 1
    have cc2 : w7.cell? ⟨w.heap.size, 2, none⟩ = some (.int .i64 c) := E.cell (t := 32) (cs := #[.int .i64 l, .int .i64 r, .int .i64 c]) (by simp) 2
    go_wp2_with fail
    (with_reducible refine (P2.out _).mono ?_)
    rintro e w8 ⟨rfl, hb⟩
    have E := E.call hb
    have F := F.call hb
    clear hb
    clear ooL oo0 oo1 oo2 uuL uu0 uu1 uu2 bbL bb0 bb1 bb2 bb3 ppL pp0 pp1 ccL cc0 cc1 cc2
    have ooL : w6.heap.size < w8.heap.size := E.lt (t := 32) (cs := #[.int .i64 (l'), .int .i64 z2, .int .i64 z3]) (by simp)
    have oo0 : w8.cell? ⟨w6.heap.size, 0, none⟩ = some (.int .i64 (l')) := E.cell (t := 32) (cs := #[.int .i64 (l'), .int .i64 z2, .int .i64 z3]) (by simp) 0
    have oo1 : w8.cell? ⟨w6.heap.size, 1, none⟩ = some (.int .i64 z2) := E.cell (t := 32) (cs := #[.int .i64 (l'), .int .i64 z2, .int .i64 z3]) (by simp) 1
    have oo2 : w8.cell? ⟨w6.heap.size, 2, none⟩ = some (.int .i64 z3) := E.cell (t := 32) (cs := #[.int .i64 (l'), .int .i64 z2, .int .i64 z3]) (by simp) 2
    have uuL : w4.heap.size < w8.heap.size := E.lt (t := 32) (cs := #[.int .i64 0, .int .i64 0, .int .i64 0]) (by simp)
    have uu0 : w8.cell? ⟨w4.heap.size, 0, none⟩ = some (.int .i64 0) := E.cell (t := 32) (cs := #[.int .i64 0, .int .i64 0, .int .i64 0]) (by simp) 0
    have uu1 : w8.cell? ⟨w4.heap.size, 1, none⟩ = some (.int .i64 0) := E.cell (t := 32) (cs := #[.int .i64 0, .int .i64 0, .int .i64 0]) (by simp) 1
    have uu2 : w8.cell? ⟨w4.heap.size, 2, none⟩ = some (.int .i64 0) := E.cell (t := 32) (cs := #[.int .i64 0, .int .i64 0, .int .i64 0]) (by simp) 2
    have bbL : w3.heap.size < w8.heap.size := E.lt (t := 39) (cs := #[.int .i64 0, .int .i64 0, .int .i64 0, .int .i64 0]) (by simp)
    have bb0 : w8.cell? ⟨w3.heap.size, 0, none⟩ = some (.int .i64 0) := E.cell (t := 39) (cs := #[.int .i64 0, .int .i64 0, .int .i64 0, .int .i64 0]) (by simp) 0
    have bb1 : w8.cell? ⟨w3.heap.size, 1, none⟩ = some (.int .i64 0) := E.cell (t := 39) (cs := #[.int .i64 0, .int .i64 0, .int .i64 0, .int .i64 0]) (by simp) 1
    have bb2 : w8.cell? ⟨w3.heap.size, 2, none⟩ = some (.int .i64 0) := E.cell (t := 39) (cs := #[.int .i64 0, .int .i64 0, .int .i64 0, .int .i64 0]) (by simp) 2
    have bb3 : w8.cell? ⟨w3.heap.size, 3, none⟩ = some (.int .i64 0) := E.cell (t := 39) (cs := #[.int .i64 0, .int .i64 0, .int .i64 0, .int .i64 0]) (by simp) 3
    have ppL : w.heap.size + 1 < w8.heap.size := E.lt (t := 34) (cs := #[.int .i64 a, .int .i64 b]) (by simp)
    have pp0 : w8.cell? ⟨w.heap.size + 1, 0, none⟩ = some (.int .i64 a) := E.cell (t := 34) (cs := #[.int .i64 a, .int .i64 b]) (by simp) 0
    have pp1 : w8.cell? ⟨w.heap.size + 1, 1, none⟩ = some (.int .i64 b) := E.cell (t := 34) (cs := #[.int .i64 a, .int .i64 b]) (by simp) 1
    have ccL : w.heap.size < w8.heap.size := E.lt (t := 32) (cs := #[.int .i64 l, .int .i64 r, .int .i64 c]) (by simp)
    have cc0 : w8.cell? ⟨w.heap.size, 0, none⟩ = some (.int .i64 l) := E.cell (t := 32) (cs := #[.int .i64 l, .int .i64 r, .int .i64 c]) (by simp) 0
    have cc1 : w8.cell? ⟨w.heap.size, 1, none⟩ = some (.int .i64 r) := E.cell (t := 32) (cs := #[.int .i64 l, .int .i64 r, .int .i64 c]) (by simp) 1
    have cc2 : w8.cell? ⟨w.heap.size, 2, none⟩ = some (.int .i64 c) := E.cell (t := 32) (cs := #[.int .i64 l, .int .i64 r, .int .i64 c]) (by simp) 2
    go_wp2
    go_region_held3 (fun w' => w'.cell? ⟨w6.heap.size, 0, none⟩ = some (.int .i64 (l')) ∧ w'.cell? ⟨w6.heap.size, 1, none⟩ = some (.int .i64 z2) ∧ w'.cell? ⟨w6.heap.size, 2, none⟩ = some (.int .i64 z3) ∧ w'.cell? ⟨w.heap.size + 1, 0, none⟩ = some (.int .i64 a) ∧ w'.cell? ⟨w.heap.size + 1, 1, none⟩ = some (.int .i64 b)) (first | exact ⟨oo0, oo1, oo2, pp0, pp1⟩ | exact ⟨soo0, soo1, soo2, spp0, spp1⟩) (first | (go_at_call 26; refine (P3.out _).mono ?_; rintro e w9 ⟨rfl, hb⟩; have soo0 := (hb.cell (p := ⟨w6.heap.size, 0, none⟩) ooL).trans oo0; have soo1 := (hb.cell (p := ⟨w6.heap.size, 1, none⟩) ooL).trans oo1; have soo2 := (hb.cell (p := ⟨w6.heap.size, 2, none⟩) ooL).trans oo2; have spp0 := (hb.cell (p := ⟨w.heap.size + 1, 0, none⟩) ppL).trans pp0; have spp1 := (hb.cell (p := ⟨w.heap.size + 1, 1, none⟩) ppL).trans pp1))
    have E := (E.drew).call hb
    have F := (F.drew).call hb
    clear hb
    clear soo0 soo1 soo2 spp0 spp1
    clear ooL oo0 oo1 oo2 uuL uu0 uu1 uu2 bbL bb0 bb1 bb2 bb3 ppL pp0 pp1 ccL cc0 cc1 cc2
    have ooL : w6.heap.size < w9.heap.size := E.lt (t := 32) (cs := #[.int .i64 (l'), .int .i64 z2, .int .i64 z3]) (by simp)
    have oo0 : w9.cell? ⟨w6.heap.size, 0, none⟩ = some (.int .i64 (l')) := E.cell (t := 32) (cs := #[.int .i64 (l'), .int .i64 z2, .int .i64 z3]) (by simp) 0
    have oo1 : w9.cell? ⟨w6.heap.size, 1, none⟩ = some (.int .i64 z2) := E.cell (t := 32) (cs := #[.int .i64 (l'), .int .i64 z2, .int .i64 z3]) (by simp) 1
    have oo2 : w9.cell? ⟨w6.heap.size, 2, none⟩ = some (.int .i64 z3) := E.cell (t := 32) (cs := #[.int .i64 (l'), .int .i64 z2, .int .i64 z3]) (by simp) 2
    have uuL : w4.heap.size < w9.heap.size := E.lt (t := 32) (cs := #[.int .i64 0, .int .i64 0, .int .i64 0]) (by simp)
    have uu0 : w9.cell? ⟨w4.heap.size, 0, none⟩ = some (.int .i64 0) := E.cell (t := 32) (cs := #[.int .i64 0, .int .i64 0, .int .i64 0]) (by simp) 0
    have uu1 : w9.cell? ⟨w4.heap.size, 1, none⟩ = some (.int .i64 0) := E.cell (t := 32) (cs := #[.int .i64 0, .int .i64 0, .int .i64 0]) (by simp) 1
    have uu2 : w9.cell? ⟨w4.heap.size, 2, none⟩ = some (.int .i64 0) := E.cell (t := 32) (cs := #[.int .i64 0, .int .i64 0, .int .i64 0]) (by simp) 2
    have bbL : w3.heap.size < w9.heap.size := E.lt (t := 39) (cs := #[.int .i64 0, .int .i64 0, .int .i64 0, .int .i64 0]) (by simp)
    have bb0 : w9.cell? ⟨w3.heap.size, 0, none⟩ = some (.int .i64 0) := E.cell (t := 39) (cs := #[.int .i64 0, .int .i64 0, .int .i64 0, .int .i64 0]) (by simp) 0
    have bb1 : w9.cell? ⟨w3.heap.size, 1, none⟩ = some (.int .i64 0) := E.cell (t := 39) (cs := #[.int .i64 0, .int .i64 0, .int .i64 0, .int .i64 0]) (by simp) 1
    have bb2 : w9.cell? ⟨w3.heap.size, 2, none⟩ = some (.int .i64 0) := E.cell (t := 39) (cs := #[.int .i64 0, .int .i64 0, .int .i64 0, .int .i64 0]) (by simp) 2
    have bb3 : w9.cell? ⟨w3.heap.size, 3, none⟩ = some (.int .i64 0) := E.cell (t := 39) (cs := #[.int .i64 0, .int .i64 0, .int .i64 0, .int .i64 0]) (by simp) 3
    have ppL : w.heap.size + 1 < w9.heap.size := E.lt (t := 34) (cs := #[.int .i64 a, .int .i64 b]) (by simp)
    have pp0 : w9.cell? ⟨w.heap.size + 1, 0, none⟩ = some (.int .i64 a) := E.cell (t := 34) (cs := #[.int .i64 a, .int .i64 b]) (by simp) 0
    have pp1 : w9.cell? ⟨w.heap.size + 1, 1, none⟩ = some (.int .i64 b) := E.cell (t := 34) (cs := #[.int .i64 a, .int .i64 b]) (by simp) 1
    have ccL : w.heap.size < w9.heap.size := E.lt (t := 32) (cs := #[.int .i64 l, .int .i64 r, .int .i64 c]) (by simp)
    have cc0 : w9.cell? ⟨w.heap.size, 0, none⟩ = some (.int .i64 l) := E.cell (t := 32) (cs := #[.int .i64 l, .int .i64 r, .int .i64 c]) (by simp) 0
    have cc1 : w9.cell? ⟨w.heap.size, 1, none⟩ = some (.int .i64 r) := E.cell (t := 32) (cs := #[.int .i64 l, .int .i64 r, .int .i64 c]) (by simp) 1
    have cc2 : w9.cell? ⟨w.heap.size, 2, none⟩ = some (.int .i64 c) := E.cell (t := 32) (cs := #[.int .i64 l, .int .i64 r, .int .i64 c]) (by simp) 2
    go_wp2
    go_ret
    exact ⟨ret_bool (by simp_all), E.1⟩
end Go.Proofs.Ytlglalemhfjmhaa
