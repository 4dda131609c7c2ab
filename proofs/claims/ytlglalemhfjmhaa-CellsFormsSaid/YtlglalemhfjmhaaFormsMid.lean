/- The walk of CellsForms: the case 'mid' of the cell. -/
import Derived.Test.YtlglalemhfjmhaaFormsA
import Derived.Deep.RegionHeld3
namespace Go.Proofs.Ytlglalemhfjmhaa
open Go.RowKit
set_option maxHeartbeats 4000000 in
set_option maxRecDepth 100000 in
theorem forms_mid (l r c a b l' z2 z3 : Int) (w : World) (hv : vldB l r c = true) (hl : (l == 0) = false) (hl2 : (l == 16) = false) (hP : PtCase a b l' z2 z3) :
    Calls Try.prog 4 #[.agg #[.int .i64 l, .int .i64 r, .int .i64 c], .agg #[.int .i64 a, .int .i64 b], .int .i64 l'] w fun e w' => e = .returned (.bool true) ∧ Below w.heap.size w w' := by
  have A38 := awake38
  have hq1 := neqCell
  have hq2 := eqlCell
  have hq3 := neqPlace
  have hq4 := eqlPlace
  have A38 := Lib.hid A38
  have k1 : ceq (0, 0, 0) (0, 0, 0) = true := by decide
  have k2 : peq 0 0 0 0 0 0 0 0 = true := by decide
  have k5 : ceq (l', z2, z3) (l', z2, z3) = true := by simp [ceq]
  have H1 := Lib.hid (refValid_yes l r c hv)
  have H2 := Lib.hid (fun w => Box_yes l r c w hv)
  have H5 := Lib.hid (valid_yes l r c hv)
  have H6 := Lib.hid (fun w => refBox_any l r c w hv)
  have H3 := Lib.hid (fun w => Parent_yes l r c w hv hl)
  have H4 := Lib.hid (fun w => Children_yes l r c w hv hl2)
  obtain ⟨h0, h1, h2, h3, h4, h5⟩ := vldB_true.1 hv
  have hp := pw_bd h1
  have r1 : r ≤ 131072 := by omega
  have c1 : c ≤ 131072 := by omega
  have h0' : 1 ≤ l := by simp at hl; omega
  have H7 := Lib.hid (fun w => refParent_any l r c w h0' h1 h2 r1 h4 c1)
  have H8 := Lib.hid (fun w => refChildren_any l r c w h0 h1 h2 r1 h4 c1)
  clear hp h3 h5 r1 c1 h2 h4 h1 h0 h0'
  unfold boxV at H2 H6
  generalize edg r l - 5400000 = x1 at H2 H6
  generalize edg (r + 1) l - 5400000 = x2 at H2 H6
  generalize edg c l - 10800000 = x3 at H2 H6
  generalize edg (c + 1) l - 10800000 = x4 at H2 H6
  have k3 : peq x1 x2 x3 x4 x1 x2 x3 x4 = true := by simp [peq]
  generalize l - 1 = y1 at H3 H7
  generalize r / 2 = y2 at H3 H7
  generalize c / 2 = y3 at H3 H7
  have k4 : ceq (y1, y2, y3) (y1, y2, y3) = true := by simp [ceq]
  clear hv
  go_enter Try.func4, Try.ntmps4
  have E := Env.start w
  have E := E.alloc 32 #[.int .i64 l, .int .i64 r, .int .i64 c] (w.heap.size) (by simp)
  have E := E.alloc 34 #[.int .i64 a, .int .i64 b] (w.heap.size + 1) (by simp)
  go_wp2_with fail
  (with_reducible refine (A38.out _).mono ?_)
  rintro e w1 ⟨rfl, hb⟩
  have E := E.call hb
  clear hb
  have ppL : w.heap.size + 1 < w1.heap.size := E.lt (t := 34) (cs := #[.int .i64 a, .int .i64 b]) (by simp)
  have pp0 : w1.cell? ⟨w.heap.size + 1, 0, none⟩ = some (.int .i64 a) := E.cell (t := 34) (cs := #[.int .i64 a, .int .i64 b]) (by simp) 0
  have pp1 : w1.cell? ⟨w.heap.size + 1, 1, none⟩ = some (.int .i64 b) := E.cell (t := 34) (cs := #[.int .i64 a, .int .i64 b]) (by simp) 1
  have ccL : w.heap.size < w1.heap.size := E.lt (t := 32) (cs := #[.int .i64 l, .int .i64 r, .int .i64 c]) (by simp)
  have cc0 : w1.cell? ⟨w.heap.size, 0, none⟩ = some (.int .i64 l) := E.cell (t := 32) (cs := #[.int .i64 l, .int .i64 r, .int .i64 c]) (by simp) 0
  have cc1 : w1.cell? ⟨w.heap.size, 1, none⟩ = some (.int .i64 r) := E.cell (t := 32) (cs := #[.int .i64 l, .int .i64 r, .int .i64 c]) (by simp) 1
  have cc2 : w1.cell? ⟨w.heap.size, 2, none⟩ = some (.int .i64 c) := E.cell (t := 32) (cs := #[.int .i64 l, .int .i64 r, .int .i64 c]) (by simp) 2
  go_wp2_with fail
  (with_reducible refine (H1.out _).mono ?_)
  rintro e w2 ⟨rfl, hb⟩
  have E := E.call hb
  clear hb
  clear ppL pp0 pp1 ccL cc0 cc1 cc2
  have ppL : w.heap.size + 1 < w2.heap.size := E.lt (t := 34) (cs := #[.int .i64 a, .int .i64 b]) (by simp)
  have pp0 : w2.cell? ⟨w.heap.size + 1, 0, none⟩ = some (.int .i64 a) := E.cell (t := 34) (cs := #[.int .i64 a, .int .i64 b]) (by simp) 0
  have pp1 : w2.cell? ⟨w.heap.size + 1, 1, none⟩ = some (.int .i64 b) := E.cell (t := 34) (cs := #[.int .i64 a, .int .i64 b]) (by simp) 1
  have ccL : w.heap.size < w2.heap.size := E.lt (t := 32) (cs := #[.int .i64 l, .int .i64 r, .int .i64 c]) (by simp)
  have cc0 : w2.cell? ⟨w.heap.size, 0, none⟩ = some (.int .i64 l) := E.cell (t := 32) (cs := #[.int .i64 l, .int .i64 r, .int .i64 c]) (by simp) 0
  have cc1 : w2.cell? ⟨w.heap.size, 1, none⟩ = some (.int .i64 r) := E.cell (t := 32) (cs := #[.int .i64 l, .int .i64 r, .int .i64 c]) (by simp) 1
  have cc2 : w2.cell? ⟨w.heap.size, 2, none⟩ = some (.int .i64 c) := E.cell (t := 32) (cs := #[.int .i64 l, .int .i64 r, .int .i64 c]) (by simp) 2
  go_wp2_with fail
  (with_reducible refine (H2.out _).mono ?_)
  rintro e w3 ⟨rfl, hb⟩
  have E := E.call hb
  clear hb
  clear ppL pp0 pp1 ccL cc0 cc1 cc2
  have ppL : w.heap.size + 1 < w3.heap.size := E.lt (t := 34) (cs := #[.int .i64 a, .int .i64 b]) (by simp)
  have pp0 : w3.cell? ⟨w.heap.size + 1, 0, none⟩ = some (.int .i64 a) := E.cell (t := 34) (cs := #[.int .i64 a, .int .i64 b]) (by simp) 0
  have pp1 : w3.cell? ⟨w.heap.size + 1, 1, none⟩ = some (.int .i64 b) := E.cell (t := 34) (cs := #[.int .i64 a, .int .i64 b]) (by simp) 1
  have ccL : w.heap.size < w3.heap.size := E.lt (t := 32) (cs := #[.int .i64 l, .int .i64 r, .int .i64 c]) (by simp)
  have cc0 : w3.cell? ⟨w.heap.size, 0, none⟩ = some (.int .i64 l) := E.cell (t := 32) (cs := #[.int .i64 l, .int .i64 r, .int .i64 c]) (by simp) 0
  have cc1 : w3.cell? ⟨w.heap.size, 1, none⟩ = some (.int .i64 r) := E.cell (t := 32) (cs := #[.int .i64 l, .int .i64 r, .int .i64 c]) (by simp) 1
  have cc2 : w3.cell? ⟨w.heap.size, 2, none⟩ = some (.int .i64 c) := E.cell (t := 32) (cs := #[.int .i64 l, .int .i64 r, .int .i64 c]) (by simp) 2
  have E := E.alloc 39 #[.int .i64 x1, .int .i64 x2, .int .i64 x3, .int .i64 x4] (w3.heap.size) (by simp)
  go_wp2_with fail
  (with_reducible refine (H3.out _).mono ?_)
  rintro e w4 ⟨rfl, hb⟩
  have E := E.call hb
  clear hb
  clear ppL pp0 pp1 ccL cc0 cc1 cc2
  have bbL : w3.heap.size < w4.heap.size := E.lt (t := 39) (cs := #[.int .i64 x1, .int .i64 x2, .int .i64 x3, .int .i64 x4]) (by simp)
  have bb0 : w4.cell? ⟨w3.heap.size, 0, none⟩ = some (.int .i64 x1) := E.cell (t := 39) (cs := #[.int .i64 x1, .int .i64 x2, .int .i64 x3, .int .i64 x4]) (by simp) 0
  have bb1 : w4.cell? ⟨w3.heap.size, 1, none⟩ = some (.int .i64 x2) := E.cell (t := 39) (cs := #[.int .i64 x1, .int .i64 x2, .int .i64 x3, .int .i64 x4]) (by simp) 1
  have bb2 : w4.cell? ⟨w3.heap.size, 2, none⟩ = some (.int .i64 x3) := E.cell (t := 39) (cs := #[.int .i64 x1, .int .i64 x2, .int .i64 x3, .int .i64 x4]) (by simp) 2
  have bb3 : w4.cell? ⟨w3.heap.size, 3, none⟩ = some (.int .i64 x4) := E.cell (t := 39) (cs := #[.int .i64 x1, .int .i64 x2, .int .i64 x3, .int .i64 x4]) (by simp) 3
  have ppL : w.heap.size + 1 < w4.heap.size := E.lt (t := 34) (cs := #[.int .i64 a, .int .i64 b]) (by simp)
  have pp0 : w4.cell? ⟨w.heap.size + 1, 0, none⟩ = some (.int .i64 a) := E.cell (t := 34) (cs := #[.int .i64 a, .int .i64 b]) (by simp) 0
  have pp1 : w4.cell? ⟨w.heap.size + 1, 1, none⟩ = some (.int .i64 b) := E.cell (t := 34) (cs := #[.int .i64 a, .int .i64 b]) (by simp) 1
  have ccL : w.heap.size < w4.heap.size := E.lt (t := 32) (cs := #[.int .i64 l, .int .i64 r, .int .i64 c]) (by simp)
  have cc0 : w4.cell? ⟨w.heap.size, 0, none⟩ = some (.int .i64 l) := E.cell (t := 32) (cs := #[.int .i64 l, .int .i64 r, .int .i64 c]) (by simp) 0
  have cc1 : w4.cell? ⟨w.heap.size, 1, none⟩ = some (.int .i64 r) := E.cell (t := 32) (cs := #[.int .i64 l, .int .i64 r, .int .i64 c]) (by simp) 1
  have cc2 : w4.cell? ⟨w.heap.size, 2, none⟩ = some (.int .i64 c) := E.cell (t := 32) (cs := #[.int .i64 l, .int .i64 r, .int .i64 c]) (by simp) 2
  have E := E.alloc 32 #[.int .i64 y1, .int .i64 y2, .int .i64 y3] (w4.heap.size) (by simp)
  go_wp2_with fail
  (with_reducible refine (H4.out _).mono ?_)
  rintro e w5 ⟨v5, rfl, hown, hb⟩
  have E := E.call hb
  clear hb
  clear bbL bb0 bb1 bb2 bb3 ppL pp0 pp1 ccL cc0 cc1 cc2
  have uuL : w4.heap.size < w5.heap.size := E.lt (t := 32) (cs := #[.int .i64 y1, .int .i64 y2, .int .i64 y3]) (by simp)
  have uu0 : w5.cell? ⟨w4.heap.size, 0, none⟩ = some (.int .i64 y1) := E.cell (t := 32) (cs := #[.int .i64 y1, .int .i64 y2, .int .i64 y3]) (by simp) 0
  have uu1 : w5.cell? ⟨w4.heap.size, 1, none⟩ = some (.int .i64 y2) := E.cell (t := 32) (cs := #[.int .i64 y1, .int .i64 y2, .int .i64 y3]) (by simp) 1
  have uu2 : w5.cell? ⟨w4.heap.size, 2, none⟩ = some (.int .i64 y3) := E.cell (t := 32) (cs := #[.int .i64 y1, .int .i64 y2, .int .i64 y3]) (by simp) 2
  have bbL : w3.heap.size < w5.heap.size := E.lt (t := 39) (cs := #[.int .i64 x1, .int .i64 x2, .int .i64 x3, .int .i64 x4]) (by simp)
  have bb0 : w5.cell? ⟨w3.heap.size, 0, none⟩ = some (.int .i64 x1) := E.cell (t := 39) (cs := #[.int .i64 x1, .int .i64 x2, .int .i64 x3, .int .i64 x4]) (by simp) 0
  have bb1 : w5.cell? ⟨w3.heap.size, 1, none⟩ = some (.int .i64 x2) := E.cell (t := 39) (cs := #[.int .i64 x1, .int .i64 x2, .int .i64 x3, .int .i64 x4]) (by simp) 1
  have bb2 : w5.cell? ⟨w3.heap.size, 2, none⟩ = some (.int .i64 x3) := E.cell (t := 39) (cs := #[.int .i64 x1, .int .i64 x2, .int .i64 x3, .int .i64 x4]) (by simp) 2
  have bb3 : w5.cell? ⟨w3.heap.size, 3, none⟩ = some (.int .i64 x4) := E.cell (t := 39) (cs := #[.int .i64 x1, .int .i64 x2, .int .i64 x3, .int .i64 x4]) (by simp) 3
  have ppL : w.heap.size + 1 < w5.heap.size := E.lt (t := 34) (cs := #[.int .i64 a, .int .i64 b]) (by simp)
  have pp0 : w5.cell? ⟨w.heap.size + 1, 0, none⟩ = some (.int .i64 a) := E.cell (t := 34) (cs := #[.int .i64 a, .int .i64 b]) (by simp) 0
  have pp1 : w5.cell? ⟨w.heap.size + 1, 1, none⟩ = some (.int .i64 b) := E.cell (t := 34) (cs := #[.int .i64 a, .int .i64 b]) (by simp) 1
  have ccL : w.heap.size < w5.heap.size := E.lt (t := 32) (cs := #[.int .i64 l, .int .i64 r, .int .i64 c]) (by simp)
  have cc0 : w5.cell? ⟨w.heap.size, 0, none⟩ = some (.int .i64 l) := E.cell (t := 32) (cs := #[.int .i64 l, .int .i64 r, .int .i64 c]) (by simp) 0
  have cc1 : w5.cell? ⟨w.heap.size, 1, none⟩ = some (.int .i64 r) := E.cell (t := 32) (cs := #[.int .i64 l, .int .i64 r, .int .i64 c]) (by simp) 1
  have cc2 : w5.cell? ⟨w.heap.size, 2, none⟩ = some (.int .i64 c) := E.cell (t := 32) (cs := #[.int .i64 l, .int .i64 r, .int .i64 c]) (by simp) 2
  obtain ⟨A5, c5, hv5, hr5, -, -⟩ := own_form hown
  subst hv5
  clear hown
  have F := Env.start w5
  rcases hP with ⟨P1, P2⟩ | ⟨P1, P2, hlr⟩ | ⟨P1, P2, P3, hlr⟩
  · skip
    go_wp2_with fail
    (with_reducible refine (P1.out _).mono ?_)
    rintro e w6 ⟨rfl, hb⟩
    have E := E.call hb
    have F := F.call hb
    clear hb
    clear uuL uu0 uu1 uu2 bbL bb0 bb1 bb2 bb3 ppL pp0 pp1 ccL cc0 cc1 cc2
    have uuL : w4.heap.size < w6.heap.size := E.lt (t := 32) (cs := #[.int .i64 y1, .int .i64 y2, .int .i64 y3]) (by simp)
    have uu0 : w6.cell? ⟨w4.heap.size, 0, none⟩ = some (.int .i64 y1) := E.cell (t := 32) (cs := #[.int .i64 y1, .int .i64 y2, .int .i64 y3]) (by simp) 0
    have uu1 : w6.cell? ⟨w4.heap.size, 1, none⟩ = some (.int .i64 y2) := E.cell (t := 32) (cs := #[.int .i64 y1, .int .i64 y2, .int .i64 y3]) (by simp) 1
    have uu2 : w6.cell? ⟨w4.heap.size, 2, none⟩ = some (.int .i64 y3) := E.cell (t := 32) (cs := #[.int .i64 y1, .int .i64 y2, .int .i64 y3]) (by simp) 2
    have bbL : w3.heap.size < w6.heap.size := E.lt (t := 39) (cs := #[.int .i64 x1, .int .i64 x2, .int .i64 x3, .int .i64 x4]) (by simp)
    have bb0 : w6.cell? ⟨w3.heap.size, 0, none⟩ = some (.int .i64 x1) := E.cell (t := 39) (cs := #[.int .i64 x1, .int .i64 x2, .int .i64 x3, .int .i64 x4]) (by simp) 0
    have bb1 : w6.cell? ⟨w3.heap.size, 1, none⟩ = some (.int .i64 x2) := E.cell (t := 39) (cs := #[.int .i64 x1, .int .i64 x2, .int .i64 x3, .int .i64 x4]) (by simp) 1
    have bb2 : w6.cell? ⟨w3.heap.size, 2, none⟩ = some (.int .i64 x3) := E.cell (t := 39) (cs := #[.int .i64 x1, .int .i64 x2, .int .i64 x3, .int .i64 x4]) (by simp) 2
    have bb3 : w6.cell? ⟨w3.heap.size, 3, none⟩ = some (.int .i64 x4) := E.cell (t := 39) (cs := #[.int .i64 x1, .int .i64 x2, .int .i64 x3, .int .i64 x4]) (by simp) 3
    have ppL : w.heap.size + 1 < w6.heap.size := E.lt (t := 34) (cs := #[.int .i64 a, .int .i64 b]) (by simp)
    have pp0 : w6.cell? ⟨w.heap.size + 1, 0, none⟩ = some (.int .i64 a) := E.cell (t := 34) (cs := #[.int .i64 a, .int .i64 b]) (by simp) 0
    have pp1 : w6.cell? ⟨w.heap.size + 1, 1, none⟩ = some (.int .i64 b) := E.cell (t := 34) (cs := #[.int .i64 a, .int .i64 b]) (by simp) 1
    have ccL : w.heap.size < w6.heap.size := E.lt (t := 32) (cs := #[.int .i64 l, .int .i64 r, .int .i64 c]) (by simp)
    have cc0 : w6.cell? ⟨w.heap.size, 0, none⟩ = some (.int .i64 l) := E.cell (t := 32) (cs := #[.int .i64 l, .int .i64 r, .int .i64 c]) (by simp) 0
    have cc1 : w6.cell? ⟨w.heap.size, 1, none⟩ = some (.int .i64 r) := E.cell (t := 32) (cs := #[.int .i64 l, .int .i64 r, .int .i64 c]) (by simp) 1
    have cc2 : w6.cell? ⟨w.heap.size, 2, none⟩ = some (.int .i64 c) := E.cell (t := 32) (cs := #[.int .i64 l, .int .i64 r, .int .i64 c]) (by simp) 2
    have E := E.alloc 32 #[.int .i64 0, .int .i64 0, .int .i64 0] (w6.heap.size) (by simp)
    have F := F.alloc 32 #[.int .i64 0, .int .i64 0, .int .i64 0] (w6.heap.size) rfl
    go_wp2_with fail
    (with_reducible refine (H5.out _).mono ?_)
    rintro e w7 ⟨rfl, hb⟩
    have E := E.call hb
    have F := F.call hb
    clear hb
    clear uuL uu0 uu1 uu2 bbL bb0 bb1 bb2 bb3 ppL pp0 pp1 ccL cc0 cc1 cc2
    have ooL : w6.heap.size < w7.heap.size := E.lt (t := 32) (cs := #[.int .i64 0, .int .i64 0, .int .i64 0]) (by simp)
    have oo0 : w7.cell? ⟨w6.heap.size, 0, none⟩ = some (.int .i64 0) := E.cell (t := 32) (cs := #[.int .i64 0, .int .i64 0, .int .i64 0]) (by simp) 0
    have oo1 : w7.cell? ⟨w6.heap.size, 1, none⟩ = some (.int .i64 0) := E.cell (t := 32) (cs := #[.int .i64 0, .int .i64 0, .int .i64 0]) (by simp) 1
    have oo2 : w7.cell? ⟨w6.heap.size, 2, none⟩ = some (.int .i64 0) := E.cell (t := 32) (cs := #[.int .i64 0, .int .i64 0, .int .i64 0]) (by simp) 2
    have uuL : w4.heap.size < w7.heap.size := E.lt (t := 32) (cs := #[.int .i64 y1, .int .i64 y2, .int .i64 y3]) (by simp)
    have uu0 : w7.cell? ⟨w4.heap.size, 0, none⟩ = some (.int .i64 y1) := E.cell (t := 32) (cs := #[.int .i64 y1, .int .i64 y2, .int .i64 y3]) (by simp) 0
    have uu1 : w7.cell? ⟨w4.heap.size, 1, none⟩ = some (.int .i64 y2) := E.cell (t := 32) (cs := #[.int .i64 y1, .int .i64 y2, .int .i64 y3]) (by simp) 1
    have uu2 : w7.cell? ⟨w4.heap.size, 2, none⟩ = some (.int .i64 y3) := E.cell (t := 32) (cs := #[.int .i64 y1, .int .i64 y2, .int .i64 y3]) (by simp) 2
    have bbL : w3.heap.size < w7.heap.size := E.lt (t := 39) (cs := #[.int .i64 x1, .int .i64 x2, .int .i64 x3, .int .i64 x4]) (by simp)
    have bb0 : w7.cell? ⟨w3.heap.size, 0, none⟩ = some (.int .i64 x1) := E.cell (t := 39) (cs := #[.int .i64 x1, .int .i64 x2, .int .i64 x3, .int .i64 x4]) (by simp) 0
    have bb1 : w7.cell? ⟨w3.heap.size, 1, none⟩ = some (.int .i64 x2) := E.cell (t := 39) (cs := #[.int .i64 x1, .int .i64 x2, .int .i64 x3, .int .i64 x4]) (by simp) 1
    have bb2 : w7.cell? ⟨w3.heap.size, 2, none⟩ = some (.int .i64 x3) := E.cell (t := 39) (cs := #[.int .i64 x1, .int .i64 x2, .int .i64 x3, .int .i64 x4]) (by simp) 2
    have bb3 : w7.cell? ⟨w3.heap.size, 3, none⟩ = some (.int .i64 x4) := E.cell (t := 39) (cs := #[.int .i64 x1, .int .i64 x2, .int .i64 x3, .int .i64 x4]) (by simp) 3
    have ppL : w.heap.size + 1 < w7.heap.size := E.lt (t := 34) (cs := #[.int .i64 a, .int .i64 b]) (by simp)
    have pp0 : w7.cell? ⟨w.heap.size + 1, 0, none⟩ = some (.int .i64 a) := E.cell (t := 34) (cs := #[.int .i64 a, .int .i64 b]) (by simp) 0
    have pp1 : w7.cell? ⟨w.heap.size + 1, 1, none⟩ = some (.int .i64 b) := E.cell (t := 34) (cs := #[.int .i64 a, .int .i64 b]) (by simp) 1
    have ccL : w.heap.size < w7.heap.size := E.lt (t := 32) (cs := #[.int .i64 l, .int .i64 r, .int .i64 c]) (by simp)
    have cc0 : w7.cell? ⟨w.heap.size, 0, none⟩ = some (.int .i64 l) := E.cell (t := 32) (cs := #[.int .i64 l, .int .i64 r, .int .i64 c]) (by simp) 0
    have cc1 : w7.cell? ⟨w.heap.size, 1, none⟩ = some (.int .i64 r) := E.cell (t := 32) (cs := #[.int .i64 l, .int .i64 r, .int .i64 c]) (by simp) 1
    have cc2 : w7.cell? ⟨w.heap.size, 2, none⟩ = some (.int .i64 c) := E.cell (t := 32) (cs := #[.int .i64 l, .int .i64 r, .int .i64 c]) (by simp) 2
    go_wp2_with fail
    (with_reducible refine (P2.out _).mono ?_)
    rintro e w8 ⟨rfl, hb⟩
    have E := E.call hb
    have F := F.call hb
    clear hb
    clear ooL oo0 oo1 oo2 uuL uu0 uu1 uu2 bbL bb0 bb1 bb2 bb3 ppL pp0 pp1 ccL cc0 cc1 cc2
    have ooL : w6.heap.size < w8.heap.size := E.lt (t := 32) (cs := #[.int .i64 0, .int .i64 0, .int .i64 0]) (by simp)
    have oo0 : w8.cell? ⟨w6.heap.size, 0, none⟩ = some (.int .i64 0) := E.cell (t := 32) (cs := #[.int .i64 0, .int .i64 0, .int .i64 0]) (by simp) 0
    have oo1 : w8.cell? ⟨w6.heap.size, 1, none⟩ = some (.int .i64 0) := E.cell (t := 32) (cs := #[.int .i64 0, .int .i64 0, .int .i64 0]) (by simp) 1
    have oo2 : w8.cell? ⟨w6.heap.size, 2, none⟩ = some (.int .i64 0) := E.cell (t := 32) (cs := #[.int .i64 0, .int .i64 0, .int .i64 0]) (by simp) 2
    have uuL : w4.heap.size < w8.heap.size := E.lt (t := 32) (cs := #[.int .i64 y1, .int .i64 y2, .int .i64 y3]) (by simp)
    have uu0 : w8.cell? ⟨w4.heap.size, 0, none⟩ = some (.int .i64 y1) := E.cell (t := 32) (cs := #[.int .i64 y1, .int .i64 y2, .int .i64 y3]) (by simp) 0
    have uu1 : w8.cell? ⟨w4.heap.size, 1, none⟩ = some (.int .i64 y2) := E.cell (t := 32) (cs := #[.int .i64 y1, .int .i64 y2, .int .i64 y3]) (by simp) 1
    have uu2 : w8.cell? ⟨w4.heap.size, 2, none⟩ = some (.int .i64 y3) := E.cell (t := 32) (cs := #[.int .i64 y1, .int .i64 y2, .int .i64 y3]) (by simp) 2
    have bbL : w3.heap.size < w8.heap.size := E.lt (t := 39) (cs := #[.int .i64 x1, .int .i64 x2, .int .i64 x3, .int .i64 x4]) (by simp)
    have bb0 : w8.cell? ⟨w3.heap.size, 0, none⟩ = some (.int .i64 x1) := E.cell (t := 39) (cs := #[.int .i64 x1, .int .i64 x2, .int .i64 x3, .int .i64 x4]) (by simp) 0
    have bb1 : w8.cell? ⟨w3.heap.size, 1, none⟩ = some (.int .i64 x2) := E.cell (t := 39) (cs := #[.int .i64 x1, .int .i64 x2, .int .i64 x3, .int .i64 x4]) (by simp) 1
    have bb2 : w8.cell? ⟨w3.heap.size, 2, none⟩ = some (.int .i64 x3) := E.cell (t := 39) (cs := #[.int .i64 x1, .int .i64 x2, .int .i64 x3, .int .i64 x4]) (by simp) 2
    have bb3 : w8.cell? ⟨w3.heap.size, 3, none⟩ = some (.int .i64 x4) := E.cell (t := 39) (cs := #[.int .i64 x1, .int .i64 x2, .int .i64 x3, .int .i64 x4]) (by simp) 3
    have ppL : w.heap.size + 1 < w8.heap.size := E.lt (t := 34) (cs := #[.int .i64 a, .int .i64 b]) (by simp)
    have pp0 : w8.cell? ⟨w.heap.size + 1, 0, none⟩ = some (.int .i64 a) := E.cell (t := 34) (cs := #[.int .i64 a, .int .i64 b]) (by simp) 0
    have pp1 : w8.cell? ⟨w.heap.size + 1, 1, none⟩ = some (.int .i64 b) := E.cell (t := 34) (cs := #[.int .i64 a, .int .i64 b]) (by simp) 1
    have ccL : w.heap.size < w8.heap.size := E.lt (t := 32) (cs := #[.int .i64 l, .int .i64 r, .int .i64 c]) (by simp)
    have cc0 : w8.cell? ⟨w.heap.size, 0, none⟩ = some (.int .i64 l) := E.cell (t := 32) (cs := #[.int .i64 l, .int .i64 r, .int .i64 c]) (by simp) 0
    have cc1 : w8.cell? ⟨w.heap.size, 1, none⟩ = some (.int .i64 r) := E.cell (t := 32) (cs := #[.int .i64 l, .int .i64 r, .int .i64 c]) (by simp) 1
    have cc2 : w8.cell? ⟨w.heap.size, 2, none⟩ = some (.int .i64 c) := E.cell (t := 32) (cs := #[.int .i64 l, .int .i64 r, .int .i64 c]) (by simp) 2
    go_wp2
    go_region_held3 (fun w' => w'.cell? ⟨w3.heap.size, 0, none⟩ = some (.int .i64 x1) ∧ w'.cell? ⟨w3.heap.size, 1, none⟩ = some (.int .i64 x2) ∧ w'.cell? ⟨w3.heap.size, 2, none⟩ = some (.int .i64 x3) ∧ w'.cell? ⟨w3.heap.size, 3, none⟩ = some (.int .i64 x4) ∧ w'.cell? ⟨w.heap.size, 0, none⟩ = some (.int .i64 l) ∧ w'.cell? ⟨w.heap.size, 1, none⟩ = some (.int .i64 r) ∧ w'.cell? ⟨w.heap.size, 2, none⟩ = some (.int .i64 c)) (first | exact ⟨bb0, bb1, bb2, bb3, cc0, cc1, cc2⟩ | exact ⟨sbb0, sbb1, sbb2, sbb3, scc0, scc1, scc2⟩) (first | (go_at_call 27; refine (H6.out _).mono ?_; rintro e w9 ⟨rfl, hb⟩; have sbb0 := (hb.cell (p := ⟨w3.heap.size, 0, none⟩) bbL).trans bb0; have sbb1 := (hb.cell (p := ⟨w3.heap.size, 1, none⟩) bbL).trans bb1; have sbb2 := (hb.cell (p := ⟨w3.heap.size, 2, none⟩) bbL).trans bb2; have sbb3 := (hb.cell (p := ⟨w3.heap.size, 3, none⟩) bbL).trans bb3; have scc0 := (hb.cell (p := ⟨w.heap.size, 0, none⟩) ccL).trans cc0; have scc1 := (hb.cell (p := ⟨w.heap.size, 1, none⟩) ccL).trans cc1; have scc2 := (hb.cell (p := ⟨w.heap.size, 2, none⟩) ccL).trans cc2))
    have E := (E.drew).call hb
    have F := (F.drew).call hb
    clear hb
    clear sbb0 sbb1 sbb2 sbb3 scc0 scc1 scc2
    clear ooL oo0 oo1 oo2 uuL uu0 uu1 uu2 bbL bb0 bb1 bb2 bb3 ppL pp0 pp1 ccL cc0 cc1 cc2
    have ooL : w6.heap.size < w9.heap.size := E.lt (t := 32) (cs := #[.int .i64 0, .int .i64 0, .int .i64 0]) (by simp)
    have oo0 : w9.cell? ⟨w6.heap.size, 0, none⟩ = some (.int .i64 0) := E.cell (t := 32) (cs := #[.int .i64 0, .int .i64 0, .int .i64 0]) (by simp) 0
    have oo1 : w9.cell? ⟨w6.heap.size, 1, none⟩ = some (.int .i64 0) := E.cell (t := 32) (cs := #[.int .i64 0, .int .i64 0, .int .i64 0]) (by simp) 1
    have oo2 : w9.cell? ⟨w6.heap.size, 2, none⟩ = some (.int .i64 0) := E.cell (t := 32) (cs := #[.int .i64 0, .int .i64 0, .int .i64 0]) (by simp) 2
    have uuL : w4.heap.size < w9.heap.size := E.lt (t := 32) (cs := #[.int .i64 y1, .int .i64 y2, .int .i64 y3]) (by simp)
    have uu0 : w9.cell? ⟨w4.heap.size, 0, none⟩ = some (.int .i64 y1) := E.cell (t := 32) (cs := #[.int .i64 y1, .int .i64 y2, .int .i64 y3]) (by simp) 0
    have uu1 : w9.cell? ⟨w4.heap.size, 1, none⟩ = some (.int .i64 y2) := E.cell (t := 32) (cs := #[.int .i64 y1, .int .i64 y2, .int .i64 y3]) (by simp) 1
    have uu2 : w9.cell? ⟨w4.heap.size, 2, none⟩ = some (.int .i64 y3) := E.cell (t := 32) (cs := #[.int .i64 y1, .int .i64 y2, .int .i64 y3]) (by simp) 2
    have bbL : w3.heap.size < w9.heap.size := E.lt (t := 39) (cs := #[.int .i64 x1, .int .i64 x2, .int .i64 x3, .int .i64 x4]) (by simp)
    have bb0 : w9.cell? ⟨w3.heap.size, 0, none⟩ = some (.int .i64 x1) := E.cell (t := 39) (cs := #[.int .i64 x1, .int .i64 x2, .int .i64 x3, .int .i64 x4]) (by simp) 0
    have bb1 : w9.cell? ⟨w3.heap.size, 1, none⟩ = some (.int .i64 x2) := E.cell (t := 39) (cs := #[.int .i64 x1, .int .i64 x2, .int .i64 x3, .int .i64 x4]) (by simp) 1
    have bb2 : w9.cell? ⟨w3.heap.size, 2, none⟩ = some (.int .i64 x3) := E.cell (t := 39) (cs := #[.int .i64 x1, .int .i64 x2, .int .i64 x3, .int .i64 x4]) (by simp) 2
    have bb3 : w9.cell? ⟨w3.heap.size, 3, none⟩ = some (.int .i64 x4) := E.cell (t := 39) (cs := #[.int .i64 x1, .int .i64 x2, .int .i64 x3, .int .i64 x4]) (by simp) 3
    have ppL : w.heap.size + 1 < w9.heap.size := E.lt (t := 34) (cs := #[.int .i64 a, .int .i64 b]) (by simp)
    have pp0 : w9.cell? ⟨w.heap.size + 1, 0, none⟩ = some (.int .i64 a) := E.cell (t := 34) (cs := #[.int .i64 a, .int .i64 b]) (by simp) 0
    have pp1 : w9.cell? ⟨w.heap.size + 1, 1, none⟩ = some (.int .i64 b) := E.cell (t := 34) (cs := #[.int .i64 a, .int .i64 b]) (by simp) 1
    have ccL : w.heap.size < w9.heap.size := E.lt (t := 32) (cs := #[.int .i64 l, .int .i64 r, .int .i64 c]) (by simp)
    have cc0 : w9.cell? ⟨w.heap.size, 0, none⟩ = some (.int .i64 l) := E.cell (t := 32) (cs := #[.int .i64 l, .int .i64 r, .int .i64 c]) (by simp) 0
    have cc1 : w9.cell? ⟨w.heap.size, 1, none⟩ = some (.int .i64 r) := E.cell (t := 32) (cs := #[.int .i64 l, .int .i64 r, .int .i64 c]) (by simp) 1
    have cc2 : w9.cell? ⟨w.heap.size, 2, none⟩ = some (.int .i64 c) := E.cell (t := 32) (cs := #[.int .i64 l, .int .i64 r, .int .i64 c]) (by simp) 2
    go_wp2
    go_region_held3 (fun w' => w'.cell? ⟨w4.heap.size, 0, none⟩ = some (.int .i64 y1) ∧ w'.cell? ⟨w4.heap.size, 1, none⟩ = some (.int .i64 y2) ∧ w'.cell? ⟨w4.heap.size, 2, none⟩ = some (.int .i64 y3) ∧ w'.cell? ⟨w.heap.size, 0, none⟩ = some (.int .i64 l) ∧ w'.cell? ⟨w.heap.size, 1, none⟩ = some (.int .i64 r) ∧ w'.cell? ⟨w.heap.size, 2, none⟩ = some (.int .i64 c)) (first | exact ⟨uu0, uu1, uu2, cc0, cc1, cc2⟩ | exact ⟨suu0, suu1, suu2, scc0, scc1, scc2⟩) (first | (go_at_call 28; refine (H7.out _).mono ?_; rintro e w10 ⟨rfl, hb⟩; have suu0 := (hb.cell (p := ⟨w4.heap.size, 0, none⟩) uuL).trans uu0; have suu1 := (hb.cell (p := ⟨w4.heap.size, 1, none⟩) uuL).trans uu1; have suu2 := (hb.cell (p := ⟨w4.heap.size, 2, none⟩) uuL).trans uu2; have scc0 := (hb.cell (p := ⟨w.heap.size, 0, none⟩) ccL).trans cc0; have scc1 := (hb.cell (p := ⟨w.heap.size, 1, none⟩) ccL).trans cc1; have scc2 := (hb.cell (p := ⟨w.heap.size, 2, none⟩) ccL).trans cc2))
    have E := (E.drew).call hb
    have F := (F.drew).call hb
    clear hb
    clear suu0 suu1 suu2 scc0 scc1 scc2
    clear ooL oo0 oo1 oo2 uuL uu0 uu1 uu2 bbL bb0 bb1 bb2 bb3 ppL pp0 pp1 ccL cc0 cc1 cc2
    have ooL : w6.heap.size < w10.heap.size := E.lt (t := 32) (cs := #[.int .i64 0, .int .i64 0, .int .i64 0]) (by simp)
    have oo0 : w10.cell? ⟨w6.heap.size, 0, none⟩ = some (.int .i64 0) := E.cell (t := 32) (cs := #[.int .i64 0, .int .i64 0, .int .i64 0]) (by simp) 0
    have oo1 : w10.cell? ⟨w6.heap.size, 1, none⟩ = some (.int .i64 0) := E.cell (t := 32) (cs := #[.int .i64 0, .int .i64 0, .int .i64 0]) (by simp) 1
    have oo2 : w10.cell? ⟨w6.heap.size, 2, none⟩ = some (.int .i64 0) := E.cell (t := 32) (cs := #[.int .i64 0, .int .i64 0, .int .i64 0]) (by simp) 2
    have uuL : w4.heap.size < w10.heap.size := E.lt (t := 32) (cs := #[.int .i64 y1, .int .i64 y2, .int .i64 y3]) (by simp)
    have uu0 : w10.cell? ⟨w4.heap.size, 0, none⟩ = some (.int .i64 y1) := E.cell (t := 32) (cs := #[.int .i64 y1, .int .i64 y2, .int .i64 y3]) (by simp) 0
    have uu1 : w10.cell? ⟨w4.heap.size, 1, none⟩ = some (.int .i64 y2) := E.cell (t := 32) (cs := #[.int .i64 y1, .int .i64 y2, .int .i64 y3]) (by simp) 1
    have uu2 : w10.cell? ⟨w4.heap.size, 2, none⟩ = some (.int .i64 y3) := E.cell (t := 32) (cs := #[.int .i64 y1, .int .i64 y2, .int .i64 y3]) (by simp) 2
    have bbL : w3.heap.size < w10.heap.size := E.lt (t := 39) (cs := #[.int .i64 x1, .int .i64 x2, .int .i64 x3, .int .i64 x4]) (by simp)
    have bb0 : w10.cell? ⟨w3.heap.size, 0, none⟩ = some (.int .i64 x1) := E.cell (t := 39) (cs := #[.int .i64 x1, .int .i64 x2, .int .i64 x3, .int .i64 x4]) (by simp) 0
    have bb1 : w10.cell? ⟨w3.heap.size, 1, none⟩ = some (.int .i64 x2) := E.cell (t := 39) (cs := #[.int .i64 x1, .int .i64 x2, .int .i64 x3, .int .i64 x4]) (by simp) 1
    have bb2 : w10.cell? ⟨w3.heap.size, 2, none⟩ = some (.int .i64 x3) := E.cell (t := 39) (cs := #[.int .i64 x1, .int .i64 x2, .int .i64 x3, .int .i64 x4]) (by simp) 2
    have bb3 : w10.cell? ⟨w3.heap.size, 3, none⟩ = some (.int .i64 x4) := E.cell (t := 39) (cs := #[.int .i64 x1, .int .i64 x2, .int .i64 x3, .int .i64 x4]) (by simp) 3
    have ppL : w.heap.size + 1 < w10.heap.size := E.lt (t := 34) (cs := #[.int .i64 a, .int .i64 b]) (by simp)
    have pp0 : w10.cell? ⟨w.heap.size + 1, 0, none⟩ = some (.int .i64 a) := E.cell (t := 34) (cs := #[.int .i64 a, .int .i64 b]) (by simp) 0
    have pp1 : w10.cell? ⟨w.heap.size + 1, 1, none⟩ = some (.int .i64 b) := E.cell (t := 34) (cs := #[.int .i64 a, .int .i64 b]) (by simp) 1
    have ccL : w.heap.size < w10.heap.size := E.lt (t := 32) (cs := #[.int .i64 l, .int .i64 r, .int .i64 c]) (by simp)
    have cc0 : w10.cell? ⟨w.heap.size, 0, none⟩ = some (.int .i64 l) := E.cell (t := 32) (cs := #[.int .i64 l, .int .i64 r, .int .i64 c]) (by simp) 0
    have cc1 : w10.cell? ⟨w.heap.size, 1, none⟩ = some (.int .i64 r) := E.cell (t := 32) (cs := #[.int .i64 l, .int .i64 r, .int .i64 c]) (by simp) 1
    have cc2 : w10.cell? ⟨w.heap.size, 2, none⟩ = some (.int .i64 c) := E.cell (t := 32) (cs := #[.int .i64 l, .int .i64 r, .int .i64 c]) (by simp) 2
    go_wp2_with fail
    (with_reducible refine (H8.out _).mono ?_)
    rintro e w11 ⟨v9, rfl, hown, hb⟩
    have E := E.call hb
    have F := F.call hb
    clear hb
    clear ooL oo0 oo1 oo2 uuL uu0 uu1 uu2 bbL bb0 bb1 bb2 bb3 ppL pp0 pp1 ccL cc0 cc1 cc2
    have ooL : w6.heap.size < w11.heap.size := E.lt (t := 32) (cs := #[.int .i64 0, .int .i64 0, .int .i64 0]) (by simp)
    have oo0 : w11.cell? ⟨w6.heap.size, 0, none⟩ = some (.int .i64 0) := E.cell (t := 32) (cs := #[.int .i64 0, .int .i64 0, .int .i64 0]) (by simp) 0
    have oo1 : w11.cell? ⟨w6.heap.size, 1, none⟩ = some (.int .i64 0) := E.cell (t := 32) (cs := #[.int .i64 0, .int .i64 0, .int .i64 0]) (by simp) 1
    have oo2 : w11.cell? ⟨w6.heap.size, 2, none⟩ = some (.int .i64 0) := E.cell (t := 32) (cs := #[.int .i64 0, .int .i64 0, .int .i64 0]) (by simp) 2
    have uuL : w4.heap.size < w11.heap.size := E.lt (t := 32) (cs := #[.int .i64 y1, .int .i64 y2, .int .i64 y3]) (by simp)
    have uu0 : w11.cell? ⟨w4.heap.size, 0, none⟩ = some (.int .i64 y1) := E.cell (t := 32) (cs := #[.int .i64 y1, .int .i64 y2, .int .i64 y3]) (by simp) 0
    have uu1 : w11.cell? ⟨w4.heap.size, 1, none⟩ = some (.int .i64 y2) := E.cell (t := 32) (cs := #[.int .i64 y1, .int .i64 y2, .int .i64 y3]) (by simp) 1
    have uu2 : w11.cell? ⟨w4.heap.size, 2, none⟩ = some (.int .i64 y3) := E.cell (t := 32) (cs := #[.int .i64 y1, .int .i64 y2, .int .i64 y3]) (by simp) 2
    have bbL : w3.heap.size < w11.heap.size := E.lt (t := 39) (cs := #[.int .i64 x1, .int .i64 x2, .int .i64 x3, .int .i64 x4]) (by simp)
    have bb0 : w11.cell? ⟨w3.heap.size, 0, none⟩ = some (.int .i64 x1) := E.cell (t := 39) (cs := #[.int .i64 x1, .int .i64 x2, .int .i64 x3, .int .i64 x4]) (by simp) 0
    have bb1 : w11.cell? ⟨w3.heap.size, 1, none⟩ = some (.int .i64 x2) := E.cell (t := 39) (cs := #[.int .i64 x1, .int .i64 x2, .int .i64 x3, .int .i64 x4]) (by simp) 1
    have bb2 : w11.cell? ⟨w3.heap.size, 2, none⟩ = some (.int .i64 x3) := E.cell (t := 39) (cs := #[.int .i64 x1, .int .i64 x2, .int .i64 x3, .int .i64 x4]) (by simp) 2
    have bb3 : w11.cell? ⟨w3.heap.size, 3, none⟩ = some (.int .i64 x4) := E.cell (t := 39) (cs := #[.int .i64 x1, .int .i64 x2, .int .i64 x3, .int .i64 x4]) (by simp) 3
    have ppL : w.heap.size + 1 < w11.heap.size := E.lt (t := 34) (cs := #[.int .i64 a, .int .i64 b]) (by simp)
    have pp0 : w11.cell? ⟨w.heap.size + 1, 0, none⟩ = some (.int .i64 a) := E.cell (t := 34) (cs := #[.int .i64 a, .int .i64 b]) (by simp) 0
    have pp1 : w11.cell? ⟨w.heap.size + 1, 1, none⟩ = some (.int .i64 b) := E.cell (t := 34) (cs := #[.int .i64 a, .int .i64 b]) (by simp) 1
    have ccL : w.heap.size < w11.heap.size := E.lt (t := 32) (cs := #[.int .i64 l, .int .i64 r, .int .i64 c]) (by simp)
    have cc0 : w11.cell? ⟨w.heap.size, 0, none⟩ = some (.int .i64 l) := E.cell (t := 32) (cs := #[.int .i64 l, .int .i64 r, .int .i64 c]) (by simp) 0
    have cc1 : w11.cell? ⟨w.heap.size, 1, none⟩ = some (.int .i64 r) := E.cell (t := 32) (cs := #[.int .i64 l, .int .i64 r, .int .i64 c]) (by simp) 1
    have cc2 : w11.cell? ⟨w.heap.size, 2, none⟩ = some (.int .i64 c) := E.cell (t := 32) (cs := #[.int .i64 l, .int .i64 r, .int .i64 c]) (by simp) 2
    obtain ⟨A9, c9, hv9, hr9, -, -⟩ := own_form hown
    subst hv9
    clear hown
    go_wp2_with fail
    (with_reducible refine (Same_any A5 A9 _ _ c5 c9 (kids l r c) (kids l r c) _ _ _ (hr5.below F.bl) hr9 (by simp [kids, maxLen]) (by simp [kids, maxLen])).mono ?_)
    rintro e wz ⟨rfl, nz, rfl⟩
    go_wp2
    go_ret
    exact ⟨ret_bool (by simp_all), bl_drewN E.1 _⟩
  · skip
    go_wp2_with fail
    (with_reducible refine (P1.out _).mono ?_)
    rintro e w6 ⟨rfl, hb⟩
    have E := E.call hb
    have F := F.call hb
    clear hb
    clear uuL uu0 uu1 uu2 bbL bb0 bb1 bb2 bb3 ppL pp0 pp1 ccL cc0 cc1 cc2
    have uuL : w4.heap.size < w6.heap.size := E.lt (t := 32) (cs := #[.int .i64 y1, .int .i64 y2, .int .i64 y3]) (by simp)
    have uu0 : w6.cell? ⟨w4.heap.size, 0, none⟩ = some (.int .i64 y1) := E.cell (t := 32) (cs := #[.int .i64 y1, .int .i64 y2, .int .i64 y3]) (by simp) 0
    have uu1 : w6.cell? ⟨w4.heap.size, 1, none⟩ = some (.int .i64 y2) := E.cell (t := 32) (cs := #[.int .i64 y1, .int .i64 y2, .int .i64 y3]) (by simp) 1
    have uu2 : w6.cell? ⟨w4.heap.size, 2, none⟩ = some (.int .i64 y3) := E.cell (t := 32) (cs := #[.int .i64 y1, .int .i64 y2, .int .i64 y3]) (by simp) 2
    have bbL : w3.heap.size < w6.heap.size := E.lt (t := 39) (cs := #[.int .i64 x1, .int .i64 x2, .int .i64 x3, .int .i64 x4]) (by simp)
    have bb0 : w6.cell? ⟨w3.heap.size, 0, none⟩ = some (.int .i64 x1) := E.cell (t := 39) (cs := #[.int .i64 x1, .int .i64 x2, .int .i64 x3, .int .i64 x4]) (by simp) 0
    have bb1 : w6.cell? ⟨w3.heap.size, 1, none⟩ = some (.int .i64 x2) := E.cell (t := 39) (cs := #[.int .i64 x1, .int .i64 x2, .int .i64 x3, .int .i64 x4]) (by simp) 1
    have bb2 : w6.cell? ⟨w3.heap.size, 2, none⟩ = some (.int .i64 x3) := E.cell (t := 39) (cs := #[.int .i64 x1, .int .i64 x2, .int .i64 x3, .int .i64 x4]) (by simp) 2
    have bb3 : w6.cell? ⟨w3.heap.size, 3, none⟩ = some (.int .i64 x4) := E.cell (t := 39) (cs := #[.int .i64 x1, .int .i64 x2, .int .i64 x3, .int .i64 x4]) (by simp) 3
    have ppL : w.heap.size + 1 < w6.heap.size := E.lt (t := 34) (cs := #[.int .i64 a, .int .i64 b]) (by simp)
    have pp0 : w6.cell? ⟨w.heap.size + 1, 0, none⟩ = some (.int .i64 a) := E.cell (t := 34) (cs := #[.int .i64 a, .int .i64 b]) (by simp) 0
    have pp1 : w6.cell? ⟨w.heap.size + 1, 1, none⟩ = some (.int .i64 b) := E.cell (t := 34) (cs := #[.int .i64 a, .int .i64 b]) (by simp) 1
    have ccL : w.heap.size < w6.heap.size := E.lt (t := 32) (cs := #[.int .i64 l, .int .i64 r, .int .i64 c]) (by simp)
    have cc0 : w6.cell? ⟨w.heap.size, 0, none⟩ = some (.int .i64 l) := E.cell (t := 32) (cs := #[.int .i64 l, .int .i64 r, .int .i64 c]) (by simp) 0
    have cc1 : w6.cell? ⟨w.heap.size, 1, none⟩ = some (.int .i64 r) := E.cell (t := 32) (cs := #[.int .i64 l, .int .i64 r, .int .i64 c]) (by simp) 1
    have cc2 : w6.cell? ⟨w.heap.size, 2, none⟩ = some (.int .i64 c) := E.cell (t := 32) (cs := #[.int .i64 l, .int .i64 r, .int .i64 c]) (by simp) 2
    have E := E.alloc 32 #[.int .i64 0, .int .i64 0, .int .i64 0] (w6.heap.size) (by simp)
    have F := F.alloc 32 #[.int .i64 0, .int .i64 0, .int .i64 0] (w6.heap.size) rfl
    go_wp2_with fail
    (with_reducible refine (H5.out _).mono ?_)
    rintro e w7 ⟨rfl, hb⟩
    have E := E.call hb
    have F := F.call hb
    clear hb
    clear uuL uu0 uu1 uu2 bbL bb0 bb1 bb2 bb3 ppL pp0 pp1 ccL cc0 cc1 cc2
    have ooL : w6.heap.size < w7.heap.size := E.lt (t := 32) (cs := #[.int .i64 0, .int .i64 0, .int .i64 0]) (by simp)
    have oo0 : w7.cell? ⟨w6.heap.size, 0, none⟩ = some (.int .i64 0) := E.cell (t := 32) (cs := #[.int .i64 0, .int .i64 0, .int .i64 0]) (by simp) 0
    have oo1 : w7.cell? ⟨w6.heap.size, 1, none⟩ = some (.int .i64 0) := E.cell (t := 32) (cs := #[.int .i64 0, .int .i64 0, .int .i64 0]) (by simp) 1
    have oo2 : w7.cell? ⟨w6.heap.size, 2, none⟩ = some (.int .i64 0) := E.cell (t := 32) (cs := #[.int .i64 0, .int .i64 0, .int .i64 0]) (by simp) 2
    have uuL : w4.heap.size < w7.heap.size := E.lt (t := 32) (cs := #[.int .i64 y1, .int .i64 y2, .int .i64 y3]) (by simp)
    have uu0 : w7.cell? ⟨w4.heap.size, 0, none⟩ = some (.int .i64 y1) := E.cell (t := 32) (cs := #[.int .i64 y1, .int .i64 y2, .int .i64 y3]) (by simp) 0
    have uu1 : w7.cell? ⟨w4.heap.size, 1, none⟩ = some (.int .i64 y2) := E.cell (t := 32) (cs := #[.int .i64 y1, .int .i64 y2, .int .i64 y3]) (by simp) 1
    have uu2 : w7.cell? ⟨w4.heap.size, 2, none⟩ = some (.int .i64 y3) := E.cell (t := 32) (cs := #[.int .i64 y1, .int .i64 y2, .int .i64 y3]) (by simp) 2
    have bbL : w3.heap.size < w7.heap.size := E.lt (t := 39) (cs := #[.int .i64 x1, .int .i64 x2, .int .i64 x3, .int .i64 x4]) (by simp)
    have bb0 : w7.cell? ⟨w3.heap.size, 0, none⟩ = some (.int .i64 x1) := E.cell (t := 39) (cs := #[.int .i64 x1, .int .i64 x2, .int .i64 x3, .int .i64 x4]) (by simp) 0
    have bb1 : w7.cell? ⟨w3.heap.size, 1, none⟩ = some (.int .i64 x2) := E.cell (t := 39) (cs := #[.int .i64 x1, .int .i64 x2, .int .i64 x3, .int .i64 x4]) (by simp) 1
    have bb2 : w7.cell? ⟨w3.heap.size, 2, none⟩ = some (.int .i64 x3) := E.cell (t := 39) (cs := #[.int .i64 x1, .int .i64 x2, .int .i64 x3, .int .i64 x4]) (by simp) 2
    have bb3 : w7.cell? ⟨w3.heap.size, 3, none⟩ = some (.int .i64 x4) := E.cell (t := 39) (cs := #[.int .i64 x1, .int .i64 x2, .int .i64 x3, .int .i64 x4]) (by simp) 3
    have ppL : w.heap.size + 1 < w7.heap.size := E.lt (t := 34) (cs := #[.int .i64 a, .int .i64 b]) (by simp)
    have pp0 : w7.cell? ⟨w.heap.size + 1, 0, none⟩ = some (.int .i64 a) := E.cell (t := 34) (cs := #[.int .i64 a, .int .i64 b]) (by simp) 0
    have pp1 : w7.cell? ⟨w.heap.size + 1, 1, none⟩ = some (.int .i64 b) := E.cell (t := 34) (cs := #[.int .i64 a, .int .i64 b]) (by simp) 1
    have ccL : w.heap.size < w7.heap.size := E.lt (t := 32) (cs := #[.int .i64 l, .int .i64 r, .int .i64 c]) (by simp)
    have cc0 : w7.cell? ⟨w.heap.size, 0, none⟩ = some (.int .i64 l) := E.cell (t := 32) (cs := #[.int .i64 l, .int .i64 r, .int .i64 c]) (by simp) 0
    have cc1 : w7.cell? ⟨w.heap.size, 1, none⟩ = some (.int .i64 r) := E.cell (t := 32) (cs := #[.int .i64 l, .int .i64 r, .int .i64 c]) (by simp) 1
    have cc2 : w7.cell? ⟨w.heap.size, 2, none⟩ = some (.int .i64 c) := E.cell (t := 32) (cs := #[.int .i64 l, .int .i64 r, .int .i64 c]) (by simp) 2
    go_wp2_with fail
    (with_reducible refine (P2.out _).mono ?_)
    rintro e w8 ⟨rfl, hb⟩
    have E := E.call hb
    have F := F.call hb
    clear hb
    clear ooL oo0 oo1 oo2 uuL uu0 uu1 uu2 bbL bb0 bb1 bb2 bb3 ppL pp0 pp1 ccL cc0 cc1 cc2
    have ooL : w6.heap.size < w8.heap.size := E.lt (t := 32) (cs := #[.int .i64 0, .int .i64 0, .int .i64 0]) (by simp)
    have oo0 : w8.cell? ⟨w6.heap.size, 0, none⟩ = some (.int .i64 0) := E.cell (t := 32) (cs := #[.int .i64 0, .int .i64 0, .int .i64 0]) (by simp) 0
    have oo1 : w8.cell? ⟨w6.heap.size, 1, none⟩ = some (.int .i64 0) := E.cell (t := 32) (cs := #[.int .i64 0, .int .i64 0, .int .i64 0]) (by simp) 1
    have oo2 : w8.cell? ⟨w6.heap.size, 2, none⟩ = some (.int .i64 0) := E.cell (t := 32) (cs := #[.int .i64 0, .int .i64 0, .int .i64 0]) (by simp) 2
    have uuL : w4.heap.size < w8.heap.size := E.lt (t := 32) (cs := #[.int .i64 y1, .int .i64 y2, .int .i64 y3]) (by simp)
    have uu0 : w8.cell? ⟨w4.heap.size, 0, none⟩ = some (.int .i64 y1) := E.cell (t := 32) (cs := #[.int .i64 y1, .int .i64 y2, .int .i64 y3]) (by simp) 0
    have uu1 : w8.cell? ⟨w4.heap.size, 1, none⟩ = some (.int .i64 y2) := E.cell (t := 32) (cs := #[.int .i64 y1, .int .i64 y2, .int .i64 y3]) (by simp) 1
    have uu2 : w8.cell? ⟨w4.heap.size, 2, none⟩ = some (.int .i64 y3) := E.cell (t := 32) (cs := #[.int .i64 y1, .int .i64 y2, .int .i64 y3]) (by simp) 2
    have bbL : w3.heap.size < w8.heap.size := E.lt (t := 39) (cs := #[.int .i64 x1, .int .i64 x2, .int .i64 x3, .int .i64 x4]) (by simp)
    have bb0 : w8.cell? ⟨w3.heap.size, 0, none⟩ = some (.int .i64 x1) := E.cell (t := 39) (cs := #[.int .i64 x1, .int .i64 x2, .int .i64 x3, .int .i64 x4]) (by simp) 0
    have bb1 : w8.cell? ⟨w3.heap.size, 1, none⟩ = some (.int .i64 x2) := E.cell (t := 39) (cs := #[.int .i64 x1, .int .i64 x2, .int .i64 x3, .int .i64 x4]) (by simp) 1
    have bb2 : w8.cell? ⟨w3.heap.size, 2, none⟩ = some (.int .i64 x3) := E.cell (t := 39) (cs := #[.int .i64 x1, .int .i64 x2, .int .i64 x3, .int .i64 x4]) (by simp) 2
    have bb3 : w8.cell? ⟨w3.heap.size, 3, none⟩ = some (.int .i64 x4) := E.cell (t := 39) (cs := #[.int .i64 x1, .int .i64 x2, .int .i64 x3, .int .i64 x4]) (by simp) 3
    have ppL : w.heap.size + 1 < w8.heap.size := E.lt (t := 34) (cs := #[.int .i64 a, .int .i64 b]) (by simp)
    have pp0 : w8.cell? ⟨w.heap.size + 1, 0, none⟩ = some (.int .i64 a) := E.cell (t := 34) (cs := #[.int .i64 a, .int .i64 b]) (by simp) 0
    have pp1 : w8.cell? ⟨w.heap.size + 1, 1, none⟩ = some (.int .i64 b) := E.cell (t := 34) (cs := #[.int .i64 a, .int .i64 b]) (by simp) 1
    have ccL : w.heap.size < w8.heap.size := E.lt (t := 32) (cs := #[.int .i64 l, .int .i64 r, .int .i64 c]) (by simp)
    have cc0 : w8.cell? ⟨w.heap.size, 0, none⟩ = some (.int .i64 l) := E.cell (t := 32) (cs := #[.int .i64 l, .int .i64 r, .int .i64 c]) (by simp) 0
    have cc1 : w8.cell? ⟨w.heap.size, 1, none⟩ = some (.int .i64 r) := E.cell (t := 32) (cs := #[.int .i64 l, .int .i64 r, .int .i64 c]) (by simp) 1
    have cc2 : w8.cell? ⟨w.heap.size, 2, none⟩ = some (.int .i64 c) := E.cell (t := 32) (cs := #[.int .i64 l, .int .i64 r, .int .i64 c]) (by simp) 2
    rcases hlr with hlr | hlr
    all_goals
      go_wp2
      go_region_held3 (fun w' => w'.cell? ⟨w3.heap.size, 0, none⟩ = some (.int .i64 x1) ∧ w'.cell? ⟨w3.heap.size, 1, none⟩ = some (.int .i64 x2) ∧ w'.cell? ⟨w3.heap.size, 2, none⟩ = some (.int .i64 x3) ∧ w'.cell? ⟨w3.heap.size, 3, none⟩ = some (.int .i64 x4) ∧ w'.cell? ⟨w.heap.size, 0, none⟩ = some (.int .i64 l) ∧ w'.cell? ⟨w.heap.size, 1, none⟩ = some (.int .i64 r) ∧ w'.cell? ⟨w.heap.size, 2, none⟩ = some (.int .i64 c)) (first | exact ⟨bb0, bb1, bb2, bb3, cc0, cc1, cc2⟩ | exact ⟨sbb0, sbb1, sbb2, sbb3, scc0, scc1, scc2⟩) (first | (go_at_call 27; refine (H6.out _).mono ?_; rintro e w9 ⟨rfl, hb⟩; have sbb0 := (hb.cell (p := ⟨w3.heap.size, 0, none⟩) bbL).trans bb0; have sbb1 := (hb.cell (p := ⟨w3.heap.size, 1, none⟩) bbL).trans bb1; have sbb2 := (hb.cell (p := ⟨w3.heap.size, 2, none⟩) bbL).trans bb2; have sbb3 := (hb.cell (p := ⟨w3.heap.size, 3, none⟩) bbL).trans bb3; have scc0 := (hb.cell (p := ⟨w.heap.size, 0, none⟩) ccL).trans cc0; have scc1 := (hb.cell (p := ⟨w.heap.size, 1, none⟩) ccL).trans cc1; have scc2 := (hb.cell (p := ⟨w.heap.size, 2, none⟩) ccL).trans cc2))
      have E := (E.drew).call hb
      have F := (F.drew).call hb
      clear hb
      clear sbb0 sbb1 sbb2 sbb3 scc0 scc1 scc2
      clear ooL oo0 oo1 oo2 uuL uu0 uu1 uu2 bbL bb0 bb1 bb2 bb3 ppL pp0 pp1 ccL cc0 cc1 cc2
      have ooL : w6.heap.size < w9.heap.size := E.lt (t := 32) (cs := #[.int .i64 0, .int .i64 0, .int .i64 0]) (by simp)
      have oo0 : w9.cell? ⟨w6.heap.size, 0, none⟩ = some (.int .i64 0) := E.cell (t := 32) (cs := #[.int .i64 0, .int .i64 0, .int .i64 0]) (by simp) 0
      have oo1 : w9.cell? ⟨w6.heap.size, 1, none⟩ = some (.int .i64 0) := E.cell (t := 32) (cs := #[.int .i64 0, .int .i64 0, .int .i64 0]) (by simp) 1
      have oo2 : w9.cell? ⟨w6.heap.size, 2, none⟩ = some (.int .i64 0) := E.cell (t := 32) (cs := #[.int .i64 0, .int .i64 0, .int .i64 0]) (by simp) 2
      have uuL : w4.heap.size < w9.heap.size := E.lt (t := 32) (cs := #[.int .i64 y1, .int .i64 y2, .int .i64 y3]) (by simp)
      have uu0 : w9.cell? ⟨w4.heap.size, 0, none⟩ = some (.int .i64 y1) := E.cell (t := 32) (cs := #[.int .i64 y1, .int .i64 y2, .int .i64 y3]) (by simp) 0
      have uu1 : w9.cell? ⟨w4.heap.size, 1, none⟩ = some (.int .i64 y2) := E.cell (t := 32) (cs := #[.int .i64 y1, .int .i64 y2, .int .i64 y3]) (by simp) 1
      have uu2 : w9.cell? ⟨w4.heap.size, 2, none⟩ = some (.int .i64 y3) := E.cell (t := 32) (cs := #[.int .i64 y1, .int .i64 y2, .int .i64 y3]) (by simp) 2
      have bbL : w3.heap.size < w9.heap.size := E.lt (t := 39) (cs := #[.int .i64 x1, .int .i64 x2, .int .i64 x3, .int .i64 x4]) (by simp)
      have bb0 : w9.cell? ⟨w3.heap.size, 0, none⟩ = some (.int .i64 x1) := E.cell (t := 39) (cs := #[.int .i64 x1, .int .i64 x2, .int .i64 x3, .int .i64 x4]) (by simp) 0
      have bb1 : w9.cell? ⟨w3.heap.size, 1, none⟩ = some (.int .i64 x2) := E.cell (t := 39) (cs := #[.int .i64 x1, .int .i64 x2, .int .i64 x3, .int .i64 x4]) (by simp) 1
      have bb2 : w9.cell? ⟨w3.heap.size, 2, none⟩ = some (.int .i64 x3) := E.cell (t := 39) (cs := #[.int .i64 x1, .int .i64 x2, .int .i64 x3, .int .i64 x4]) (by simp) 2
      have bb3 : w9.cell? ⟨w3.heap.size, 3, none⟩ = some (.int .i64 x4) := E.cell (t := 39) (cs := #[.int .i64 x1, .int .i64 x2, .int .i64 x3, .int .i64 x4]) (by simp) 3
      have ppL : w.heap.size + 1 < w9.heap.size := E.lt (t := 34) (cs := #[.int .i64 a, .int .i64 b]) (by simp)
      have pp0 : w9.cell? ⟨w.heap.size + 1, 0, none⟩ = some (.int .i64 a) := E.cell (t := 34) (cs := #[.int .i64 a, .int .i64 b]) (by simp) 0
      have pp1 : w9.cell? ⟨w.heap.size + 1, 1, none⟩ = some (.int .i64 b) := E.cell (t := 34) (cs := #[.int .i64 a, .int .i64 b]) (by simp) 1
      have ccL : w.heap.size < w9.heap.size := E.lt (t := 32) (cs := #[.int .i64 l, .int .i64 r, .int .i64 c]) (by simp)
      have cc0 : w9.cell? ⟨w.heap.size, 0, none⟩ = some (.int .i64 l) := E.cell (t := 32) (cs := #[.int .i64 l, .int .i64 r, .int .i64 c]) (by simp) 0
      have cc1 : w9.cell? ⟨w.heap.size, 1, none⟩ = some (.int .i64 r) := E.cell (t := 32) (cs := #[.int .i64 l, .int .i64 r, .int .i64 c]) (by simp) 1
      have cc2 : w9.cell? ⟨w.heap.size, 2, none⟩ = some (.int .i64 c) := E.cell (t := 32) (cs := #[.int .i64 l, .int .i64 r, .int .i64 c]) (by simp) 2
      go_wp2
      go_region_held3 (fun w' => w'.cell? ⟨w4.heap.size, 0, none⟩ = some (.int .i64 y1) ∧ w'.cell? ⟨w4.heap.size, 1, none⟩ = some (.int .i64 y2) ∧ w'.cell? ⟨w4.heap.size, 2, none⟩ = some (.int .i64 y3) ∧ w'.cell? ⟨w.heap.size, 0, none⟩ = some (.int .i64 l) ∧ w'.cell? ⟨w.heap.size, 1, none⟩ = some (.int .i64 r) ∧ w'.cell? ⟨w.heap.size, 2, none⟩ = some (.int .i64 c)) (first | exact ⟨uu0, uu1, uu2, cc0, cc1, cc2⟩ | exact ⟨suu0, suu1, suu2, scc0, scc1, scc2⟩) (first | (go_at_call 28; refine (H7.out _).mono ?_; rintro e w10 ⟨rfl, hb⟩; have suu0 := (hb.cell (p := ⟨w4.heap.size, 0, none⟩) uuL).trans uu0; have suu1 := (hb.cell (p := ⟨w4.heap.size, 1, none⟩) uuL).trans uu1; have suu2 := (hb.cell (p := ⟨w4.heap.size, 2, none⟩) uuL).trans uu2; have scc0 := (hb.cell (p := ⟨w.heap.size, 0, none⟩) ccL).trans cc0; have scc1 := (hb.cell (p := ⟨w.heap.size, 1, none⟩) ccL).trans cc1; have scc2 := (hb.cell (p := ⟨w.heap.size, 2, none⟩) ccL).trans cc2))
      have E := (E.drew).call hb
      have F := (F.drew).call hb
      clear hb
      clear suu0 suu1 suu2 scc0 scc1 scc2
      clear ooL oo0 oo1 oo2 uuL uu0 uu1 uu2 bbL bb0 bb1 bb2 bb3 ppL pp0 pp1 ccL cc0 cc1 cc2
      have ooL : w6.heap.size < w10.heap.size := E.lt (t := 32) (cs := #[.int .i64 0, .int .i64 0, .int .i64 0]) (by simp)
      have oo0 : w10.cell? ⟨w6.heap.size, 0, none⟩ = some (.int .i64 0) := E.cell (t := 32) (cs := #[.int .i64 0, .int .i64 0, .int .i64 0]) (by simp) 0
      have oo1 : w10.cell? ⟨w6.heap.size, 1, none⟩ = some (.int .i64 0) := E.cell (t := 32) (cs := #[.int .i64 0, .int .i64 0, .int .i64 0]) (by simp) 1
      have oo2 : w10.cell? ⟨w6.heap.size, 2, none⟩ = some (.int .i64 0) := E.cell (t := 32) (cs := #[.int .i64 0, .int .i64 0, .int .i64 0]) (by simp) 2
      have uuL : w4.heap.size < w10.heap.size := E.lt (t := 32) (cs := #[.int .i64 y1, .int .i64 y2, .int .i64 y3]) (by simp)
      have uu0 : w10.cell? ⟨w4.heap.size, 0, none⟩ = some (.int .i64 y1) := E.cell (t := 32) (cs := #[.int .i64 y1, .int .i64 y2, .int .i64 y3]) (by simp) 0
      have uu1 : w10.cell? ⟨w4.heap.size, 1, none⟩ = some (.int .i64 y2) := E.cell (t := 32) (cs := #[.int .i64 y1, .int .i64 y2, .int .i64 y3]) (by simp) 1
      have uu2 : w10.cell? ⟨w4.heap.size, 2, none⟩ = some (.int .i64 y3) := E.cell (t := 32) (cs := #[.int .i64 y1, .int .i64 y2, .int .i64 y3]) (by simp) 2
      have bbL : w3.heap.size < w10.heap.size := E.lt (t := 39) (cs := #[.int .i64 x1, .int .i64 x2, .int .i64 x3, .int .i64 x4]) (by simp)
      have bb0 : w10.cell? ⟨w3.heap.size, 0, none⟩ = some (.int .i64 x1) := E.cell (t := 39) (cs := #[.int .i64 x1, .int .i64 x2, .int .i64 x3, .int .i64 x4]) (by simp) 0
      have bb1 : w10.cell? ⟨w3.heap.size, 1, none⟩ = some (.int .i64 x2) := E.cell (t := 39) (cs := #[.int .i64 x1, .int .i64 x2, .int .i64 x3, .int .i64 x4]) (by simp) 1
      have bb2 : w10.cell? ⟨w3.heap.size, 2, none⟩ = some (.int .i64 x3) := E.cell (t := 39) (cs := #[.int .i64 x1, .int .i64 x2, .int .i64 x3, .int .i64 x4]) (by simp) 2
      have bb3 : w10.cell? ⟨w3.heap.size, 3, none⟩ = some (.int .i64 x4) := E.cell (t := 39) (cs := #[.int .i64 x1, .int .i64 x2, .int .i64 x3, .int .i64 x4]) (by simp) 3
      have ppL : w.heap.size + 1 < w10.heap.size := E.lt (t := 34) (cs := #[.int .i64 a, .int .i64 b]) (by simp)
      have pp0 : w10.cell? ⟨w.heap.size + 1, 0, none⟩ = some (.int .i64 a) := E.cell (t := 34) (cs := #[.int .i64 a, .int .i64 b]) (by simp) 0
      have pp1 : w10.cell? ⟨w.heap.size + 1, 1, none⟩ = some (.int .i64 b) := E.cell (t := 34) (cs := #[.int .i64 a, .int .i64 b]) (by simp) 1
      have ccL : w.heap.size < w10.heap.size := E.lt (t := 32) (cs := #[.int .i64 l, .int .i64 r, .int .i64 c]) (by simp)
      have cc0 : w10.cell? ⟨w.heap.size, 0, none⟩ = some (.int .i64 l) := E.cell (t := 32) (cs := #[.int .i64 l, .int .i64 r, .int .i64 c]) (by simp) 0
      have cc1 : w10.cell? ⟨w.heap.size, 1, none⟩ = some (.int .i64 r) := E.cell (t := 32) (cs := #[.int .i64 l, .int .i64 r, .int .i64 c]) (by simp) 1
      have cc2 : w10.cell? ⟨w.heap.size, 2, none⟩ = some (.int .i64 c) := E.cell (t := 32) (cs := #[.int .i64 l, .int .i64 r, .int .i64 c]) (by simp) 2
      go_wp2_with fail
      (with_reducible refine (H8.out _).mono ?_)
      rintro e w11 ⟨v9, rfl, hown, hb⟩
      have E := E.call hb
      have F := F.call hb
      clear hb
      clear ooL oo0 oo1 oo2 uuL uu0 uu1 uu2 bbL bb0 bb1 bb2 bb3 ppL pp0 pp1 ccL cc0 cc1 cc2
      have ooL : w6.heap.size < w11.heap.size := E.lt (t := 32) (cs := #[.int .i64 0, .int .i64 0, .int .i64 0]) (by simp)
      have oo0 : w11.cell? ⟨w6.heap.size, 0, none⟩ = some (.int .i64 0) := E.cell (t := 32) (cs := #[.int .i64 0, .int .i64 0, .int .i64 0]) (by simp) 0
      have oo1 : w11.cell? ⟨w6.heap.size, 1, none⟩ = some (.int .i64 0) := E.cell (t := 32) (cs := #[.int .i64 0, .int .i64 0, .int .i64 0]) (by simp) 1
      have oo2 : w11.cell? ⟨w6.heap.size, 2, none⟩ = some (.int .i64 0) := E.cell (t := 32) (cs := #[.int .i64 0, .int .i64 0, .int .i64 0]) (by simp) 2
      have uuL : w4.heap.size < w11.heap.size := E.lt (t := 32) (cs := #[.int .i64 y1, .int .i64 y2, .int .i64 y3]) (by simp)
      have uu0 : w11.cell? ⟨w4.heap.size, 0, none⟩ = some (.int .i64 y1) := E.cell (t := 32) (cs := #[.int .i64 y1, .int .i64 y2, .int .i64 y3]) (by simp) 0
      have uu1 : w11.cell? ⟨w4.heap.size, 1, none⟩ = some (.int .i64 y2) := E.cell (t := 32) (cs := #[.int .i64 y1, .int .i64 y2, .int .i64 y3]) (by simp) 1
      have uu2 : w11.cell? ⟨w4.heap.size, 2, none⟩ = some (.int .i64 y3) := E.cell (t := 32) (cs := #[.int .i64 y1, .int .i64 y2, .int .i64 y3]) (by simp) 2
      have bbL : w3.heap.size < w11.heap.size := E.lt (t := 39) (cs := #[.int .i64 x1, .int .i64 x2, .int .i64 x3, .int .i64 x4]) (by simp)
      have bb0 : w11.cell? ⟨w3.heap.size, 0, none⟩ = some (.int .i64 x1) := E.cell (t := 39) (cs := #[.int .i64 x1, .int .i64 x2, .int .i64 x3, .int .i64 x4]) (by simp) 0
      have bb1 : w11.cell? ⟨w3.heap.size, 1, none⟩ = some (.int .i64 x2) := E.cell (t := 39) (cs := #[.int .i64 x1, .int .i64 x2, .int .i64 x3, .int .i64 x4]) (by simp) 1
      have bb2 : w11.cell? ⟨w3.heap.size, 2, none⟩ = some (.int .i64 x3) := E.cell (t := 39) (cs := #[.int .i64 x1, .int .i64 x2, .int .i64 x3, .int .i64 x4]) (by simp) 2
      have bb3 : w11.cell? ⟨w3.heap.size, 3, none⟩ = some (.int .i64 x4) := E.cell (t := 39) (cs := #[.int .i64 x1, .int .i64 x2, .int .i64 x3, .int .i64 x4]) (by simp) 3
      have ppL : w.heap.size + 1 < w11.heap.size := E.lt (t := 34) (cs := #[.int .i64 a, .int .i64 b]) (by simp)
      have pp0 : w11.cell? ⟨w.heap.size + 1, 0, none⟩ = some (.int .i64 a) := E.cell (t := 34) (cs := #[.int .i64 a, .int .i64 b]) (by simp) 0
      have pp1 : w11.cell? ⟨w.heap.size + 1, 1, none⟩ = some (.int .i64 b) := E.cell (t := 34) (cs := #[.int .i64 a, .int .i64 b]) (by simp) 1
      have ccL : w.heap.size < w11.heap.size := E.lt (t := 32) (cs := #[.int .i64 l, .int .i64 r, .int .i64 c]) (by simp)
      have cc0 : w11.cell? ⟨w.heap.size, 0, none⟩ = some (.int .i64 l) := E.cell (t := 32) (cs := #[.int .i64 l, .int .i64 r, .int .i64 c]) (by simp) 0
      have cc1 : w11.cell? ⟨w.heap.size, 1, none⟩ = some (.int .i64 r) := E.cell (t := 32) (cs := #[.int .i64 l, .int .i64 r, .int .i64 c]) (by simp) 1
      have cc2 : w11.cell? ⟨w.heap.size, 2, none⟩ = some (.int .i64 c) := E.cell (t := 32) (cs := #[.int .i64 l, .int .i64 r, .int .i64 c]) (by simp) 2
      obtain ⟨A9, c9, hv9, hr9, -, -⟩ := own_form hown
      subst hv9
      clear hown
      go_wp2_with fail
      (with_reducible refine (Same_any A5 A9 _ _ c5 c9 (kids l r c) (kids l r c) _ _ _ (hr5.below F.bl) hr9 (by simp [kids, maxLen]) (by simp [kids, maxLen])).mono ?_)
      rintro e wz ⟨rfl, nz, rfl⟩
      go_wp2
      go_ret
      exact ⟨ret_bool (by simp_all), bl_drewN E.1 _⟩
  · skip
    go_wp2_with fail
    (with_reducible refine (P1.out _).mono ?_)
    rintro e w6 ⟨rfl, hb⟩
    have E := E.call hb
    have F := F.call hb
    clear hb
    clear uuL uu0 uu1 uu2 bbL bb0 bb1 bb2 bb3 ppL pp0 pp1 ccL cc0 cc1 cc2
    have uuL : w4.heap.size < w6.heap.size := E.lt (t := 32) (cs := #[.int .i64 y1, .int .i64 y2, .int .i64 y3]) (by simp)
    have uu0 : w6.cell? ⟨w4.heap.size, 0, none⟩ = some (.int .i64 y1) := E.cell (t := 32) (cs := #[.int .i64 y1, .int .i64 y2, .int .i64 y3]) (by simp) 0
    have uu1 : w6.cell? ⟨w4.heap.size, 1, none⟩ = some (.int .i64 y2) := E.cell (t := 32) (cs := #[.int .i64 y1, .int .i64 y2, .int .i64 y3]) (by simp) 1
    have uu2 : w6.cell? ⟨w4.heap.size, 2, none⟩ = some (.int .i64 y3) := E.cell (t := 32) (cs := #[.int .i64 y1, .int .i64 y2, .int .i64 y3]) (by simp) 2
    have bbL : w3.heap.size < w6.heap.size := E.lt (t := 39) (cs := #[.int .i64 x1, .int .i64 x2, .int .i64 x3, .int .i64 x4]) (by simp)
    have bb0 : w6.cell? ⟨w3.heap.size, 0, none⟩ = some (.int .i64 x1) := E.cell (t := 39) (cs := #[.int .i64 x1, .int .i64 x2, .int .i64 x3, .int .i64 x4]) (by simp) 0
    have bb1 : w6.cell? ⟨w3.heap.size, 1, none⟩ = some (.int .i64 x2) := E.cell (t := 39) (cs := #[.int .i64 x1, .int .i64 x2, .int .i64 x3, .int .i64 x4]) (by simp) 1
    have bb2 : w6.cell? ⟨w3.heap.size, 2, none⟩ = some (.int .i64 x3) := E.cell (t := 39) (cs := #[.int .i64 x1, .int .i64 x2, .int .i64 x3, .int .i64 x4]) (by simp) 2
    have bb3 : w6.cell? ⟨w3.heap.size, 3, none⟩ = some (.int .i64 x4) := E.cell (t := 39) (cs := #[.int .i64 x1, .int .i64 x2, .int .i64 x3, .int .i64 x4]) (by simp) 3
    have ppL : w.heap.size + 1 < w6.heap.size := E.lt (t := 34) (cs := #[.int .i64 a, .int .i64 b]) (by simp)
    have pp0 : w6.cell? ⟨w.heap.size + 1, 0, none⟩ = some (.int .i64 a) := E.cell (t := 34) (cs := #[.int .i64 a, .int .i64 b]) (by simp) 0
    have pp1 : w6.cell? ⟨w.heap.size + 1, 1, none⟩ = some (.int .i64 b) := E.cell (t := 34) (cs := #[.int .i64 a, .int .i64 b]) (by simp) 1
    have ccL : w.heap.size < w6.heap.size := E.lt (t := 32) (cs := #[.int .i64 l, .int .i64 r, .int .i64 c]) (by simp)
    have cc0 : w6.cell? ⟨w.heap.size, 0, none⟩ = some (.int .i64 l) := E.cell (t := 32) (cs := #[.int .i64 l, .int .i64 r, .int .i64 c]) (by simp) 0
    have cc1 : w6.cell? ⟨w.heap.size, 1, none⟩ = some (.int .i64 r) := E.cell (t := 32) (cs := #[.int .i64 l, .int .i64 r, .int .i64 c]) (by simp) 1
    have cc2 : w6.cell? ⟨w.heap.size, 2, none⟩ = some (.int .i64 c) := E.cell (t := 32) (cs := #[.int .i64 l, .int .i64 r, .int .i64 c]) (by simp) 2
    have E := E.alloc 32 #[.int .i64 (l'), .int .i64 z2, .int .i64 z3] (w6.heap.size) (by simp)
    have F := F.alloc 32 #[.int .i64 (l'), .int .i64 z2, .int .i64 z3] (w6.heap.size) rfl
    go_wp2_with fail
    (with_reducible refine (H5.out _).mono ?_)
    rintro e w7 ⟨rfl, hb⟩
    have E := E.call hb
    have F := F.call hb
    clear hb
    clear uuL uu0 uu1 uu2 bbL bb0 bb1 bb2 bb3 ppL pp0 pp1 ccL cc0 cc1 cc2
    have ooL : w6.heap.size < w7.heap.size := E.lt (t := 32) (cs := #[.int .i64 (l'), .int .i64 z2, .int .i64 z3]) (by simp)
    have oo0 : w7.cell? ⟨w6.heap.size, 0, none⟩ = some (.int .i64 (l')) := E.cell (t := 32) (cs := #[.int .i64 (l'), .int .i64 z2, .int .i64 z3]) (by simp) 0
    have oo1 : w7.cell? ⟨w6.heap.size, 1, none⟩ = some (.int .i64 z2) := E.cell (t := 32) (cs := #[.int .i64 (l'), .int .i64 z2, .int .i64 z3]) (by simp) 1
    have oo2 : w7.cell? ⟨w6.heap.size, 2, none⟩ = some (.int .i64 z3) := E.cell (t := 32) (cs := #[.int .i64 (l'), .int .i64 z2, .int .i64 z3]) (by simp) 2
    have uuL : w4.heap.size < w7.heap.size := E.lt (t := 32) (cs := #[.int .i64 y1, .int .i64 y2, .int .i64 y3]) (by simp)
    have uu0 : w7.cell? ⟨w4.heap.size, 0, none⟩ = some (.int .i64 y1) := E.cell (t := 32) (cs := #[.int .i64 y1, .int .i64 y2, .int .i64 y3]) (by simp) 0
    have uu1 : w7.cell? ⟨w4.heap.size, 1, none⟩ = some (.int .i64 y2) := E.cell (t := 32) (cs := #[.int .i64 y1, .int .i64 y2, .int .i64 y3]) (by simp) 1
    have uu2 : w7.cell? ⟨w4.heap.size, 2, none⟩ = some (.int .i64 y3) := E.cell (t := 32) (cs := #[.int .i64 y1, .int .i64 y2, .int .i64 y3]) (by simp) 2
    have bbL : w3.heap.size < w7.heap.size := E.lt (t := 39) (cs := #[.int .i64 x1, .int .i64 x2, .int .i64 x3, .int .i64 x4]) (by simp)
    have bb0 : w7.cell? ⟨w3.heap.size, 0, none⟩ = some (.int .i64 x1) := E.cell (t := 39) (cs := #[.int .i64 x1, .int .i64 x2, .int .i64 x3, .int .i64 x4]) (by simp) 0
    have bb1 : w7.cell? ⟨w3.heap.size, 1, none⟩ = some (.int .i64 x2) := E.cell (t := 39) (cs := #[.int .i64 x1, .int .i64 x2, .int .i64 x3, .int .i64 x4]) (by simp) 1
    have bb2 : w7.cell? ⟨w3.heap.size, 2, none⟩ = some (.int .i64 x3) := E.cell (t := 39) (cs := #[.int .i64 x1, .int .i64 x2, .int .i64 x3, .int .i64 x4]) (by simp) 2
    have bb3 : w7.cell? ⟨w3.heap.size, 3, none⟩ = some (.int .i64 x4) := E.cell (t := 39) (cs := #[.int .i64 x1, .int .i64 x2, .int .i64 x3, .int .i64 x4]) (by simp) 3
    have ppL : w.heap.size + 1 < w7.heap.size := E.lt (t := 34) (cs := #[.int .i64 a, .int .i64 b]) (by simp)
    have pp0 : w7.cell? ⟨w.heap.size + 1, 0, none⟩ = some (.int .i64 a) := E.cell (t := 34) (cs := #[.int .i64 a, .int .i64 b]) (by simp) 0
    have pp1 : w7.cell? ⟨w.heap.size + 1, 1, none⟩ = some (.int .i64 b) := E.cell (t := 34) (cs := #[.int .i64 a, .int .i64 b]) (by simp) 1
    have ccL : w.heap.size < w7.heap.size := E.lt (t := 32) (cs := #[.int .i64 l, .int .i64 r, .int .i64 c]) (by simp)
    have cc0 : w7.cell? ⟨w.heap.size, 0, none⟩ = some (.int .i64 l) := E.cell (t := 32) (cs := #[.int .i64 l, .int .i64 r, .int .i64 c]) (by simp) 0
    have cc1 : w7.cell? ⟨w.heap.size, 1, none⟩ = some (.int .i64 r) := E.cell (t := 32) (cs := #[.int .i64 l, .int .i64 r, .int .i64 c]) (by simp) 1
    have cc2 : w7.cell? ⟨w.heap.size, 2, none⟩ = some (.int .i64 c) := E.cell (t := 32) (cs := #[.int .i64 l, .int .i64 r, .int .i64 c]) (by simp) 2
    go_wp2_with fail
    (with_reducible refine (P2.out _).mono ?_)
    rintro e w8 ⟨rfl, hb⟩
    have E := E.call hb
    have F := F.call hb
    clear hb
    clear ooL oo0 oo1 oo2 uuL uu0 uu1 uu2 bbL bb0 bb1 bb2 bb3 ppL pp0 pp1 ccL cc0 cc1 cc2
    have ooL : w6.heap.size < w8.heap.size := E.lt (t := 32) (cs := #[.int .i64 (l'), .int .i64 z2, .int .i64 z3]) (by simp)
    have oo0 : w8.cell? ⟨w6.heap.size, 0, none⟩ = some (.int .i64 (l')) := E.cell (t := 32) (cs := #[.int .i64 (l'), .int .i64 z2, .int .i64 z3]) (by simp) 0
    have oo1 : w8.cell? ⟨w6.heap.size, 1, none⟩ = some (.int .i64 z2) := E.cell (t := 32) (cs := #[.int .i64 (l'), .int .i64 z2, .int .i64 z3]) (by simp) 1
    have oo2 : w8.cell? ⟨w6.heap.size, 2, none⟩ = some (.int .i64 z3) := E.cell (t := 32) (cs := #[.int .i64 (l'), .int .i64 z2, .int .i64 z3]) (by simp) 2
    have uuL : w4.heap.size < w8.heap.size := E.lt (t := 32) (cs := #[.int .i64 y1, .int .i64 y2, .int .i64 y3]) (by simp)
    have uu0 : w8.cell? ⟨w4.heap.size, 0, none⟩ = some (.int .i64 y1) := E.cell (t := 32) (cs := #[.int .i64 y1, .int .i64 y2, .int .i64 y3]) (by simp) 0
    have uu1 : w8.cell? ⟨w4.heap.size, 1, none⟩ = some (.int .i64 y2) := E.cell (t := 32) (cs := #[.int .i64 y1, .int .i64 y2, .int .i64 y3]) (by simp) 1
    have uu2 : w8.cell? ⟨w4.heap.size, 2, none⟩ = some (.int .i64 y3) := E.cell (t := 32) (cs := #[.int .i64 y1, .int .i64 y2, .int .i64 y3]) (by simp) 2
    have bbL : w3.heap.size < w8.heap.size := E.lt (t := 39) (cs := #[.int .i64 x1, .int .i64 x2, .int .i64 x3, .int .i64 x4]) (by simp)
    have bb0 : w8.cell? ⟨w3.heap.size, 0, none⟩ = some (.int .i64 x1) := E.cell (t := 39) (cs := #[.int .i64 x1, .int .i64 x2, .int .i64 x3, .int .i64 x4]) (by simp) 0
    have bb1 : w8.cell? ⟨w3.heap.size, 1, none⟩ = some (.int .i64 x2) := E.cell (t := 39) (cs := #[.int .i64 x1, .int .i64 x2, .int .i64 x3, .int .i64 x4]) (by simp) 1
    have bb2 : w8.cell? ⟨w3.heap.size, 2, none⟩ = some (.int .i64 x3) := E.cell (t := 39) (cs := #[.int .i64 x1, .int .i64 x2, .int .i64 x3, .int .i64 x4]) (by simp) 2
    have bb3 : w8.cell? ⟨w3.heap.size, 3, none⟩ = some (.int .i64 x4) := E.cell (t := 39) (cs := #[.int .i64 x1, .int .i64 x2, .int .i64 x3, .int .i64 x4]) (by simp) 3
    have ppL : w.heap.size + 1 < w8.heap.size := E.lt (t := 34) (cs := #[.int .i64 a, .int .i64 b]) (by simp)
    have pp0 : w8.cell? ⟨w.heap.size + 1, 0, none⟩ = some (.int .i64 a) := E.cell (t := 34) (cs := #[.int .i64 a, .int .i64 b]) (by simp) 0
    have pp1 : w8.cell? ⟨w.heap.size + 1, 1, none⟩ = some (.int .i64 b) := E.cell (t := 34) (cs := #[.int .i64 a, .int .i64 b]) (by simp) 1
    have ccL : w.heap.size < w8.heap.size := E.lt (t := 32) (cs := #[.int .i64 l, .int .i64 r, .int .i64 c]) (by simp)
    have cc0 : w8.cell? ⟨w.heap.size, 0, none⟩ = some (.int .i64 l) := E.cell (t := 32) (cs := #[.int .i64 l, .int .i64 r, .int .i64 c]) (by simp) 0
    have cc1 : w8.cell? ⟨w.heap.size, 1, none⟩ = some (.int .i64 r) := E.cell (t := 32) (cs := #[.int .i64 l, .int .i64 r, .int .i64 c]) (by simp) 1
    have cc2 : w8.cell? ⟨w.heap.size, 2, none⟩ = some (.int .i64 c) := E.cell (t := 32) (cs := #[.int .i64 l, .int .i64 r, .int .i64 c]) (by simp) 2
    go_wp2
    go_region_held3 (fun w' => w'.cell? ⟨w6.heap.size, 0, none⟩ = some (.int .i64 (l')) ∧ w'.cell? ⟨w6.heap.size, 1, none⟩ = some (.int .i64 z2) ∧ w'.cell? ⟨w6.heap.size, 2, none⟩ = some (.int .i64 z3) ∧ w'.cell? ⟨w.heap.size + 1, 0, none⟩ = some (.int .i64 a) ∧ w'.cell? ⟨w.heap.size + 1, 1, none⟩ = some (.int .i64 b)) (first | exact ⟨oo0, oo1, oo2, pp0, pp1⟩ | exact ⟨soo0, soo1, soo2, spp0, spp1⟩) (first | (go_at_call 26; refine (P3.out _).mono ?_; rintro e w9 ⟨rfl, hb⟩; have soo0 := (hb.cell (p := ⟨w6.heap.size, 0, none⟩) ooL).trans oo0; have soo1 := (hb.cell (p := ⟨w6.heap.size, 1, none⟩) ooL).trans oo1; have soo2 := (hb.cell (p := ⟨w6.heap.size, 2, none⟩) ooL).trans oo2; have spp0 := (hb.cell (p := ⟨w.heap.size + 1, 0, none⟩) ppL).trans pp0; have spp1 := (hb.cell (p := ⟨w.heap.size + 1, 1, none⟩) ppL).trans pp1))
    have E := (E.drew).call hb
    have F := (F.drew).call hb
    clear hb
    clear soo0 soo1 soo2 spp0 spp1
    clear ooL oo0 oo1 oo2 uuL uu0 uu1 uu2 bbL bb0 bb1 bb2 bb3 ppL pp0 pp1 ccL cc0 cc1 cc2
    have ooL : w6.heap.size < w9.heap.size := E.lt (t := 32) (cs := #[.int .i64 (l'), .int .i64 z2, .int .i64 z3]) (by simp)
    have oo0 : w9.cell? ⟨w6.heap.size, 0, none⟩ = some (.int .i64 (l')) := E.cell (t := 32) (cs := #[.int .i64 (l'), .int .i64 z2, .int .i64 z3]) (by simp) 0
    have oo1 : w9.cell? ⟨w6.heap.size, 1, none⟩ = some (.int .i64 z2) := E.cell (t := 32) (cs := #[.int .i64 (l'), .int .i64 z2, .int .i64 z3]) (by simp) 1
    have oo2 : w9.cell? ⟨w6.heap.size, 2, none⟩ = some (.int .i64 z3) := E.cell (t := 32) (cs := #[.int .i64 (l'), .int .i64 z2, .int .i64 z3]) (by simp) 2
    have uuL : w4.heap.size < w9.heap.size := E.lt (t := 32) (cs := #[.int .i64 y1, .int .i64 y2, .int .i64 y3]) (by simp)
    have uu0 : w9.cell? ⟨w4.heap.size, 0, none⟩ = some (.int .i64 y1) := E.cell (t := 32) (cs := #[.int .i64 y1, .int .i64 y2, .int .i64 y3]) (by simp) 0
    have uu1 : w9.cell? ⟨w4.heap.size, 1, none⟩ = some (.int .i64 y2) := E.cell (t := 32) (cs := #[.int .i64 y1, .int .i64 y2, .int .i64 y3]) (by simp) 1
    have uu2 : w9.cell? ⟨w4.heap.size, 2, none⟩ = some (.int .i64 y3) := E.cell (t := 32) (cs := #[.int .i64 y1, .int .i64 y2, .int .i64 y3]) (by simp) 2
    have bbL : w3.heap.size < w9.heap.size := E.lt (t := 39) (cs := #[.int .i64 x1, .int .i64 x2, .int .i64 x3, .int .i64 x4]) (by simp)
    have bb0 : w9.cell? ⟨w3.heap.size, 0, none⟩ = some (.int .i64 x1) := E.cell (t := 39) (cs := #[.int .i64 x1, .int .i64 x2, .int .i64 x3, .int .i64 x4]) (by simp) 0
    have bb1 : w9.cell? ⟨w3.heap.size, 1, none⟩ = some (.int .i64 x2) := E.cell (t := 39) (cs := #[.int .i64 x1, .int .i64 x2, .int .i64 x3, .int .i64 x4]) (by simp) 1
    have bb2 : w9.cell? ⟨w3.heap.size, 2, none⟩ = some (.int .i64 x3) := E.cell (t := 39) (cs := #[.int .i64 x1, .int .i64 x2, .int .i64 x3, .int .i64 x4]) (by simp) 2
    have bb3 : w9.cell? ⟨w3.heap.size, 3, none⟩ = some (.int .i64 x4) := E.cell (t := 39) (cs := #[.int .i64 x1, .int .i64 x2, .int .i64 x3, .int .i64 x4]) (by simp) 3
    have ppL : w.heap.size + 1 < w9.heap.size := E.lt (t := 34) (cs := #[.int .i64 a, .int .i64 b]) (by simp)
    have pp0 : w9.cell? ⟨w.heap.size + 1, 0, none⟩ = some (.int .i64 a) := E.cell (t := 34) (cs := #[.int .i64 a, .int .i64 b]) (by simp) 0
    have pp1 : w9.cell? ⟨w.heap.size + 1, 1, none⟩ = some (.int .i64 b) := E.cell (t := 34) (cs := #[.int .i64 a, .int .i64 b]) (by simp) 1
    have ccL : w.heap.size < w9.heap.size := E.lt (t := 32) (cs := #[.int .i64 l, .int .i64 r, .int .i64 c]) (by simp)
    have cc0 : w9.cell? ⟨w.heap.size, 0, none⟩ = some (.int .i64 l) := E.cell (t := 32) (cs := #[.int .i64 l, .int .i64 r, .int .i64 c]) (by simp) 0
    have cc1 : w9.cell? ⟨w.heap.size, 1, none⟩ = some (.int .i64 r) := E.cell (t := 32) (cs := #[.int .i64 l, .int .i64 r, .int .i64 c]) (by simp) 1
    have cc2 : w9.cell? ⟨w.heap.size, 2, none⟩ = some (.int .i64 c) := E.cell (t := 32) (cs := #[.int .i64 l, .int .i64 r, .int .i64 c]) (by simp) 2
    go_wp2
    go_region_held3 (fun w' => w'.cell? ⟨w3.heap.size, 0, none⟩ = some (.int .i64 x1) ∧ w'.cell? ⟨w3.heap.size, 1, none⟩ = some (.int .i64 x2) ∧ w'.cell? ⟨w3.heap.size, 2, none⟩ = some (.int .i64 x3) ∧ w'.cell? ⟨w3.heap.size, 3, none⟩ = some (.int .i64 x4) ∧ w'.cell? ⟨w.heap.size, 0, none⟩ = some (.int .i64 l) ∧ w'.cell? ⟨w.heap.size, 1, none⟩ = some (.int .i64 r) ∧ w'.cell? ⟨w.heap.size, 2, none⟩ = some (.int .i64 c)) (first | exact ⟨bb0, bb1, bb2, bb3, cc0, cc1, cc2⟩ | exact ⟨sbb0, sbb1, sbb2, sbb3, scc0, scc1, scc2⟩) (first | (go_at_call 27; refine (H6.out _).mono ?_; rintro e w10 ⟨rfl, hb⟩; have sbb0 := (hb.cell (p := ⟨w3.heap.size, 0, none⟩) bbL).trans bb0; have sbb1 := (hb.cell (p := ⟨w3.heap.size, 1, none⟩) bbL).trans bb1; have sbb2 := (hb.cell (p := ⟨w3.heap.size, 2, none⟩) bbL).trans bb2; have sbb3 := (hb.cell (p := ⟨w3.heap.size, 3, none⟩) bbL).trans bb3; have scc0 := (hb.cell (p := ⟨w.heap.size, 0, none⟩) ccL).trans cc0; have scc1 := (hb.cell (p := ⟨w.heap.size, 1, none⟩) ccL).trans cc1; have scc2 := (hb.cell (p := ⟨w.heap.size, 2, none⟩) ccL).trans cc2))
    have E := (E.drew).call hb
    have F := (F.drew).call hb
    clear hb
    clear sbb0 sbb1 sbb2 sbb3 scc0 scc1 scc2
    clear ooL oo0 oo1 oo2 uuL uu0 uu1 uu2 bbL bb0 bb1 bb2 bb3 ppL pp0 pp1 ccL cc0 cc1 cc2
    have ooL : w6.heap.size < w10.heap.size := E.lt (t := 32) (cs := #[.int .i64 (l'), .int .i64 z2, .int .i64 z3]) (by simp)
    have oo0 : w10.cell? ⟨w6.heap.size, 0, none⟩ = some (.int .i64 (l')) := E.cell (t := 32) (cs := #[.int .i64 (l'), .int .i64 z2, .int .i64 z3]) (by simp) 0
    have oo1 : w10.cell? ⟨w6.heap.size, 1, none⟩ = some (.int .i64 z2) := E.cell (t := 32) (cs := #[.int .i64 (l'), .int .i64 z2, .int .i64 z3]) (by simp) 1
    have oo2 : w10.cell? ⟨w6.heap.size, 2, none⟩ = some (.int .i64 z3) := E.cell (t := 32) (cs := #[.int .i64 (l'), .int .i64 z2, .int .i64 z3]) (by simp) 2
    have uuL : w4.heap.size < w10.heap.size := E.lt (t := 32) (cs := #[.int .i64 y1, .int .i64 y2, .int .i64 y3]) (by simp)
    have uu0 : w10.cell? ⟨w4.heap.size, 0, none⟩ = some (.int .i64 y1) := E.cell (t := 32) (cs := #[.int .i64 y1, .int .i64 y2, .int .i64 y3]) (by simp) 0
    have uu1 : w10.cell? ⟨w4.heap.size, 1, none⟩ = some (.int .i64 y2) := E.cell (t := 32) (cs := #[.int .i64 y1, .int .i64 y2, .int .i64 y3]) (by simp) 1
    have uu2 : w10.cell? ⟨w4.heap.size, 2, none⟩ = some (.int .i64 y3) := E.cell (t := 32) (cs := #[.int .i64 y1, .int .i64 y2, .int .i64 y3]) (by simp) 2
    have bbL : w3.heap.size < w10.heap.size := E.lt (t := 39) (cs := #[.int .i64 x1, .int .i64 x2, .int .i64 x3, .int .i64 x4]) (by simp)
    have bb0 : w10.cell? ⟨w3.heap.size, 0, none⟩ = some (.int .i64 x1) := E.cell (t := 39) (cs := #[.int .i64 x1, .int .i64 x2, .int .i64 x3, .int .i64 x4]) (by simp) 0
    have bb1 : w10.cell? ⟨w3.heap.size, 1, none⟩ = some (.int .i64 x2) := E.cell (t := 39) (cs := #[.int .i64 x1, .int .i64 x2, .int .i64 x3, .int .i64 x4]) (by simp) 1
    have bb2 : w10.cell? ⟨w3.heap.size, 2, none⟩ = some (.int .i64 x3) := E.cell (t := 39) (cs := #[.int .i64 x1, .int .i64 x2, .int .i64 x3, .int .i64 x4]) (by simp) 2
    have bb3 : w10.cell? ⟨w3.heap.size, 3, none⟩ = some (.int .i64 x4) := E.cell (t := 39) (cs := #[.int .i64 x1, .int .i64 x2, .int .i64 x3, .int .i64 x4]) (by simp) 3
    have ppL : w.heap.size + 1 < w10.heap.size := E.lt (t := 34) (cs := #[.int .i64 a, .int .i64 b]) (by simp)
    have pp0 : w10.cell? ⟨w.heap.size + 1, 0, none⟩ = some (.int .i64 a) := E.cell (t := 34) (cs := #[.int .i64 a, .int .i64 b]) (by simp) 0
    have pp1 : w10.cell? ⟨w.heap.size + 1, 1, none⟩ = some (.int .i64 b) := E.cell (t := 34) (cs := #[.int .i64 a, .int .i64 b]) (by simp) 1
    have ccL : w.heap.size < w10.heap.size := E.lt (t := 32) (cs := #[.int .i64 l, .int .i64 r, .int .i64 c]) (by simp)
    have cc0 : w10.cell? ⟨w.heap.size, 0, none⟩ = some (.int .i64 l) := E.cell (t := 32) (cs := #[.int .i64 l, .int .i64 r, .int .i64 c]) (by simp) 0
    have cc1 : w10.cell? ⟨w.heap.size, 1, none⟩ = some (.int .i64 r) := E.cell (t := 32) (cs := #[.int .i64 l, .int .i64 r, .int .i64 c]) (by simp) 1
    have cc2 : w10.cell? ⟨w.heap.size, 2, none⟩ = some (.int .i64 c) := E.cell (t := 32) (cs := #[.int .i64 l, .int .i64 r, .int .i64 c]) (by simp) 2
    go_wp2
    go_region_held3 (fun w' => w'.cell? ⟨w4.heap.size, 0, none⟩ = some (.int .i64 y1) ∧ w'.cell? ⟨w4.heap.size, 1, none⟩ = some (.int .i64 y2) ∧ w'.cell? ⟨w4.heap.size, 2, none⟩ = some (.int .i64 y3) ∧ w'.cell? ⟨w.heap.size, 0, none⟩ = some (.int .i64 l) ∧ w'.cell? ⟨w.heap.size, 1, none⟩ = some (.int .i64 r) ∧ w'.cell? ⟨w.heap.size, 2, none⟩ = some (.int .i64 c)) (first | exact ⟨uu0, uu1, uu2, cc0, cc1, cc2⟩ | exact ⟨suu0, suu1, suu2, scc0, scc1, scc2⟩) (first | (go_at_call 28; refine (H7.out _).mono ?_; rintro e w11 ⟨rfl, hb⟩; have suu0 := (hb.cell (p := ⟨w4.heap.size, 0, none⟩) uuL).trans uu0; have suu1 := (hb.cell (p := ⟨w4.heap.size, 1, none⟩) uuL).trans uu1; have suu2 := (hb.cell (p := ⟨w4.heap.size, 2, none⟩) uuL).trans uu2; have scc0 := (hb.cell (p := ⟨w.heap.size, 0, none⟩) ccL).trans cc0; have scc1 := (hb.cell (p := ⟨w.heap.size, 1, none⟩) ccL).trans cc1; have scc2 := (hb.cell (p := ⟨w.heap.size, 2, none⟩) ccL).trans cc2))
    have E := (E.drew).call hb
    have F := (F.drew).call hb
    clear hb
    clear suu0 suu1 suu2 scc0 scc1 scc2
    clear ooL oo0 oo1 oo2 uuL uu0 uu1 uu2 bbL bb0 bb1 bb2 bb3 ppL pp0 pp1 ccL cc0 cc1 cc2
    have ooL : w6.heap.size < w11.heap.size := E.lt (t := 32) (cs := #[.int .i64 (l'), .int .i64 z2, .int .i64 z3]) (by simp)
    have oo0 : w11.cell? ⟨w6.heap.size, 0, none⟩ = some (.int .i64 (l')) := E.cell (t := 32) (cs := #[.int .i64 (l'), .int .i64 z2, .int .i64 z3]) (by simp) 0
    have oo1 : w11.cell? ⟨w6.heap.size, 1, none⟩ = some (.int .i64 z2) := E.cell (t := 32) (cs := #[.int .i64 (l'), .int .i64 z2, .int .i64 z3]) (by simp) 1
    have oo2 : w11.cell? ⟨w6.heap.size, 2, none⟩ = some (.int .i64 z3) := E.cell (t := 32) (cs := #[.int .i64 (l'), .int .i64 z2, .int .i64 z3]) (by simp) 2
    have uuL : w4.heap.size < w11.heap.size := E.lt (t := 32) (cs := #[.int .i64 y1, .int .i64 y2, .int .i64 y3]) (by simp)
    have uu0 : w11.cell? ⟨w4.heap.size, 0, none⟩ = some (.int .i64 y1) := E.cell (t := 32) (cs := #[.int .i64 y1, .int .i64 y2, .int .i64 y3]) (by simp) 0
    have uu1 : w11.cell? ⟨w4.heap.size, 1, none⟩ = some (.int .i64 y2) := E.cell (t := 32) (cs := #[.int .i64 y1, .int .i64 y2, .int .i64 y3]) (by simp) 1
    have uu2 : w11.cell? ⟨w4.heap.size, 2, none⟩ = some (.int .i64 y3) := E.cell (t := 32) (cs := #[.int .i64 y1, .int .i64 y2, .int .i64 y3]) (by simp) 2
    have bbL : w3.heap.size < w11.heap.size := E.lt (t := 39) (cs := #[.int .i64 x1, .int .i64 x2, .int .i64 x3, .int .i64 x4]) (by simp)
    have bb0 : w11.cell? ⟨w3.heap.size, 0, none⟩ = some (.int .i64 x1) := E.cell (t := 39) (cs := #[.int .i64 x1, .int .i64 x2, .int .i64 x3, .int .i64 x4]) (by simp) 0
    have bb1 : w11.cell? ⟨w3.heap.size, 1, none⟩ = some (.int .i64 x2) := E.cell (t := 39) (cs := #[.int .i64 x1, .int .i64 x2, .int .i64 x3, .int .i64 x4]) (by simp) 1
    have bb2 : w11.cell? ⟨w3.heap.size, 2, none⟩ = some (.int .i64 x3) := E.cell (t := 39) (cs := #[.int .i64 x1, .int .i64 x2, .int .i64 x3, .int .i64 x4]) (by simp) 2
    have bb3 : w11.cell? ⟨w3.heap.size, 3, none⟩ = some (.int .i64 x4) := E.cell (t := 39) (cs := #[.int .i64 x1, .int .i64 x2, .int .i64 x3, .int .i64 x4]) (by simp) 3
    have ppL : w.heap.size + 1 < w11.heap.size := E.lt (t := 34) (cs := #[.int .i64 a, .int .i64 b]) (by simp)
    have pp0 : w11.cell? ⟨w.heap.size + 1, 0, none⟩ = some (.int .i64 a) := E.cell (t := 34) (cs := #[.int .i64 a, .int .i64 b]) (by simp) 0
    have pp1 : w11.cell? ⟨w.heap.size + 1, 1, none⟩ = some (.int .i64 b) := E.cell (t := 34) (cs := #[.int .i64 a, .int .i64 b]) (by simp) 1
    have ccL : w.heap.size < w11.heap.size := E.lt (t := 32) (cs := #[.int .i64 l, .int .i64 r, .int .i64 c]) (by simp)
    have cc0 : w11.cell? ⟨w.heap.size, 0, none⟩ = some (.int .i64 l) := E.cell (t := 32) (cs := #[.int .i64 l, .int .i64 r, .int .i64 c]) (by simp) 0
    have cc1 : w11.cell? ⟨w.heap.size, 1, none⟩ = some (.int .i64 r) := E.cell (t := 32) (cs := #[.int .i64 l, .int .i64 r, .int .i64 c]) (by simp) 1
    have cc2 : w11.cell? ⟨w.heap.size, 2, none⟩ = some (.int .i64 c) := E.cell (t := 32) (cs := #[.int .i64 l, .int .i64 r, .int .i64 c]) (by simp) 2
    go_wp2_with fail
    (with_reducible refine (H8.out _).mono ?_)
    rintro e w12 ⟨v9, rfl, hown, hb⟩
    have E := E.call hb
    have F := F.call hb
    clear hb
    clear ooL oo0 oo1 oo2 uuL uu0 uu1 uu2 bbL bb0 bb1 bb2 bb3 ppL pp0 pp1 ccL cc0 cc1 cc2
    have ooL : w6.heap.size < w12.heap.size := E.lt (t := 32) (cs := #[.int .i64 (l'), .int .i64 z2, .int .i64 z3]) (by simp)
    have oo0 : w12.cell? ⟨w6.heap.size, 0, none⟩ = some (.int .i64 (l')) := E.cell (t := 32) (cs := #[.int .i64 (l'), .int .i64 z2, .int .i64 z3]) (by simp) 0
    have oo1 : w12.cell? ⟨w6.heap.size, 1, none⟩ = some (.int .i64 z2) := E.cell (t := 32) (cs := #[.int .i64 (l'), .int .i64 z2, .int .i64 z3]) (by simp) 1
    have oo2 : w12.cell? ⟨w6.heap.size, 2, none⟩ = some (.int .i64 z3) := E.cell (t := 32) (cs := #[.int .i64 (l'), .int .i64 z2, .int .i64 z3]) (by simp) 2
    have uuL : w4.heap.size < w12.heap.size := E.lt (t := 32) (cs := #[.int .i64 y1, .int .i64 y2, .int .i64 y3]) (by simp)
    have uu0 : w12.cell? ⟨w4.heap.size, 0, none⟩ = some (.int .i64 y1) := E.cell (t := 32) (cs := #[.int .i64 y1, .int .i64 y2, .int .i64 y3]) (by simp) 0
    have uu1 : w12.cell? ⟨w4.heap.size, 1, none⟩ = some (.int .i64 y2) := E.cell (t := 32) (cs := #[.int .i64 y1, .int .i64 y2, .int .i64 y3]) (by simp) 1
    have uu2 : w12.cell? ⟨w4.heap.size, 2, none⟩ = some (.int .i64 y3) := E.cell (t := 32) (cs := #[.int .i64 y1, .int .i64 y2, .int .i64 y3]) (by simp) 2
    have bbL : w3.heap.size < w12.heap.size := E.lt (t := 39) (cs := #[.int .i64 x1, .int .i64 x2, .int .i64 x3, .int .i64 x4]) (by simp)
    have bb0 : w12.cell? ⟨w3.heap.size, 0, none⟩ = some (.int .i64 x1) := E.cell (t := 39) (cs := #[.int .i64 x1, .int .i64 x2, .int .i64 x3, .int .i64 x4]) (by simp) 0
    have bb1 : w12.cell? ⟨w3.heap.size, 1, none⟩ = some (.int .i64 x2) := E.cell (t := 39) (cs := #[.int .i64 x1, .int .i64 x2, .int .i64 x3, .int .i64 x4]) (by simp) 1
    have bb2 : w12.cell? ⟨w3.heap.size, 2, none⟩ = some (.int .i64 x3) := E.cell (t := 39) (cs := #[.int .i64 x1, .int .i64 x2, .int .i64 x3, .int .i64 x4]) (by simp) 2
    have bb3 : w12.cell? ⟨w3.heap.size, 3, none⟩ = some (.int .i64 x4) := E.cell (t := 39) (cs := #[.int .i64 x1, .int .i64 x2, .int .i64 x3, .int .i64 x4]) (by simp) 3
    have ppL : w.heap.size + 1 < w12.heap.size := E.lt (t := 34) (cs := #[.int .i64 a, .int .i64 b]) (by simp)
    have pp0 : w12.cell? ⟨w.heap.size + 1, 0, none⟩ = some (.int .i64 a) := E.cell (t := 34) (cs := #[.int .i64 a, .int .i64 b]) (by simp) 0
    have pp1 : w12.cell? ⟨w.heap.size + 1, 1, none⟩ = some (.int .i64 b) := E.cell (t := 34) (cs := #[.int .i64 a, .int .i64 b]) (by simp) 1
    have ccL : w.heap.size < w12.heap.size := E.lt (t := 32) (cs := #[.int .i64 l, .int .i64 r, .int .i64 c]) (by simp)
    have cc0 : w12.cell? ⟨w.heap.size, 0, none⟩ = some (.int .i64 l) := E.cell (t := 32) (cs := #[.int .i64 l, .int .i64 r, .int .i64 c]) (by simp) 0
    have cc1 : w12.cell? ⟨w.heap.size, 1, none⟩ = some (.int .i64 r) := E.cell (t := 32) (cs := #[.int .i64 l, .int .i64 r, .int .i64 c]) (by simp) 1
    have cc2 : w12.cell? ⟨w.heap.size, 2, none⟩ = some (.int .i64 c) := E.cell (t := 32) (cs := #[.int .i64 l, .int .i64 r, .int .i64 c]) (by simp) 2
    obtain ⟨A9, c9, hv9, hr9, -, -⟩ := own_form hown
    subst hv9
    clear hown
    go_wp2_with fail
    (with_reducible refine (Same_any A5 A9 _ _ c5 c9 (kids l r c) (kids l r c) _ _ _ (hr5.below F.bl) hr9 (by simp [kids, maxLen]) (by simp [kids, maxLen])).mono ?_)
    rintro e wz ⟨rfl, nz, rfl⟩
    go_wp2
    go_ret
    exact ⟨ret_bool (by simp_all), bl_drewN E.1 _⟩
end Go.Proofs.Ytlglalemhfjmhaa
