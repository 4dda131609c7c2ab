/- The walk of layer 52's law on spreads. -/
import Derived.Test.YtfeianjdedgdoaaGBl
import Derived.Test.YtfeianjdedgdoaaGBn
set_option linter.unusedVariables false
set_option linter.unusedSimpArgs false
namespace Go.Proofs.Ytfeianjdedgdoaa
open Go.RowKit Go.Shelf Spd
--BEGIN
def SpI13 (W2 : World) (x0 x1 x2 x3 x4 x5 x6 x7 x8 x9 x10 : Value) (v : Nat → Int × Int) (a : Act) (L : Nat → Bool) (a' : Act) (w' : World) : Prop :=
  ∃ (v64 v65 v66 v67 v68 v69 v70 v71 v72 v73 v74 v12 : Value) (g : Nat → Nat), a' = ((((((((((((a.put (some 64) v64).put (some 65) v65).put (some 66) v66).put (some 67) v67).put (some 68) v68).put (some 69) v69).put (some 70) v70).put (some 71) v71).put (some 72) v72).put (some 73) v73).put (some 74) v74).put (some 12) v12) ∧ MI W2 w' L 1 11 12 g v ∧
    (L 0 = true → v64 = x0) ∧ (L 1 = true → v65 = x1) ∧ (L 2 = true → v66 = x2) ∧ (L 3 = true → v67 = x3) ∧ (L 4 = true → v68 = x4) ∧ (L 5 = true → v69 = x5) ∧ (L 6 = true → v70 = x6) ∧ (L 7 = true → v71 = x7) ∧ (L 8 = true → v72 = x8) ∧ (L 9 = true → v73 = x9) ∧ (L 10 = true → v74 = x10) ∧ (L 11 = true → v12 = .pointer (some ⟨g 0, 0, none⟩))
theorem SpI13.start (W2 : World) (x0 x1 x2 x3 x4 x5 x6 x7 x8 x9 x10 : Value) (v : Nat → Int × Int) (a : Act) : SpI13 W2 x0 x1 x2 x3 x4 x5 x6 x7 x8 x9 x10 v a (fun _ => false) a W2.drew :=
  ⟨_, _, _, _, _, _, _, _, _, _, _, _, fun _ => 0, by rw [putQ_self a 64, putQ_self a 65, putQ_self a 66, putQ_self a 67, putQ_self a 68, putQ_self a 69, putQ_self a 70, putQ_self a 71, putQ_self a 72, putQ_self a 73, putQ_self a 74, putQ_self a 12], MI.start W2 1 11 12 _ v, fun h => (by cases h), fun h => (by cases h), fun h => (by cases h), fun h => (by cases h), fun h => (by cases h), fun h => (by cases h), fun h => (by cases h), fun h => (by cases h), fun h => (by cases h), fun h => (by cases h), fun h => (by cases h), fun h => (by cases h)⟩
def SpI14 (W2 : World) (sl : Value) (n : Nat) (D : List Sp) (h : Int) (a : Act) (L : Nat → Bool) (a' : Act) (w' : World) : Prop :=
  ∃ v76 v77 v78 v79 v80 v81 v75 v82 v83 v13 v14 : Value, a' = (((((((((((a.put (some 76) v76).put (some 77) v77).put (some 78) v78).put (some 79) v79).put (some 80) v80).put (some 81) v81).put (some 75) v75).put (some 82) v82).put (some 83) v83).put (some 13) v13).put (some 14) v14) ∧ Below W2.heap.size W2 w' ∧
    (L 0 = true → v76 = sl) ∧ (L 1 = true → L 4 = false → w'.ownsRow W2.heap.size 26 2 v77 n (aqvs D)) ∧ (L 2 = true → v78 = .agg #[.int .i64 h, .int .i64 h]) ∧ (L 3 = true → L 4 = false → ∃ g, v79 = .slice (some ⟨g, 0, none⟩) 1 1 ∧ Blk w' g 26 #[.int .i64 h, .int .i64 h]) ∧ (L 4 = true → ∃ A c, v80 = .slice A (n + 1) c ∧ Reads w' w'.heap.size 2 A (n + 1) (aqvs (D ++ [(h, h)])) ∧ n + 1 ≤ c ∧ c ≤ maxLen) ∧ (L 5 = true → v81 = .tuple #[.int .i64 0, .int .i64 0]) ∧ (L 6 = true → v75 = .tuple #[.int .i64 0, .int .i64 0]) ∧ (L 7 = true → v82 = .int .i64 0) ∧ (L 8 = true → v83 = .int .i64 0) ∧ (L 9 = true → v13 = .int .i64 0) ∧ (L 10 = true → v14 = .int .i64 0)
theorem SpI14.start (W2 : World) (sl : Value) (n : Nat) (D : List Sp) (h : Int) (a : Act) : SpI14 W2 sl n D h a (fun _ => false) a W2.drew :=
  ⟨_, _, _, _, _, _, _, _, _, _, _, by rw [putQ_self a 76, putQ_self a 77, putQ_self a 78, putQ_self a 79, putQ_self a 80, putQ_self a 81, putQ_self a 75, putQ_self a 82, putQ_self a 83, putQ_self a 13, putQ_self a 14], bl_drew (Below.refl _ _), fun h => (by cases h), fun h => (by cases h), fun h => (by cases h), fun h => (by cases h), fun h => (by cases h), fun h => (by cases h), fun h => (by cases h), fun h => (by cases h), fun h => (by cases h), fun h => (by cases h), fun h => (by cases h)⟩
theorem arc_reads {w : World} {g : Nat} {a : Int} (h : Blk w g 26 #[.int .i64 a, .int .i64 a]) : Reads w w.heap.size 2 (some ⟨g, 0, none⟩) 1 (aqvs [(a, a)]) := by
  refine ⟨rfl, fun _ => ⟨_, rfl, h.lt, fun j u hu => ?_⟩⟩
  rw [show ((⟨g, 0, none⟩ : Addr).add j) = ⟨g, j, none⟩ by simpa using Go.WideShapes.add_plain g 0 j, h.cell j]
  simpa [aqvs, aqv] using hu
theorem more_valid {L : List Sp} {h : Int} (hv : ∀ x ∈ L, avB x.1 x.2 = true) (h0 : -1099511627776 ≤ h) (h1 : h + 10800000 ≤ 1099511627776) : ∀ x ∈ L ++ [(h + 10800000, h + 10800000)], avB x.1 x.2 = true := by
  intro x hx
  rcases List.mem_append.1 hx with hx | hx
  · exact hv x hx
  · simp at hx
    subst hx
    exact avB_true.2 (by simp only []; omega)
theorem spd_more9 {L : List Sp} {n : Nat} {h : Int} (hl : L.length = n) (hn : 0 < n) (hh : (gs L 0).1 = h) (hv : (gs L 0).1 ≤ (gs L 0).2) : spd (L ++ [(h + 10800000, h + 10800000)]) (n + 1) = 0 := by
  subst hl hh
  exact spd_more L hn hv
/-- what the law makes of the arcs that have come -/
def tw (t : Int) (pre : List (Nat × Sp)) : List Sp := pre.map fun p => (wrap64 (p.2.1 + t), wrap64 (p.2.2 + t))
theorem tw_snoc (t : Int) (pre : List (Nat × Sp)) (x : Nat × Sp) : aqvs (tw t (pre ++ [x])) = aqvs (tw t pre) ++ [.int .i64 (wrap64 (x.2.1 + t)), .int .i64 (wrap64 (x.2.2 + t))] := by simp [tw, aqvs, aqv]
theorem far_of {L : List Sp} (hf : L.any farQ = false) {x : Sp} (hx : x ∈ L) : -1073741824 ≤ x.1 ∧ x.2 ≤ 1073741824 := by
  have := List.any_eq_false.1 hf x hx
  exact farQ_true.1 (by simpa using this)
theorem trn_valid {L : List Sp} {t : Int} (hv : ∀ x ∈ L, avB x.1 x.2 = true) (hf : L.any farQ = false) (t0 : -2147483648 ≤ t) (t1 : t ≤ 2147483647) : ∀ x ∈ trn L t, avB x.1 x.2 = true := by
  intro x hx
  simp only [trn, List.mem_map, List.mem_reverse] at hx
  obtain ⟨y, hy, rfl⟩ := hx
  have h1 := avB_true.1 (hv y hy)
  have h2 := far_of hf hy
  exact avB_true.2 (by simp only []; omega)
theorem tw_trn (L : List Sp) (n : Nat) (t : Int) (hl : L.length = n) (hv : ∀ x ∈ L, avB x.1 x.2 = true) (hf : L.any farQ = false) (t0 : -2147483648 ≤ t) (t1 : t ≤ 2147483647) : tw t (bk L n) = trn L t := by
  rw [← hl, ← bk_trn]
  refine List.map_congr_left fun p hp => ?_
  simp only [bk, List.mem_map, List.mem_range] at hp
  obtain ⟨j, hj, rfl⟩ := hp
  have hm : gs L (L.length - 1 - j) ∈ L := by simp [gs, show L.length - 1 - j < L.length by omega]
  have h1 := avB_true.1 (hv _ hm)
  have h2 := far_of hf hm
  simp only []
  rw [IntWalk.wrap64_in _ (by omega), IntWalk.wrap64_in _ (by omega)]
set_option maxHeartbeats 8000000 in
set_option maxRecDepth 100000 in
theorem spreadMain (A : Option Addr) (n c : Nat) (LL : List Sp) (t : Int) (w : World) (hr : Reads w w.heap.size 2 A n (aqvs LL)) (hc : n ≤ c) (hcm : c ≤ maxLen) (h2 : 2 ≤ n) (h8 : n ≤ 8) (hv : ∀ x ∈ LL, avB x.1 x.2 = true) (hf : LL.any farQ = false) (t0 : -2147483648 ≤ t) (t1 : t ≤ 2147483647) :
    Calls Try.prog 3 #[.slice A n c, .int .i32 t] w fun e w' => e = .returned (.bool true) ∧ Below w.heap.size w w' := by
  have hl := aq_len hr
  have RD := Lib.hid hr
  obtain ⟨b, off, rfl, hb, -, -⟩ := aq_elem hr (k := 0) (by omega)
  have X : Hid (∀ W, Below w.heap.size w W → ∀ k, k < n → W.cell? ⟨b, off + k * 2, none⟩ = some (.int .i64 (gs LL k).1) ∧ W.cell? ⟨b, off + k * 2 + 1, none⟩ = some (.int .i64 (gs LL k).2)) := Lib.hid (fun W hW k hk => by
    obtain ⟨b', off', e, hb', x0, x1⟩ := aq_elem hr hk
    cases e
    exact ⟨(hW.cell (p := ⟨b, off + k * 2, none⟩) hb).trans x0, (hW.cell (p := ⟨b, off + k * 2 + 1, none⟩) hb).trans x1⟩)
  have KAW := Lib.hid awake52
  have KNF := Lib.hid (fun (W : World) (hW : Below w.heap.size w W) => noFar_any (some ⟨b, off, none⟩) n c LL W ((RD.out.below hW).more hW.size) (by unfold maxLen; omega))
  rw [hf] at KNF
  have KSP := Lib.hid (fun (W : World) (hW : Below w.heap.size w W) => Spread_yes (some ⟨b, off, none⟩) n c LL W ((RD.out.below hW).more hW.size) hc hcm h2 (by omega) hv)
  have KBA := Lib.hid (fun (W : World) => callsIn_wide.1 (backward_in Fence.wide 6 trivial rfl (some ⟨b, off, none⟩) n c W))
  obtain ⟨i0, hi0, hz0, hz1, hzb⟩ := info_parts Try.infoArc
  have HL := Lib.hid hl
  have HV := Lib.hid hv
  have HF := Lib.hid hf
  have hsp := spd_bd LL n
  have n8 : decide (8 < (n : Int)) = false := decide_eq_false (by omega)
  obtain ⟨s, hs⟩ : ∃ s, spd LL n = s := ⟨_, rfl⟩
  rw [hs] at hsp KSP
  have HS := Lib.hid hs
  clear hr hl hv hf hs
  refine callsIn_wide.1 (callsIn_of_wp_marks (F := Fence.wide) (n := 6) Try.func3 rfl trivial ?_ rfl)
  simp only [Try.ntmps3, List.size_toArray, List.length_cons, List.length_nil, Nat.reduceAdd, Nat.reduceSub, Array.replicate_succ, Array.replicate_zero, List.push_toArray, List.append_toArray, List.nil_append, List.cons_append]
  refine wpIn_wide.2 ?_
  go_wp2_with fail
  (with_reducible refine (KAW.out _).mono ?_)
  rintro e w1 ⟨rfl, hb1⟩
  have G1 := Lib.hid ((Blk.new w 21 #[.int .i32 t]).below hb1 (by simp))
  have B1 := Lib.hid ((bl_alloc w (.cells #[.int .i32 t] 21)).trans (hb1.mono (by simp)))
  clear hb1
  go_wp2_with fail
  (with_reducible refine (KNF.out _ B1.out).mono ?_)
  rintro e w2 ⟨rfl, hb2⟩
  have G2 := Lib.hid (G1.out.below hb2 G1.out.lt)
  have B2 := Lib.hid (B1.out.trans (hb2.mono B1.out.size))
  clear hb2 B1 G1
  go_wp2_with fail
  (with_reducible refine (KSP.out _ B2.out).mono ?_)
  rintro e w3 ⟨rfl, hb3⟩
  have G3 := Lib.hid (G2.out.below hb3 G2.out.lt)
  have B3 := Lib.hid (B2.out.trans (hb3.mono B2.out.size))
  clear hb3 B2 G2
  go_wp2_with fail
  (with_reducible refine (KBA.out _).mono ?_)
  rintro e w4 ⟨rfl, rfl⟩
  go_wp2_with fail
  have bB : Boxed ((w3.alloc (.cells #[.slice none 0 0] 22)).alloc (.cells #[.slice (some ⟨b, off, none⟩) n c] 22)) w3.heap.size 22 (.slice none 0 0) := (Boxed.new w3 _ _).alloc _
  have bS := Boxed.new (w3.alloc (.cells #[.slice none 0 0] 22)) 22 (.slice (some ⟨b, off, none⟩) n c)
  rw [World.size_alloc] at bS
  have hz4 : ((w3.alloc (.cells #[.slice none 0 0] 22)).alloc (.cells #[.slice (some ⟨b, off, none⟩) n c] 22)).heap.size = w3.heap.size + 2 := by simp
  have B4 := (B3.out.alloc B3.out.size (.cells #[.slice none 0 0] 22)).alloc (by have := B3.out.size; simp; omega) (.cells #[.slice (some ⟨b, off, none⟩) n c] 22)
  have G4 := (G3.out.alloc (.cells #[.slice none 0 0] 22)).alloc (.cells #[.slice (some ⟨b, off, none⟩) n c] 22)
  have hg3 := G3.out.lt
  have hb3 := B3.out.size
  generalize (w3.alloc (.cells #[.slice none 0 0] 22)).alloc (.cells #[.slice (some ⟨b, off, none⟩) n c] 22) = w4 at bB bS hz4 B4 G4 ⊢
  refine (wpIn_wide (n := 6)).1 ?_
  refine wpIn_rangeFunc_ownH rfl (by decide) (gf := 17) (lb := #[.pointer (some ⟨w3.heap.size + 1, 0, none⟩)]) rfl trivial (enters_of Try.func17 (by kernel_rfl) rfl)
    (back_stops Fence.wide (6 - 1) trivial rfl (by decide) (w3.heap.size + 1) w3.heap.size b off n c LL HL.out (by omega) w4 bS (by omega) (by omega) (fun j hj => X.out w4 B4 j hj))
    kb_t (kb_b (by omega)) (Below.refl _ _) (fun _ => rfl)
    (fun pre W => (∃ v, Boxed W w3.heap.size 22 v ∧ W.ownsRow w3.heap.size 26 2 v pre.length (aqvs (tw t pre)) ∧ True) ∧ (Boxed W (w3.heap.size + 1) 22 (.slice (some ⟨b, off, none⟩) n c) ∧ Blk W w.heap.size 21 #[.int .i32 t]) ∧ Below w.heap.size w W)
    (fun _ _ _ => False)
    (OwnFrom.and (Own.from (holdsRow_own w3.heap.size w3.heap.size 22 26 2 (fun pre : List (Nat × Sp) => pre.length) (fun pre => aqvs (tw t pre)) (fun _ _ => True)) _) (OwnFrom.and (Own.from (fun s X Y row hs hg hr => ⟨boxed_own (w3.heap.size + 1) 22 (fun _ : Unit => .slice (some ⟨b, off, none⟩) n c) () X Y row hs.1 hg hr, blk_own w.heap.size 21 #[.int .i32 t] () X Y row hs.2 hg hr⟩) _) (ownFrom_below (Nat.le_refl _) (by omega))))
    (fun _ _ _ _ _ hs _ _ => hs)
    ⟨⟨_, bB, World.ownsRow_nil _ _ _ _, trivial⟩, ⟨bS, G4⟩, B4⟩
    (fun x a' W => ∃ Bx, w3.heap.size + 1 < Bx ∧ Blk W Bx 26 #[.int .i64 x.2.1, .int .i64 x.2.2] ∧ a' = { tmps := #[.slice (some ⟨b, off, none⟩) n c, .int .i32 t, undef, .pointer (some ⟨w.heap.size, 0, none⟩), .bool false, .int .i64 s, .int .i64 0, .pointer (some ⟨w3.heap.size, 0, none⟩), undef, .pointer (some ⟨Bx, 0, none⟩), undef, undef, undef, undef, undef, .bool true, .bool false, .slice (some ⟨b, off, none⟩) n c, .int .i64 (n : Int), .bool false, .bool false, .slice (some ⟨b, off, none⟩) n c, .bool false, .bool false, .tuple #[.int .i64 s, .int .i64 0], .slice (some ⟨b, off, none⟩) n c, .tuple #[.int .i64 s, .int .i64 0], .int .i64 s, .int .i64 0, .int .i64 0, .bool false, undef, undef, undef, undef, undef, undef, undef, undef, undef, undef, .slice (some ⟨b, off, none⟩) n c, .func (.func 17) #[] #[.pointer (some ⟨w3.heap.size + 1, 0, none⟩)], .int .i64 (x.1 : Int), .agg #[.int .i64 x.2.1, .int .i64 x.2.2], undef, undef, undef, undef, undef, undef, undef, undef, undef, undef, undef, undef, undef, undef, undef, undef, undef, undef, undef, undef, undef, undef, undef, undef, undef, undef, undef, undef, undef, undef, undef, undef, undef, undef, undef, undef, undef, undef, undef, undef, undef, undef, undef, undef, undef, undef, undef, undef, undef, undef, undef, undef, undef, undef, undef, undef, undef, undef, undef, undef, undef, undef], defers := [] })
    (fun x a' _ X Y row hs hg hr => by obtain ⟨Bx, h1, h2, h3⟩ := hs; exact ⟨Bx, h1, blk_own Bx 26 #[.int .i64 x.2.1, .int .i64 x.2.2] () X Y row h2 hg (fun r e => (hr r e).2), h3⟩)
    ?assign ?body ?done ?stop
  case assign =>
    rintro l pre x W K ⟨⟨v, hv, hrow, -⟩, ⟨hS, hG⟩, hB⟩ hK
    have hsa := @Oper.semAt_some
    gi_wp2
    exact hK _ _ ((KeepsOthers.alloc _ _).from _) ⟨(Below.refl _ W).alloc (by have := hv.lt; omega) _, fun u hu => hu.alloc _⟩ ⟨⟨v, hv.alloc _, hrow.alloc _, trivial⟩, ⟨hS.alloc _, hG.alloc _⟩, hB.alloc hB.size _⟩ ⟨W.heap.size, hS.lt, Blk.new W _ _, rfl⟩
  case body =>
    rintro l pre x a' W hl ⟨r, hr⟩ ⟨⟨v, hv, hrow, -⟩, ⟨hS, hG⟩, hB⟩ ⟨Bx, hBx, bX, rfl⟩ hlt
    have hsa := @Oper.semAt_some
    have hcc := hv.cell
    have x0 := bX.cell 0
    have x1 := bX.cell 1
    have g0 := hG.cell 0
    have hsz := hB.size
    have hsl := hS.lt
    have hT : wrap64 t = t := IntWalk.wrap64_in _ (by omega)
    simp only [List.getElem?_toArray, List.getElem?_cons_zero, List.getElem?_cons_succ] at x0 x1 g0
    gi_wp2_with (gi_at_builtin; refine wpListIn_append_own _ rfl _ _ 22 rfl w3.heap.size 26 i0 (.agg #[.int .i64 0, .int .i64 0]) 2 16 Try.underlying22 hi0 hz0 hz1 hzb rfl (by decide) _ _ _ rfl (hrow.alloc _) ⟨W.heap.size, 0, none⟩ 1 1 [.int .i64 (wrap64 (x.2.1 + t)), .int .i64 (wrap64 (x.2.2 + t))] rfl rfl (arc_cells _ _ _ _) (by simp [Value.oneCell']) (by simp only [maxLen]; omega) (by omega) (by simp; omega) ?_; intro v' w5 hown' hgrow _; obtain ⟨g', cap', rfl⟩ := ownsRow_succ hown'; obtain ⟨hv1, hv2, hr2, hk2, hb2⟩ := hv.appended (by decide) hrow (by omega) (Nat.le_refl _) hown' hgrow; have hc1 := hv1.cell; have hf1 := hv1.frozen)
    exact ⟨hk2.from _, ⟨hb2, fun u hu => ((hu.alloc _).kept hgrow (hu.not_row (by decide) hrow)).other (by omega) _⟩, ⟨_, hv2, by rw [tw_snoc, List.length_append]; exact hr2, trivial⟩, ⟨((hS.alloc _).kept hgrow (hS.not_row (by decide) hrow)).other (by omega) _, hG.below hb2 hg3⟩, hB.trans (hb2.mono hb3)⟩
  case done =>
    rintro D' ys W hD rfl ⟨⟨v, hv, hrow, -⟩, ⟨hS, hG⟩, hB⟩ hK
    have hcc := hv.cell
    rw [bk_length, tw_trn LL n t HL.out HV.out HF.out t0 t1] at hrow
    obtain ⟨A5, c5, rfl, hr5, hc5, hm5⟩ := own_form hrow
    have hsp5 := Spread_yes A5 n c5 (trn LL t) W hr5 hc5 hm5 h2 (by omega) (trn_valid HV.out HF.out t0 t1)
    rw [show spd (trn LL t) n = s by rw [← HS.out, ← HL.out]; exact spd_trn LL t] at hsp5
    have KS5 := Lib.hid hsp5
    have HK := Lib.hid hK
    have HB := Lib.hid hB
    clear hsp5 hr5 hrow hv hS hG hK hB
    go_wp2_with fail
    (with_reducible refine (KS5.out).mono ?_)
    rintro e w6 ⟨rfl, hb6⟩
    have B6 := Lib.hid (HB.out.trans (hb6.mono HB.out.size))
    have K6 : Hid (w6.heap[D']? = some (.deferred (some []))) := Lib.hid ((hb6.block D' (Array.getElem?_eq_some_iff.1 HK.out).1).trans HK.out)
    clear hb6 HB HK KS5 hcc
    go_upto_region 13 with (fail)
    obtain ⟨h, hh⟩ : ∃ h, (gs LL 0).1 = h := ⟨_, rfl⟩
    have hm0 : gs LL 0 ∈ LL := by simp [gs, show 0 < LL.length by have := HL.out; omega]
    have hv0 := avB_true.1 (HV.out _ hm0)
    have hf0 := far_of HF.out hm0
    have HV0 := Lib.hid hv0.2.1
    rw [hh] at hv0 hf0
    have hw : wrap64 (h + 10800000) = h + 10800000 := IntWalk.wrap64_in _ (by omega)
    have h0 : -1099511627776 ≤ h ∧ h ≤ 1073741824 := ⟨by omega, by omega⟩
    clear hm0 hv0 hf0
    refine wp_region_inv3 (by kernel_rfl) (SpI13 w6 (.slice (some ⟨b, off, none⟩) n c) (.pointer (some ⟨b, off, none⟩)) (.pointer (some ⟨b, off, none⟩)) (.int .i64 h) (.int .i64 (h + 10800000)) (.slice (some ⟨b, off, none⟩) n c) (.pointer (some ⟨b, off, none⟩)) (.pointer (some ⟨b, off, none⟩)) (.int .i64 h) (.int .i64 (h + 10800000)) (.agg #[.int .i64 (h + 10800000), .int .i64 (h + 10800000)]) (fun _ => (h + 10800000, h + 10800000))) (waits_bind (by kernel_rfl)) ?start ?step ?fin
    case start => exact SpI13.start w6 _ _ _ _ _ _ _ _ _ _ _ _ _
    case step =>
      rintro L i o a1' w' ho hL haf ⟨v64, v65, v66, v67, v68, v69, v70, v71, v72, v73, v74, v12, g, rfl, hT, e0, e1, e2, e3, e4, e5, e6, e7, e8, e9, e10, e11⟩
      have HT := Lib.hid hT
      clear hT
      have E0 := Lib.hid e0
      have E1 := Lib.hid e1
      have E2 := Lib.hid e2
      have E3 := Lib.hid e3
      have E4 := Lib.hid e4
      have E5 := Lib.hid e5
      have E6 := Lib.hid e6
      have E7 := Lib.hid e7
      have E8 := Lib.hid e8
      have E9 := Lib.hid e9
      have E10 := Lib.hid e10
      have E11 := Lib.hid e11
      clear e0 e1 e2 e3 e4 e5 e6 e7 e8 e9 e10 e11
      rcases i with _ | _ | _ | _ | _ | _ | _ | _ | _ | _ | _ | _ | _ | i
      all_goals (simp at ho; try subst ho)
      all_goals (try simp [Region.binds] at haf)
      · go_wp2
        unfold SpI13
        exact ⟨(.slice (some ⟨b, off, none⟩) n c), v65, v66, v67, v68, v69, v70, v71, v72, v73, v74, v12, g, by simp only [Act.put, List.setIfInBounds_toArray, List.set_cons_zero, List.set_cons_succ], HT.out.mark 0 (by decide), fun _ => rfl, fun h => E1.out (by simpa [mkd] using h), fun h => E2.out (by simpa [mkd] using h), fun h => E3.out (by simpa [mkd] using h), fun h => E4.out (by simpa [mkd] using h), fun h => E5.out (by simpa [mkd] using h), fun h => E6.out (by simpa [mkd] using h), fun h => E7.out (by simpa [mkd] using h), fun h => E8.out (by simpa [mkd] using h), fun h => E9.out (by simpa [mkd] using h), fun h => E10.out (by simpa [mkd] using h), fun h => E11.out (by simpa [mkd] using h)⟩
      · obtain rfl := E0.out (by simp [haf])
        go_wp2
        unfold SpI13
        exact ⟨(.slice (some ⟨b, off, none⟩) n c), (.pointer (some ⟨b, off, none⟩)), v66, v67, v68, v69, v70, v71, v72, v73, v74, v12, g, by simp only [Act.put, List.setIfInBounds_toArray, List.set_cons_zero, List.set_cons_succ], HT.out.mark 1 (by decide), fun _ => rfl, fun _ => rfl, fun h => E2.out (by simpa [mkd] using h), fun h => E3.out (by simpa [mkd] using h), fun h => E4.out (by simpa [mkd] using h), fun h => E5.out (by simpa [mkd] using h), fun h => E6.out (by simpa [mkd] using h), fun h => E7.out (by simpa [mkd] using h), fun h => E8.out (by simpa [mkd] using h), fun h => E9.out (by simpa [mkd] using h), fun h => E10.out (by simpa [mkd] using h), fun h => E11.out (by simpa [mkd] using h)⟩
      · obtain rfl := E1.out (by simp [haf])
        go_wp2
        unfold SpI13
        exact ⟨v64, (.pointer (some ⟨b, off, none⟩)), (.pointer (some ⟨b, off, none⟩)), v67, v68, v69, v70, v71, v72, v73, v74, v12, g, by simp only [Act.put, List.setIfInBounds_toArray, List.set_cons_zero, List.set_cons_succ], HT.out.mark 2 (by decide), fun h => E0.out (by simpa [mkd] using h), fun _ => rfl, fun _ => rfl, fun h => E3.out (by simpa [mkd] using h), fun h => E4.out (by simpa [mkd] using h), fun h => E5.out (by simpa [mkd] using h), fun h => E6.out (by simpa [mkd] using h), fun h => E7.out (by simpa [mkd] using h), fun h => E8.out (by simpa [mkd] using h), fun h => E9.out (by simpa [mkd] using h), fun h => E10.out (by simpa [mkd] using h), fun h => E11.out (by simpa [mkd] using h)⟩
      · have fx := (X.out w' (B6.out.trans (HT.out.bl.mono B6.out.size)) 0 (by omega)).1
        rw [hh] at fx
        simp only [Nat.zero_mul, Nat.add_zero] at fx
        obtain rfl := E2.out (by simp [haf])
        go_wp2
        unfold SpI13
        exact ⟨v64, v65, (.pointer (some ⟨b, off, none⟩)), (.int .i64 h), v68, v69, v70, v71, v72, v73, v74, v12, g, by simp only [Act.put, List.setIfInBounds_toArray, List.set_cons_zero, List.set_cons_succ], HT.out.mark 3 (by decide), fun h => E0.out (by simpa [mkd] using h), fun h => E1.out (by simpa [mkd] using h), fun _ => rfl, fun _ => rfl, fun h => E4.out (by simpa [mkd] using h), fun h => E5.out (by simpa [mkd] using h), fun h => E6.out (by simpa [mkd] using h), fun h => E7.out (by simpa [mkd] using h), fun h => E8.out (by simpa [mkd] using h), fun h => E9.out (by simpa [mkd] using h), fun h => E10.out (by simpa [mkd] using h), fun h => E11.out (by simpa [mkd] using h)⟩
      · obtain rfl := E3.out (by simp [haf])
        go_wp2
        unfold SpI13
        exact ⟨v64, v65, v66, (.int .i64 h), (.int .i64 (h + 10800000)), v69, v70, v71, v72, v73, v74, v12, g, by simp only [Act.put, List.setIfInBounds_toArray, List.set_cons_zero, List.set_cons_succ], HT.out.mark 4 (by decide), fun h => E0.out (by simpa [mkd] using h), fun h => E1.out (by simpa [mkd] using h), fun h => E2.out (by simpa [mkd] using h), fun _ => rfl, fun _ => rfl, fun h => E5.out (by simpa [mkd] using h), fun h => E6.out (by simpa [mkd] using h), fun h => E7.out (by simpa [mkd] using h), fun h => E8.out (by simpa [mkd] using h), fun h => E9.out (by simpa [mkd] using h), fun h => E10.out (by simpa [mkd] using h), fun h => E11.out (by simpa [mkd] using h)⟩
      · go_wp2
        unfold SpI13
        exact ⟨v64, v65, v66, v67, v68, (.slice (some ⟨b, off, none⟩) n c), v70, v71, v72, v73, v74, v12, g, by simp only [Act.put, List.setIfInBounds_toArray, List.set_cons_zero, List.set_cons_succ], HT.out.mark 5 (by decide), fun h => E0.out (by simpa [mkd] using h), fun h => E1.out (by simpa [mkd] using h), fun h => E2.out (by simpa [mkd] using h), fun h => E3.out (by simpa [mkd] using h), fun h => E4.out (by simpa [mkd] using h), fun _ => rfl, fun h => E6.out (by simpa [mkd] using h), fun h => E7.out (by simpa [mkd] using h), fun h => E8.out (by simpa [mkd] using h), fun h => E9.out (by simpa [mkd] using h), fun h => E10.out (by simpa [mkd] using h), fun h => E11.out (by simpa [mkd] using h)⟩
      · obtain rfl := E5.out (by simp [haf])
        go_wp2
        unfold SpI13
        exact ⟨v64, v65, v66, v67, v68, (.slice (some ⟨b, off, none⟩) n c), (.pointer (some ⟨b, off, none⟩)), v71, v72, v73, v74, v12, g, by simp only [Act.put, List.setIfInBounds_toArray, List.set_cons_zero, List.set_cons_succ], HT.out.mark 6 (by decide), fun h => E0.out (by simpa [mkd] using h), fun h => E1.out (by simpa [mkd] using h), fun h => E2.out (by simpa [mkd] using h), fun h => E3.out (by simpa [mkd] using h), fun h => E4.out (by simpa [mkd] using h), fun _ => rfl, fun _ => rfl, fun h => E7.out (by simpa [mkd] using h), fun h => E8.out (by simpa [mkd] using h), fun h => E9.out (by simpa [mkd] using h), fun h => E10.out (by simpa [mkd] using h), fun h => E11.out (by simpa [mkd] using h)⟩
      · obtain rfl := E6.out (by simp [haf])
        go_wp2
        unfold SpI13
        exact ⟨v64, v65, v66, v67, v68, v69, (.pointer (some ⟨b, off, none⟩)), (.pointer (some ⟨b, off, none⟩)), v72, v73, v74, v12, g, by simp only [Act.put, List.setIfInBounds_toArray, List.set_cons_zero, List.set_cons_succ], HT.out.mark 7 (by decide), fun h => E0.out (by simpa [mkd] using h), fun h => E1.out (by simpa [mkd] using h), fun h => E2.out (by simpa [mkd] using h), fun h => E3.out (by simpa [mkd] using h), fun h => E4.out (by simpa [mkd] using h), fun h => E5.out (by simpa [mkd] using h), fun _ => rfl, fun _ => rfl, fun h => E8.out (by simpa [mkd] using h), fun h => E9.out (by simpa [mkd] using h), fun h => E10.out (by simpa [mkd] using h), fun h => E11.out (by simpa [mkd] using h)⟩
      · have fx := (X.out w' (B6.out.trans (HT.out.bl.mono B6.out.size)) 0 (by omega)).1
        rw [hh] at fx
        simp only [Nat.zero_mul, Nat.add_zero] at fx
        obtain rfl := E7.out (by simp [haf])
        go_wp2
        unfold SpI13
        exact ⟨v64, v65, v66, v67, v68, v69, v70, (.pointer (some ⟨b, off, none⟩)), (.int .i64 h), v73, v74, v12, g, by simp only [Act.put, List.setIfInBounds_toArray, List.set_cons_zero, List.set_cons_succ], HT.out.mark 8 (by decide), fun h => E0.out (by simpa [mkd] using h), fun h => E1.out (by simpa [mkd] using h), fun h => E2.out (by simpa [mkd] using h), fun h => E3.out (by simpa [mkd] using h), fun h => E4.out (by simpa [mkd] using h), fun h => E5.out (by simpa [mkd] using h), fun h => E6.out (by simpa [mkd] using h), fun _ => rfl, fun _ => rfl, fun h => E9.out (by simpa [mkd] using h), fun h => E10.out (by simpa [mkd] using h), fun h => E11.out (by simpa [mkd] using h)⟩
      · obtain rfl := E8.out (by simp [haf])
        go_wp2
        unfold SpI13
        exact ⟨v64, v65, v66, v67, v68, v69, v70, v71, (.int .i64 h), (.int .i64 (h + 10800000)), v74, v12, g, by simp only [Act.put, List.setIfInBounds_toArray, List.set_cons_zero, List.set_cons_succ], HT.out.mark 9 (by decide), fun h => E0.out (by simpa [mkd] using h), fun h => E1.out (by simpa [mkd] using h), fun h => E2.out (by simpa [mkd] using h), fun h => E3.out (by simpa [mkd] using h), fun h => E4.out (by simpa [mkd] using h), fun h => E5.out (by simpa [mkd] using h), fun h => E6.out (by simpa [mkd] using h), fun h => E7.out (by simpa [mkd] using h), fun _ => rfl, fun _ => rfl, fun h => E10.out (by simpa [mkd] using h), fun h => E11.out (by simpa [mkd] using h)⟩
      · obtain rfl := E4.out (by simp [haf])
        obtain rfl := E9.out (by simp [haf])
        go_wp2
        unfold SpI13
        exact ⟨v64, v65, v66, v67, (.int .i64 (h + 10800000)), v69, v70, v71, v72, (.int .i64 (h + 10800000)), (.agg #[.int .i64 (h + 10800000), .int .i64 (h + 10800000)]), v12, g, by simp only [Act.put, List.setIfInBounds_toArray, List.set_cons_zero, List.set_cons_succ], HT.out.mark 10 (by decide), fun h => E0.out (by simpa [mkd] using h), fun h => E1.out (by simpa [mkd] using h), fun h => E2.out (by simpa [mkd] using h), fun h => E3.out (by simpa [mkd] using h), fun _ => rfl, fun h => E5.out (by simpa [mkd] using h), fun h => E6.out (by simpa [mkd] using h), fun h => E7.out (by simpa [mkd] using h), fun h => E8.out (by simpa [mkd] using h), fun _ => rfl, fun _ => rfl, fun h => E11.out (by simpa [mkd] using h)⟩
      · go_wp2
        unfold SpI13
        exact ⟨v64, v65, v66, v67, v68, v69, v70, v71, v72, v73, v74, (.pointer (some ⟨w'.heap.size, 0, none⟩)), (fun j => if j = 0 then w'.heap.size else g j), by simp only [Act.put, List.setIfInBounds_toArray, List.set_cons_zero, List.set_cons_succ], HT.out.al 0 (by decide) (by decide) hL _, fun h => E0.out (by simpa [mkd] using h), fun h => E1.out (by simpa [mkd] using h), fun h => E2.out (by simpa [mkd] using h), fun h => E3.out (by simpa [mkd] using h), fun h => E4.out (by simpa [mkd] using h), fun h => E5.out (by simpa [mkd] using h), fun h => E6.out (by simpa [mkd] using h), fun h => E7.out (by simpa [mkd] using h), fun h => E8.out (by simpa [mkd] using h), fun h => E9.out (by simpa [mkd] using h), fun h => E10.out (by simpa [mkd] using h), fun _ => rfl⟩
      · obtain rfl := E11.out (by simp [haf])
        obtain rfl := E10.out (by simp [haf])
        have hA : L 11 = true := by simp [haf]
        obtain ⟨zt, z0, z1, zf0, zf1⟩ := HT.out.z 0 (by decide) hA hL
        have HS := Lib.hid (HT.out.st 0 (by decide) (by decide) hA hL rfl)
        go_wp2
        unfold SpI13
        exact ⟨v64, v65, v66, v67, v68, v69, v70, v71, v72, v73, (.agg #[.int .i64 (h + 10800000), .int .i64 (h + 10800000)]), (.pointer (some ⟨g 0, 0, none⟩)), g, by simp only [Act.put, List.setIfInBounds_toArray, List.set_cons_zero, List.set_cons_succ], HS.out, fun h => E0.out (by simpa [mkd] using h), fun h => E1.out (by simpa [mkd] using h), fun h => E2.out (by simpa [mkd] using h), fun h => E3.out (by simpa [mkd] using h), fun h => E4.out (by simpa [mkd] using h), fun h => E5.out (by simpa [mkd] using h), fun h => E6.out (by simpa [mkd] using h), fun h => E7.out (by simpa [mkd] using h), fun h => E8.out (by simpa [mkd] using h), fun h => E9.out (by simpa [mkd] using h), fun _ => rfl, fun _ => rfl⟩
    case fin =>
      rintro L a1' w7 hall ⟨v64, v65, v66, v67, v68, v69, v70, v71, v72, v73, v74, v12, g, rfl, hT, e0, e1, e2, e3, e4, e5, e6, e7, e8, e9, e10, e11⟩
      obtain rfl := e0 (hall 0 (by decide))
      obtain rfl := e1 (hall 1 (by decide))
      obtain rfl := e2 (hall 2 (by decide))
      obtain rfl := e3 (hall 3 (by decide))
      obtain rfl := e4 (hall 4 (by decide))
      obtain rfl := e5 (hall 5 (by decide))
      obtain rfl := e6 (hall 6 (by decide))
      obtain rfl := e7 (hall 7 (by decide))
      obtain rfl := e8 (hall 8 (by decide))
      obtain rfl := e9 (hall 9 (by decide))
      obtain rfl := e10 (hall 10 (by decide))
      obtain rfl := e11 (hall 11 (by decide))
      have D7 : Hid (D2 w7 (g 0) (h + 10800000) (h + 10800000)) := Lib.hid (hT.k 0 (by decide) (hall 12 (by decide)))
      have B7 := Lib.hid (B6.out.trans (hT.bl.mono B6.out.size))
      have K7 : Hid (w7.heap[D']? = some (.deferred (some []))) := Lib.hid ((hT.bl.block D' (Array.getElem?_eq_some_iff.1 K6.out).1).trans K6.out)
      clear hT B6 K6
      generalize g 0 = gk at *
      have KCL := Lib.hid (fun (W : World) (hW : Below w.heap.size w W) => cloneArc_any (some ⟨b, off, none⟩) n c LL W ((RD.out.below hW).more hW.size) (by omega))
      have KS9 := Lib.hid (fun A9 c9 W hR hc9 hm9 => Spread_yes A9 (n + 1) c9 (LL ++ [(h + 10800000, h + 10800000)]) W hR hc9 hm9 (by omega) (by omega) (more_valid HV.out h0.1 (by omega)))
      rw [spd_more9 HL.out (by omega) hh HV0.out] at KS9
      go_upto_region 14 with (fail)
      refine wp_region_inv3 (by kernel_rfl) (SpI14 w7 (.slice (some ⟨b, off, none⟩) n c) n LL (h + 10800000)) (waits_bind (by kernel_rfl)) ?start ?step ?fin
      case start => exact SpI14.start w7 _ _ _ _ _
      case step =>
        rintro M i o a1' w' ho hL haf ⟨v76, v77, v78, v79, v80, v81, v75, v82, v83, v13, v14, rfl, hT, e0, e1, e2, e3, e4, e5, e6, e7, e8, e9, e10⟩
        have HT := Lib.hid hT
        clear hT
        have E0 := Lib.hid e0
        have E1 := Lib.hid e1
        have E2 := Lib.hid e2
        have E3 := Lib.hid e3
        have E4 := Lib.hid e4
        have E5 := Lib.hid e5
        have E6 := Lib.hid e6
        have E7 := Lib.hid e7
        have E8 := Lib.hid e8
        have E9 := Lib.hid e9
        have E10 := Lib.hid e10
        clear e0 e1 e2 e3 e4 e5 e6 e7 e8 e9 e10
        rcases i with _ | _ | _ | _ | _ | _ | _ | _ | _ | _ | _ | i
        all_goals (simp at ho; try subst ho)
        all_goals (try simp [Region.binds] at haf)
        · go_wp2
          unfold SpI14
          exact ⟨(.slice (some ⟨b, off, none⟩) n c), v77, v78, v79, v80, v81, v75, v82, v83, v13, v14, by simp only [Act.put, List.setIfInBounds_toArray, List.set_cons_zero, List.set_cons_succ], HT.out, fun _ => rfl, fun h k => E1.out (by simpa [mkd] using h) (by simpa [mkd] using k), fun h => E2.out (by simpa [mkd] using h), fun h k => E3.out (by simpa [mkd] using h) (by simpa [mkd] using k), fun h => E4.out (by simpa [mkd] using h), fun h => E5.out (by simpa [mkd] using h), fun h => E6.out (by simpa [mkd] using h), fun h => E7.out (by simpa [mkd] using h), fun h => E8.out (by simpa [mkd] using h), fun h => E9.out (by simpa [mkd] using h), fun h => E10.out (by simpa [mkd] using h)⟩
        · obtain rfl := E0.out (by simp [haf])
          go_wp2_with fail
          (with_reducible refine (KCL.out _ (B7.out.trans (HT.out.mono B7.out.size))).mono ?_)
          rintro e w9 ⟨v, rfl, hown, hb9⟩
          rw [HL.out] at hown
          have HO := Lib.hid hown
          clear hown
          go_wp2
          unfold SpI14
          exact ⟨(.slice (some ⟨b, off, none⟩) n c), (v), v78, v79, v80, v81, v75, v82, v83, v13, v14, by simp only [Act.put, List.setIfInBounds_toArray, List.set_cons_zero, List.set_cons_succ], HT.out.trans ((hb9).mono HT.out.size), fun _ => rfl, fun _ _ => own_mono HO.out HT.out.size, fun h => E2.out (by simpa [mkd] using h), fun h k => (by obtain ⟨g8, q1, q2⟩ := E3.out (by simpa [mkd] using h) (by simpa [mkd] using k); exact ⟨g8, q1, q2.below (hb9) q2.lt⟩), fun h => (by obtain ⟨A8, c8, q1, q2, q3⟩ := E4.out (by simpa [mkd] using h); exact ⟨A8, c8, q1, (q2.below (hb9)).more (hb9).size, q3⟩), fun h => E5.out (by simpa [mkd] using h), fun h => E6.out (by simpa [mkd] using h), fun h => E7.out (by simpa [mkd] using h), fun h => E8.out (by simpa [mkd] using h), fun h => E9.out (by simpa [mkd] using h), fun h => E10.out (by simpa [mkd] using h)⟩
        · obtain ⟨-, fa, fb, -, -⟩ := D7.out.below HT.out D7.out.lt
          go_wp2
          unfold SpI14
          exact ⟨v76, v77, (.agg #[.int .i64 (h + 10800000), .int .i64 (h + 10800000)]), v79, v80, v81, v75, v82, v83, v13, v14, by simp only [Act.put, List.setIfInBounds_toArray, List.set_cons_zero, List.set_cons_succ], HT.out, fun h => E0.out (by simpa [mkd] using h), fun h k => E1.out (by simpa [mkd] using h) (by simpa [mkd] using k), fun _ => rfl, fun h k => E3.out (by simpa [mkd] using h) (by simpa [mkd] using k), fun h => E4.out (by simpa [mkd] using h), fun h => E5.out (by simpa [mkd] using h), fun h => E6.out (by simpa [mkd] using h), fun h => E7.out (by simpa [mkd] using h), fun h => E8.out (by simpa [mkd] using h), fun h => E9.out (by simpa [mkd] using h), fun h => E10.out (by simpa [mkd] using h)⟩
        · obtain rfl := E2.out (by simp [haf])
          have hb9 := bl_alloc w' (.cells #[.int .i64 (h + 10800000), .int .i64 (h + 10800000)] 26)
          have NB := Lib.hid (Blk.new w' 26 #[.int .i64 (h + 10800000), .int .i64 (h + 10800000)])
          have HB9 := Lib.hid hb9
          clear hb9
          go_wp2
          unfold SpI14
          exact ⟨v76, v77, (.agg #[.int .i64 (h + 10800000), .int .i64 (h + 10800000)]), (.slice (some ⟨w'.heap.size, 0, none⟩) 1 1), v80, v81, v75, v82, v83, v13, v14, by simp only [Act.put, List.setIfInBounds_toArray, List.set_cons_zero, List.set_cons_succ], HT.out.trans ((HB9.out).mono HT.out.size), fun h => E0.out (by simpa [mkd] using h), fun h k => own_bl (E1.out (by simpa [mkd] using h) (by simpa [mkd] using k)) (HB9.out) (Nat.le_refl _), fun _ => rfl, fun _ _ => ⟨_, rfl, NB.out⟩, fun h => (by obtain ⟨A8, c8, q1, q2, q3⟩ := E4.out (by simpa [mkd] using h); exact ⟨A8, c8, q1, (q2.below (HB9.out)).more (HB9.out).size, q3⟩), fun h => E5.out (by simpa [mkd] using h), fun h => E6.out (by simpa [mkd] using h), fun h => E7.out (by simpa [mkd] using h), fun h => E8.out (by simpa [mkd] using h), fun h => E9.out (by simpa [mkd] using h), fun h => E10.out (by simpa [mkd] using h)⟩
        · have O1 := E1.out (by simp [haf]) hL
          obtain ⟨g9, rfl, hB9⟩ := E3.out (by simp [haf]) hL
          have R9 := arc_reads hB9
          have hzz := HT.out.size
          simp only [Act.put, List.setIfInBounds_toArray, List.set_cons_zero, List.set_cons_succ]
          refine wpList_append_any _ rfl (.tmp 77) (.tmp 79) _ rfl w7.heap.size 26 i0 _ 2 16 Try.underlying22 hi0 hz0 hz1 hzb rfl (by decide) v77 n (aqvs LL) (by simp [Act.eval]) O1 w'.heap.size (some ⟨g9, 0, none⟩) 1 1 (aqvs [(h + 10800000, h + 10800000)]) (by simp [Act.eval]) R9 (aqvs_one _) (by simp only [maxLen]; omega) (by omega) hzz ?_
          intro v9 w9 hown9 hg9 hat9
          rw [← aqvs_append] at hown9
          have HB9 := Lib.hid (HT.out.grown hg9 hzz (own_base O1))
          have HF9 := Lib.hid (own_form hown9)
          clear hown9 hg9 hat9
          go_wp2
          unfold SpI14
          exact ⟨v76, v77, v78, (.slice (some ⟨g9, 0, none⟩) 1 1), (v9), v81, v75, v82, v83, v13, v14, by simp only [Act.put, List.setIfInBounds_toArray, List.set_cons_zero, List.set_cons_succ], HB9.out, fun h => E0.out (by simpa [mkd] using h), fun _ k => (by simp [mkd] at k), fun h => E2.out (by simpa [mkd] using h), fun _ k => (by simp [mkd] at k), fun _ => HF9.out, fun h => E5.out (by simpa [mkd] using h), fun h => E6.out (by simpa [mkd] using h), fun h => E7.out (by simpa [mkd] using h), fun h => E8.out (by simpa [mkd] using h), fun h => E9.out (by simpa [mkd] using h), fun h => E10.out (by simpa [mkd] using h)⟩
        · obtain ⟨A9, c9, rfl, hR9, hc9, hm9⟩ := E4.out (by simp [haf])
          have hk9 := KS9.out A9 c9 w' hR9 hc9 hm9
          have HR9 := Lib.hid hR9
          clear hR9
          go_wp2_with fail
          (with_reducible refine (hk9).mono ?_)
          rintro e w9 ⟨rfl, hb9⟩
          clear hk9
          go_wp2
          unfold SpI14
          exact ⟨v76, v77, v78, v79, _, (.tuple #[.int .i64 0, .int .i64 0]), v75, v82, v83, v13, v14, by simp only [Act.put, List.setIfInBounds_toArray, List.set_cons_zero, List.set_cons_succ], HT.out.trans ((hb9).mono HT.out.size), fun h => E0.out (by simpa [mkd] using h), fun h k => own_bl (E1.out (by simpa [mkd] using h) (by simpa [mkd] using k)) (hb9) (Nat.le_refl _), fun h => E2.out (by simpa [mkd] using h), fun h k => (by obtain ⟨g8, q1, q2⟩ := E3.out (by simpa [mkd] using h) (by simpa [mkd] using k); exact ⟨g8, q1, q2.below (hb9) q2.lt⟩), fun _ => ⟨A9, c9, rfl, (HR9.out.below (hb9)).more (hb9).size, hc9, hm9⟩, fun _ => rfl, fun h => E6.out (by simpa [mkd] using h), fun h => E7.out (by simpa [mkd] using h), fun h => E8.out (by simpa [mkd] using h), fun h => E9.out (by simpa [mkd] using h), fun h => E10.out (by simpa [mkd] using h)⟩
        · obtain rfl := E5.out (by simp [haf])
          go_wp2
          unfold SpI14
          exact ⟨v76, v77, v78, v79, v80, (.tuple #[.int .i64 0, .int .i64 0]), (.tuple #[.int .i64 0, .int .i64 0]), v82, v83, v13, v14, by simp only [Act.put, List.setIfInBounds_toArray, List.set_cons_zero, List.set_cons_succ], HT.out, fun h => E0.out (by simpa [mkd] using h), fun h k => E1.out (by simpa [mkd] using h) (by simpa [mkd] using k), fun h => E2.out (by simpa [mkd] using h), fun h k => E3.out (by simpa [mkd] using h) (by simpa [mkd] using k), fun h => E4.out (by simpa [mkd] using h), fun _ => rfl, fun _ => rfl, fun h => E7.out (by simpa [mkd] using h), fun h => E8.out (by simpa [mkd] using h), fun h => E9.out (by simpa [mkd] using h), fun h => E10.out (by simpa [mkd] using h)⟩
        · obtain rfl := E6.out (by simp [haf])
          go_wp2
          unfold SpI14
          exact ⟨v76, v77, v78, v79, v80, v81, (.tuple #[.int .i64 0, .int .i64 0]), (.int .i64 0), v83, v13, v14, by simp only [Act.put, List.setIfInBounds_toArray, List.set_cons_zero, List.set_cons_succ], HT.out, fun h => E0.out (by simpa [mkd] using h), fun h k => E1.out (by simpa [mkd] using h) (by simpa [mkd] using k), fun h => E2.out (by simpa [mkd] using h), fun h k => E3.out (by simpa [mkd] using h) (by simpa [mkd] using k), fun h => E4.out (by simpa [mkd] using h), fun h => E5.out (by simpa [mkd] using h), fun _ => rfl, fun _ => rfl, fun h => E8.out (by simpa [mkd] using h), fun h => E9.out (by simpa [mkd] using h), fun h => E10.out (by simpa [mkd] using h)⟩
        · obtain rfl := E6.out (by simp [haf])
          go_wp2
          unfold SpI14
          exact ⟨v76, v77, v78, v79, v80, v81, (.tuple #[.int .i64 0, .int .i64 0]), v82, (.int .i64 0), v13, v14, by simp only [Act.put, List.setIfInBounds_toArray, List.set_cons_zero, List.set_cons_succ], HT.out, fun h => E0.out (by simpa [mkd] using h), fun h k => E1.out (by simpa [mkd] using h) (by simpa [mkd] using k), fun h => E2.out (by simpa [mkd] using h), fun h k => E3.out (by simpa [mkd] using h) (by simpa [mkd] using k), fun h => E4.out (by simpa [mkd] using h), fun h => E5.out (by simpa [mkd] using h), fun _ => rfl, fun h => E7.out (by simpa [mkd] using h), fun _ => rfl, fun h => E9.out (by simpa [mkd] using h), fun h => E10.out (by simpa [mkd] using h)⟩
        · obtain rfl := E7.out (by simp [haf])
          go_wp2
          unfold SpI14
          exact ⟨v76, v77, v78, v79, v80, v81, v75, (.int .i64 0), v83, (.int .i64 0), v14, by simp only [Act.put, List.setIfInBounds_toArray, List.set_cons_zero, List.set_cons_succ], HT.out, fun h => E0.out (by simpa [mkd] using h), fun h k => E1.out (by simpa [mkd] using h) (by simpa [mkd] using k), fun h => E2.out (by simpa [mkd] using h), fun h k => E3.out (by simpa [mkd] using h) (by simpa [mkd] using k), fun h => E4.out (by simpa [mkd] using h), fun h => E5.out (by simpa [mkd] using h), fun h => E6.out (by simpa [mkd] using h), fun _ => rfl, fun h => E8.out (by simpa [mkd] using h), fun _ => rfl, fun h => E10.out (by simpa [mkd] using h)⟩
        · obtain rfl := E8.out (by simp [haf])
          go_wp2
          unfold SpI14
          exact ⟨v76, v77, v78, v79, v80, v81, v75, v82, (.int .i64 0), v13, (.int .i64 0), by simp only [Act.put, List.setIfInBounds_toArray, List.set_cons_zero, List.set_cons_succ], HT.out, fun h => E0.out (by simpa [mkd] using h), fun h k => E1.out (by simpa [mkd] using h) (by simpa [mkd] using k), fun h => E2.out (by simpa [mkd] using h), fun h k => E3.out (by simpa [mkd] using h) (by simpa [mkd] using k), fun h => E4.out (by simpa [mkd] using h), fun h => E5.out (by simpa [mkd] using h), fun h => E6.out (by simpa [mkd] using h), fun h => E7.out (by simpa [mkd] using h), fun _ => rfl, fun h => E9.out (by simpa [mkd] using h), fun _ => rfl⟩
      case fin =>
        rintro M a1' w8 hall ⟨v76, v77, v78, v79, v80, v81, v75, v82, v83, v13, v14, rfl, hT, e0, e1, e2, e3, e4, e5, e6, e7, e8, e9, e10⟩
        obtain rfl := e0 (hall 0 (by decide))
        obtain rfl := e2 (hall 2 (by decide))
        obtain rfl := e5 (hall 5 (by decide))
        obtain rfl := e6 (hall 6 (by decide))
        obtain rfl := e7 (hall 7 (by decide))
        obtain rfl := e8 (hall 8 (by decide))
        obtain rfl := e9 (hall 9 (by decide))
        obtain rfl := e10 (hall 10 (by decide))
        have B8 := Lib.hid (B7.out.trans (hT.mono B7.out.size))
        have K8 : w8.heap[D']? = some (.deferred (some [])) := (hT.block D' (Array.getElem?_eq_some_iff.1 K7.out).1).trans K7.out
        clear e1 e3 e4 hT B7 K7
        go_wp2_with fail
        refine ⟨by simp, .inl ⟨_, _, rfl, run_takeDeferred K8, ?_⟩⟩
        exact ⟨_, results_tmp rfl _ _ _, rfl, B8.out.trans (belowK_b (w := w) (Nat.le_refl _) w8 D' _ _ (by omega) K8 rfl rfl)⟩
  case stop =>
    rintro D' cc pre W _ _ h _
    exact h.elim
set_option maxHeartbeats 2000000 in
set_option maxRecDepth 100000 in
theorem spreadBig (A : Option Addr) (n c : Nat) (t : Int) (w : World) (h8 : 8 < n) :
    Calls Try.prog 3 #[.slice A n c, .int .i32 t] w fun e w' => e = .returned (.bool true) ∧ Below w.heap.size w w' := by
  have KAW := Lib.hid awake52
  have n8 : decide (8 < (n : Int)) = true := decide_eq_true (by omega)
  go_enter Try.func3, Try.ntmps3
  go_wp2_with fail
  (with_reducible refine (KAW.out _).mono ?_)
  rintro e w1 ⟨rfl, hb1⟩
  have B1 := Lib.hid ((bl_alloc w (.cells #[.int .i32 t] 21)).trans (hb1.mono (by simp)))
  clear hb1
  go_wp2
  go_ret
  exact ⟨rfl, B1.out⟩
set_option maxHeartbeats 2000000 in
set_option maxRecDepth 100000 in
theorem spreadFar (A : Option Addr) (n c : Nat) (L : List Sp) (t : Int) (w : World) (hr : Reads w w.heap.size 2 A n (aqvs L)) (h8 : n ≤ 8) (hf : L.any farQ = true) :
    Calls Try.prog 3 #[.slice A n c, .int .i32 t] w fun e w' => e = .returned (.bool true) ∧ Below w.heap.size w w' := by
  have RD := Lib.hid hr
  have KAW := Lib.hid awake52
  have KNF := Lib.hid (fun (W : World) (hW : Below w.heap.size w W) => noFar_any A n c L W ((RD.out.below hW).more hW.size) (by unfold maxLen; omega))
  rw [hf] at KNF
  have n8 : decide (8 < (n : Int)) = false := decide_eq_false (by omega)
  clear hr hf
  go_enter Try.func3, Try.ntmps3
  go_wp2_with fail
  (with_reducible refine (KAW.out _).mono ?_)
  rintro e w1 ⟨rfl, hb1⟩
  have B1 := Lib.hid ((bl_alloc w (.cells #[.int .i32 t] 21)).trans (hb1.mono (by simp)))
  clear hb1
  go_wp2_with fail
  (with_reducible refine (KNF.out _ B1.out).mono ?_)
  rintro e w2 ⟨rfl, hb2⟩
  have B2 := Lib.hid (B1.out.trans (hb2.mono B1.out.size))
  clear hb2 B1
  go_wp2
  go_ret
  exact ⟨rfl, B2.out⟩
set_option maxHeartbeats 2000000 in
set_option maxRecDepth 100000 in
theorem spreadErr (A : Option Addr) (n c : Nat) (L : List Sp) (t E : Int) (w : World) (hr : Reads w w.heap.size 2 A n (aqvs L)) (h8 : n ≤ 8) (hf : L.any farQ = false) (hE : ((L.any fun x => !(avB x.1 x.2)) = true ∧ E = 1) ∨ ((L.any fun x => !(avB x.1 x.2)) = false ∧ n < 2 ∧ E = 3)) :
    Calls Try.prog 3 #[.slice A n c, .int .i32 t] w fun e w' => e = .returned (.bool true) ∧ Below w.heap.size w w' := by
  have RD := Lib.hid hr
  have KAW := Lib.hid awake52
  have KNF := Lib.hid (fun (W : World) (hW : Below w.heap.size w W) => noFar_any A n c L W ((RD.out.below hW).more hW.size) (by unfold maxLen; omega))
  rw [hf] at KNF
  have KSP := Lib.hid (fun (W : World) (hW : Below w.heap.size w W) => Spread_no A n c L E W ((RD.out.below hW).more hW.size) (by omega) hE)
  have n8 : decide (8 < (n : Int)) = false := decide_eq_false (by omega)
  have hE2 : E = 1 ∨ E = 3 := by rcases hE with ⟨-, h⟩ | ⟨-, -, h⟩ <;> simp [h]
  clear hr hf hE
  rcases hE2 with rfl | rfl
  all_goals
    go_enter Try.func3, Try.ntmps3
    go_wp2_with fail
    (with_reducible refine (KAW.out _).mono ?_)
    rintro e w1 ⟨rfl, hb1⟩
    have B1 := Lib.hid ((bl_alloc w (.cells #[.int .i32 t] 21)).trans (hb1.mono (by simp)))
    clear hb1
    go_wp2_with fail
    (with_reducible refine (KNF.out _ B1.out).mono ?_)
    rintro e w2 ⟨rfl, hb2⟩
    have B2 := Lib.hid (B1.out.trans (hb2.mono B1.out.size))
    clear hb2 B1
    go_wp2_with fail
    (with_reducible refine (KSP.out _ B2.out).mono ?_)
    rintro e w3 ⟨rfl, hb3⟩
    have B3 := Lib.hid (B2.out.trans (hb3.mono B2.out.size))
    clear hb3 B2
    go_wp2
    go_ret
    exact ⟨rfl, B3.out⟩
/-- the law of layer 52 on spreads: true at every list of arcs and every turn -/
theorem chooseSpread_any (A : Option Addr) (n c : Nat) (L : List Sp) (t : Int) (w : World) (hr : Reads w w.heap.size 2 A n (aqvs L)) (hc : n ≤ c) (hcm : c ≤ maxLen) (t0 : -2147483648 ≤ t) (t1 : t ≤ 2147483647) :
    Calls Try.prog 3 #[.slice A n c, .int .i32 t] w fun e w' => e = .returned (.bool true) ∧ Below w.heap.size w w' := by
  by_cases h8 : n ≤ 8
  · cases hf : L.any farQ with
    | true => exact spreadFar A n c L t w hr h8 hf
    | false =>
      cases hv : L.any (fun x => !(avB x.1 x.2)) with
      | true => exact spreadErr A n c L t 1 w hr h8 hf (.inl ⟨hv, rfl⟩)
      | false =>
        by_cases h2 : 2 ≤ n
        · exact spreadMain A n c L t w hr hc hcm h2 h8 (fun x hx => by simpa using List.any_eq_false.1 hv x hx) hf t0 t1
        · exact spreadErr A n c L t 3 w hr h8 hf (.inr ⟨hv, by omega, rfl⟩)
  · exact spreadBig A n c t w (by omega)
--END
end Go.Proofs.Ytfeianjdedgdoaa
