/- The walk of the reference's ValidRegion. -/
import Derived.Test.YtleigbbgilcckaaGreatHKr
import Derived.Test.YtleigbbgilcckaaGreatHZd
import Derived.Test.YtleigbbgilcckaaGreatHRj
import Derived.Test.YtleigbbgilcckaaGreatHJc
set_option linter.unusedVariables false
set_option linter.unusedSimpArgs false
namespace Go.Proofs.YtleigbbgilcckaaGreat
open Go.RowKit
set_option maxHeartbeats 2000000 in
set_option maxRecDepth 100000 in
theorem rValidLon_vl (lo hi : Int) (w : World) (h : VL (lo, hi)) : Calls Tryz.prog 84 #[.agg #[.int .i64 lo, .int .i64 hi]] w fun e w' => e = .returned (.bool true) ∧ Below w.heap.size w w' := by
  have hq := eqlArc
  have KA := Lib.hid rAll_any
  have hb0 := Lib.hid (bl_alloc w (.cells #[.int .i64 lo, .int .i64 hi] 26))
  have D0 := Lib.hid (D2.new w lo hi 26)
  have h' : (lo = -10800000 ∧ hi = 10800000) ∨ (-10800000 ≤ lo ∧ lo < 10800000 ∧ lo ≤ hi ∧ hi - lo < 21600000) := h
  clear h
  have hN : aeq (-10800000) 10800000 (-10800000) 10800000 = true := by decide
  rcases h' with ⟨rfl, rfl⟩ | h2
  · go_enter Tryz.func84, Tryz.ntmps84
    go_upto_region 1 with (fail)
    generalize w.alloc (.cells #[.int .i64 (-10800000), .int .i64 10800000] 26) = w1 at hb0 D0 ⊢
    have c0 : ∀ s : BV w1, s.w.cell? ⟨w.heap.size, 0, none⟩ = some (.int .i64 (-10800000)) := fun s => (s.hb.cell (p := ⟨w.heap.size, 0, none⟩) D0.out.lt).trans D0.out.c0
    have c1 : ∀ s : BV w1, s.w.cell? ⟨w.heap.size, 1, none⟩ = some (.int .i64 10800000) := fun s => (s.hb.cell (p := ⟨w.heap.size, 1, none⟩) D0.out.lt).trans D0.out.c1
    refine wp_region_bv w1 (by kernel_rfl) (by kernel_rfl) (Below.refl _ _) ?_
    (repeat (go_big_quiet_step (first | (go_at_call 37; with_reducible exact quiet_bv (KA.out _)) | fail)))
    refine wpQuiet_nil ?_
    intro w9 hb9
    clear c0 c1
    go_wp2
    go_ret
    exact ⟨ret_bool (by simp), hb0.out.trans (hb9.mono hb0.out.size)⟩
  · have hN2 : aeq lo hi (-10800000) 10800000 = false := by simp [aeq]; omega
    have s1 : IntKind.i64.wrap (lo + 21600000) = lo + 21600000 := IntWalk.i64_in _ (by omega)
    have q0 : decide (-10800000 ≤ lo) = true := decide_eq_true (by clear s1; omega)
    have q1 : decide (lo < 10800000) = true := decide_eq_true (by clear s1; omega)
    have q2 : decide (lo ≤ hi) = true := decide_eq_true (by clear s1; omega)
    have q3 : decide (hi < lo + 21600000) = true := decide_eq_true (by clear s1; omega)
    clear h2 hN
    go_enter Tryz.func84, Tryz.ntmps84
    go_upto_region 1 with (fail)
    generalize w.alloc (.cells #[.int .i64 lo, .int .i64 hi] 26) = w1 at hb0 D0 ⊢
    have c0 : ∀ s : BV w1, s.w.cell? ⟨w.heap.size, 0, none⟩ = some (.int .i64 lo) := fun s => (s.hb.cell (p := ⟨w.heap.size, 0, none⟩) D0.out.lt).trans D0.out.c0
    have c1 : ∀ s : BV w1, s.w.cell? ⟨w.heap.size, 1, none⟩ = some (.int .i64 hi) := fun s => (s.hb.cell (p := ⟨w.heap.size, 1, none⟩) D0.out.lt).trans D0.out.c1
    refine wp_region_bv w1 (by kernel_rfl) (by kernel_rfl) (Below.refl _ _) ?_
    (repeat (go_big_quiet_step (first | (go_at_call 37; with_reducible exact quiet_bv (KA.out _)) | fail)))
    refine wpQuiet_nil ?_
    intro w9 hb9
    clear c0 c1
    go_wp2
    go_ret
    exact ⟨ret_bool (by simp), hb0.out.trans (hb9.mono hb0.out.size)⟩
set_option maxHeartbeats 1000000 in
theorem rValid08_vp (p0 p1 p2 p3 : Int) (w : World) (h : VP (p0, p1, p2, p3)) : Calls Tryz.prog 52 #[.agg #[.int .i64 p0, .int .i64 p1, .int .i64 p2, .int .i64 p3]] w fun e w' => e = .returned (.bool true) ∧ Below w.heap.size w w' := by
  have K1 := fun W => rValidLat_any p0 p1 W h.l1
  rw [decide_eq_true (show -5400000 ≤ p0 ∧ p1 ≤ 5400000 from ⟨h.l2, h.l3⟩)] at K1
  have K1 := Lib.hid K1
  have K2 := Lib.hid (fun W => rValidLon_vl p2 p3 W h.o)
  clear h
  go_enter Tryz.func52, Tryz.ntmps52
  go_wp2_with fail
  (with_reducible refine (K1.out _).mono ?_)
  rintro e w1 ⟨rfl, hb1⟩
  have B1 := Lib.hid (one_bl hb1)
  have y2 : w1.cell? ⟨w.heap.size, 2, none⟩ = some (.int .i64 p2) := (hb1.cell (p := ⟨w.heap.size, 2, none⟩) (by simp)).trans (by simp)
  have y3 : w1.cell? ⟨w.heap.size, 3, none⟩ = some (.int .i64 p3) := (hb1.cell (p := ⟨w.heap.size, 3, none⟩) (by simp)).trans (by simp)
  clear hb1
  go_wp2_with fail
  (with_reducible refine (K2.out _).mono ?_)
  rintro e w2 ⟨rfl, hb2⟩
  have B2 := Lib.hid (B1.out.trans (hb2.mono B1.out.size))
  clear hb2
  go_wp2
  go_ret
  exact ⟨ret_bool (by simp), B2.out⟩
theorem lv_of {L : List Cl} (h : AllV L) : lvOk L := fun y hy => ⟨(h y hy).l0, (h y hy).l1⟩
/-- what the reference's Around returns: the tidy region of the cells of the level, or -1 -/
def RArR (p : Bx) (lev most : Int) (w : World) (e : Ending) (w' : World) : Prop :=
  ∃ (v : Value) (L : List Cl) (E : Int), e = .returned (.tuple #[v, .int .i64 E]) ∧ w'.ownsRow w.heap.size 46 3 v L.length (cvs L) ∧ Below w.heap.size w w' ∧
    ((E = 0 ∧ L = canonC (covL (arnA (mtP p) lev)) ∧ ((arnA (mtP p) lev).length : Int) ≤ most) ∨ E = -1)
set_option maxHeartbeats 4000000 in
set_option maxRecDepth 100000 in
theorem rAround_any (p0 p1 p2 p3 lev most : Int) (w : World) (hp : VP (p0, p1, p2, p3)) (h0 : 0 ≤ lev) (h16 : lev ≤ 16) (m0 : 0 ≤ most) (m1 : most ≤ 900) :
    Calls Tryz.prog 21 #[.agg #[.int .i64 p0, .int .i64 p1, .int .i64 p2, .int .i64 p3], .int .i64 lev, .int .i64 most] w (RArR (p0, p1, p2, p3) lev most w) := by
  have KV := Lib.hid (fun W => rValid08_vp p0 p1 p2 p3 W hp)
  have d0 : decide (lev < 0) = false := decide_eq_false (by omega)
  have d1 : decide (16 < lev) = false := decide_eq_false (by omega)
  have K1 := Lib.hid (fun W => rar_ok lev.toNat p0 p1 p2 p3 0 0 0 lev most W hp (top_vl 0 (by omega) (by omega)) (by omega) h16 (by omega) (by omega))
  have K2 := Lib.hid (fun left (l0 : -1000 ≤ left) (l1 : left ≤ 1000) W => rar_ok lev.toNat p0 p1 p2 p3 0 0 1 lev left W hp (top_vl 1 (by omega) (by omega)) (by omega) h16 l0 l1)
  have HV := Lib.hid (arnA_v (mt := mtP (p0, p1, p2, p3)) h0 h16)
  have G0 := Lib.hid (Blk.new w 48 #[.int .i64 p0, .int .i64 p1, .int .i64 p2, .int .i64 p3])
  obtain ⟨i0, hi0, hz0, hz1, hzb⟩ := info_parts Tryz.infoCell
  clear hp
  go_enter Tryz.func21, Tryz.ntmps21
  go_wp2_with fail
  (with_reducible refine (KV.out _).mono ?_)
  rintro e w1 ⟨rfl, hb1⟩
  have B1 := Lib.hid (one_bl hb1)
  have G1 := Lib.hid (G0.out.below hb1 G0.out.lt)
  have y0 : w1.cell? ⟨w.heap.size, 0, none⟩ = some (.int .i64 p0) := G1.out.cell 0
  have y1 : w1.cell? ⟨w.heap.size, 1, none⟩ = some (.int .i64 p1) := G1.out.cell 1
  have y2 : w1.cell? ⟨w.heap.size, 2, none⟩ = some (.int .i64 p2) := G1.out.cell 2
  have y3 : w1.cell? ⟨w.heap.size, 3, none⟩ = some (.int .i64 p3) := G1.out.cell 3
  clear hb1 KV G0
  go_wp2_with fail
  (with_reducible refine (K1.out _).mono ?_)
  rintro e w2 ⟨va, La, rfl, hoa, hb2, ha, hba⟩
  have B2 := Lib.hid (B1.out.trans (hb2.mono B1.out.size))
  have G2 := Lib.hid (G1.out.below hb2 G1.out.lt)
  obtain ⟨m, hm⟩ : ∃ m : Int, most - (La.length : Int) = m := ⟨_, rfl⟩
  rw [hm] at ha ⊢
  have hmb : -1000 ≤ m ∧ m ≤ 1000 := by omega
  have hla : La.length ≤ 2000 := by omega
  obtain ⟨Aa, ca, rfl, hra, -, -⟩ := own_form hoa
  have RA := Lib.hid hra
  have HA := Lib.hid ha
  have HM := Lib.hid hm
  have K3 := Lib.hid (K2.out m hmb.1 hmb.2)
  have y0 : w2.cell? ⟨w.heap.size, 0, none⟩ = some (.int .i64 p0) := G2.out.cell 0
  have y1 : w2.cell? ⟨w.heap.size, 1, none⟩ = some (.int .i64 p1) := G2.out.cell 1
  have y2 : w2.cell? ⟨w.heap.size, 2, none⟩ = some (.int .i64 p2) := G2.out.cell 2
  have y3 : w2.cell? ⟨w.heap.size, 3, none⟩ = some (.int .i64 p3) := G2.out.cell 3
  clear hoa hra hb2 ha hm hba B1 G1 K1 K2
  go_wp2_with fail
  (with_reducible refine (K3.out _).mono ?_)
  rintro e w3 ⟨vb, Lb, rfl, hob, hb3, hb, hbb⟩
  have B3 := Lib.hid (B2.out.trans (hb3.mono B2.out.size))
  have RA3 := Lib.hid ((RA.out.below hb3).more hb3.size)
  obtain ⟨n, hn⟩ : ∃ n : Int, m - (Lb.length : Int) = n := ⟨_, rfl⟩
  rw [hn] at hb ⊢
  have hlb : Lb.length ≤ 2000 := by omega
  obtain ⟨Ab, cb, rfl, hrb, -, -⟩ := own_form hob
  have RB3 := Lib.hid hrb
  have HB := Lib.hid hb
  have HN := Lib.hid hn
  clear hob hrb hb3 hb hn hbb K3 RA B2 G2 y0 y1 y2 y3
  by_cases hneg : m < 0 ∨ n < 0
  · have hD : Hid (decide (m < 0) = true ∨ decide (n < 0) = true) := Lib.hid (hneg.imp decide_eq_true decide_eq_true)
    by_cases hmn : m < 0
    · have e0 : decide (m < 0) = true := decide_eq_true hmn
      clear hneg hmn
      go_wp2
      go_ret2
      exact ⟨_, [], -1, rfl, own_nil _ _ _ _, B3.out, .inr rfl⟩
    · have e0 : decide (m < 0) = false := decide_eq_false hmn
      have e1 : decide (n < 0) = true := decide_eq_true (by omega)
      clear hneg hmn
      go_wp2
      go_ret2
      exact ⟨_, [], -1, rfl, own_nil _ _ _ _, B3.out, .inr rfl⟩
  · have e0 : decide (m < 0) = false := decide_eq_false (by omega)
    have e1 : decide (n < 0) = false := decide_eq_false (by omega)
    have hAA : La ++ Lb = arnA (mtP (p0, p1, p2, p3)) lev := by
      rw [HA.out (by omega), HB.out (by omega)]; rfl
    have hv : AllV (La ++ Lb) := by rw [hAA]; exact HV.out
    have hlen : ((La ++ Lb).length : Int) ≤ most := by rw [List.length_append]; have := HM.out; have := HN.out; omega
    have HAA := Lib.hid hAA
    have HVV := Lib.hid hv
    have HLE := Lib.hid hlen
    have hML : madeL 1 (La ++ Lb) [] = canonC (covL (La ++ Lb)) := made_or _ hv
    have hcl := canonC_len _ hv
    have hc4 : (canonC (covL (La ++ Lb))).length ≤ 4000 := by omega
    have HC4 := Lib.hid hc4
    have HML := Lib.hid hML
    have hsum : La.length + Lb.length ≤ 1000 := by rw [List.length_append] at hlen; omega
    clear hneg hAA hv hlen hML hcl hc4
    go_wp2_with (at_builtin; first | (refine wpList_append_any _ rfl (.tmp 44) (.tmp 45) _ rfl w3.heap.size 46 i0 _ 3 24 Tryz.underlying22 hi0 hz0 hz1 hzb rfl (by decide) (.slice (some ⟨w3.heap.size, 0, none⟩) 0 0) 0 [] rfl (own_new w3 w3.heap.size 46 3 0 _ #[] rfl (Nat.le_refl _) rfl (by simp [maxLen])) w3.heap.size Aa La.length ca (cvs La) rfl (RA3.out.alloc (Nat.le_refl _) _) (cvs_one _) (by simp only [maxLen]; omega) (by omega) (by simp) ?_; intro v4 w4 hown4 hg4 hat4; rw [Nat.zero_add, List.nil_append] at hown4; have HB4 := Lib.hid (((Below.refl w3.heap.size w3).alloc (Nat.le_refl _) _).grown hg4 (by simp) (fun k hk => by simp [Value.ownBlock] at hk; omega)); have RB4 := Lib.hid ((RB3.out.below HB4.out).more HB4.out.size); have HO4 := Lib.hid hown4; have hs4 := HB4.out.size; clear hown4 hg4 hat4) | (refine wpList_append_any _ rfl (.tmp 46) (.tmp 47) _ rfl w3.heap.size 46 i0 _ 3 24 Tryz.underlying22 hi0 hz0 hz1 hzb rfl (by decide) v4 La.length (cvs La) rfl HO4.out w4.heap.size Ab Lb.length cb (cvs Lb) rfl RB4.out (cvs_one _) (by simp only [maxLen]; omega) (by omega) hs4 ?_; intro v5 w5 hown5 hg5 hat5; rw [← cvs_append, ← List.length_append] at hown5; have HB5 := Lib.hid (HB4.out.grown hg5 hs4 (own_base HO4.out)); have HO5 := Lib.hid hown5; clear hown5 hg5 hat5) | fail)
    obtain ⟨A5, c5, rfl, hr5, -, -⟩ := own_form HO5.out
    have KMD := Lib.hid (Made_any 1 A5 none (La ++ Lb).length 0 c5 0 (La ++ Lb) [] w5 hr5 Reads.none_ (by rw [List.length_append]; omega) (by omega) (lv_of HVV.out) (fun y hy => by cases hy) (.inl rfl))
    rw [HML.out] at KMD
    clear hr5 RA3 RB3 HO4 RB4 HB4
    (with_reducible refine (KMD.out).mono ?_)
    rintro e w6 ⟨v6, rfl, hown6, hb6⟩
    have B6 := Lib.hid (B3.out.trans ((HB5.out.trans (hb6.mono HB5.out.size)).mono B3.out.size))
    have hs5 := B3.out.size
    have O6 := Lib.hid (own_mono hown6 (Nat.le_trans hs5 HB5.out.size))
    obtain ⟨A6, c6, rfl, -, -⟩ := own_form hown6
    have hd4 : decide (4000 < ((canonC (covL (La ++ Lb))).length : Int)) = false := decide_eq_false (by have := HC4.out; omega)
    clear hown6 hb6
    go_wp2
    go_ret2
    exact ⟨_, _, 0, rfl, O6.out, B6.out, .inl ⟨rfl, by rw [HAA.out], by rw [← HAA.out]; exact HLE.out⟩⟩
end Go.Proofs.YtleigbbgilcckaaGreat
namespace Go.Proofs.YtleigbbgilcckaaGreat
open Go.RowKit
def VTo (L : List Cl) (k : Nat) : Prop := ∀ i, i < k → vldB (gt L i).1 (gt L i).2.1 (gt L i).2.2 = true
theorem VTo.zero (L : List Cl) : VTo L 0 := fun i h => by omega
theorem VTo.succ {L : List Cl} {k : Nat} (h : VTo L k) (hk : vldB (gt L k).1 (gt L k).2.1 (gt L k).2.2 = true) : VTo L (k + 1) := fun i hi => by
  by_cases e : i = k
  · subst e; exact hk
  · exact h i (by omega)
theorem VTo.good {L : List Cl} (h : VTo L L.length) : badL L = false := by
  unfold badL
  rw [List.any_eq_false]
  intro x hx
  obtain ⟨i, hi, rfl⟩ := List.mem_iff_getElem.1 hx
  have := h i hi
  simp only [gt, List.getD_eq_getElem?_getD, hi, getElem?_pos, Option.getD_some] at this
  rw [this]
  simp
theorem bad_at {L : List Cl} {k : Nat} (hk : k < L.length) (h : vldB (gt L k).1 (gt L k).2.1 (gt L k).2.2 = false) : rvrB L = false := by
  have : badL L = true := by
    unfold badL
    rw [List.any_eq_true]
    exact ⟨gt L k, gt_mem L k hk, by rw [h]; rfl⟩
  unfold rvrB
  rw [this]
  simp
theorem PairsTo.one (L : List Cl) : PairsTo L 1 := fun i h => by omega
theorem PairsTo.succ {L : List Cl} {j : Nat} (h : PairsTo L (j + 1)) (hk : pairOk (gt L j) (gt L (j + 1)) = true) : PairsTo L (j + 2) := fun i hi => by
  by_cases e : i = j
  · subst e; exact hk
  · exact h i (by omega)
theorem FoursTo.three (L : List Cl) : FoursTo L 3 := fun i h => by omega
theorem FoursTo.succ {L : List Cl} {j : Nat} (h : FoursTo L (j + 3)) (hk : fourOk (gt L j) (gt L (j + 1)) (gt L (j + 2)) (gt L (j + 3)) = true) : FoursTo L (j + 4) := fun i hi => by
  by_cases e : i = j
  · subst e; exact hk
  · exact h i (by omega)
theorem pairs_no {L : List Cl} {j : Nat} (hj : j + 1 < L.length) (h : pairOk (gt L j) (gt L (j + 1)) = false) : rvrB L = false := by
  have : ¬ PairsTo L L.length := fun hp => by
    have := hp j hj
    rw [h] at this
    exact Bool.noConfusion this
  unfold rvrB
  simp [this]
theorem fours_no {L : List Cl} {j : Nat} (hj : j + 3 < L.length) (h : fourOk (gt L j) (gt L (j + 1)) (gt L (j + 2)) (gt L (j + 3)) = false) : rvrB L = false := by
  have : ¬ FoursTo L L.length := fun hp => by
    have := hp j hj
    rw [h] at this
    exact Bool.noConfusion this
  unfold rvrB
  simp [this]
theorem rvr_long {L : List Cl} (h : 4000 < L.length) : rvrB L = false := by
  unfold rvrB
  have : ¬ L.length ≤ 4000 := by omega
  simp [this]
theorem rvr_yes {L : List Cl} (h : L.length ≤ 4000) (h1 : VTo L L.length) (h2 : PairsTo L L.length) (h3 : FoursTo L L.length) : rvrB L = true := by
  unfold rvrB
  simp [h, h1.good, h2, h3]
theorem PairsTo.less {L : List Cl} {k j : Nat} (h : PairsTo L k) (hj : j ≤ k) : PairsTo L j := fun i hi => h i (by omega)
theorem FoursTo.less {L : List Cl} {k j : Nat} (h : FoursTo L k) (hj : j ≤ k) : FoursTo L j := fun i hi => h i (by omega)
/-- a world that left what was there alone -/
structure BW (w0 : World) where
  w : World
  hb : Below w0.heap.size w0 w
instance bwSome (w0 : World) : Nonempty (BW w0) := ⟨⟨w0, Below.refl _ _⟩⟩
/-- a region whose calls leave alone what was there is walked once -/
theorem wp_region_bw {P : Program} {id : Nat} {Q : Exit → Act → World → Prop} {a : Act} {w : World} {l : List Oper} (w0 : World) (hm : P.follows .mixedOrders = true) (hB : Region.lexB .any l.toArray = true) (h0 : Below w0.heap.size w0 w)
    (h : wpQuiet P l.toArray (fun w' => ∃ s : BW w0, w' = s.w) (fun a' => ∀ w9, Below w0.heap.size w0 w9 → Q .normal a' w9) l a) : (Code.region id l.toArray true).wp P Q a w := by
  have e : (fun a' => ∀ w9, Below w0.heap.size w0 w9 → Q .normal a' w9) = (fun a' : Act => ∀ w', (∃ s : BW w0, w' = s.w) → Q .normal a' w') :=
    funext fun a' => propext ⟨fun h w' ⟨s, hs⟩ => hs ▸ h s.w s.hb, fun h w9 hb => h w9 ⟨⟨w9, hb⟩, rfl⟩⟩
  rw [e] at h
  exact wp_region_quiet (C := fun w' => ∃ s : BW w0, w' = s.w) hm hB ⟨⟨_, bl_drew h0⟩, rfl⟩ (by simpa using h)
theorem quiet_bw {P : Program} {f : FuncId} {args : Array Value} {w0 : World} {s : BW w0} {v : Value} (h : Calls P f args s.w fun e w' => e = .returned v ∧ Below s.w.heap.size s.w w') :
    Calls P f args s.w fun e w'' => e = .returned v ∧ ∃ s' : BW w0, w'' = s'.w :=
  h.mono fun _ w' ⟨he, hb⟩ => ⟨he, ⟨w', s.hb.trans (hb.mono s.hb.size)⟩, rfl⟩
theorem pw_le {l : Int} (h : l ≤ 16) : pw l ≤ 65536 := by
  unfold pw
  have h1 : l.toNat ≤ 16 := by omega
  have h2 := Nat.pow_le_pow_right (show 0 < 2 by omega) h1
  have h3 : ((2 ^ l.toNat : Nat) : Int) ≤ ((2 ^ 16 : Nat) : Int) := Int.ofNat_le.2 h2
  simpa using h3
theorem reads_four {w : World} {B b off n j : Nat} {L : List Cl} (h : Reads w B 3 (some ⟨b, off, none⟩) n (cvs L)) (hj : j + 3 < n) :
    Reads w B 3 (some ⟨b, off + j * 3, none⟩) 4 (cvs [gt L j, gt L (j + 1), gt L (j + 2), gt L (j + 3)]) := by
  obtain ⟨_, _, e, hb, a0, a1, a2⟩ := h.elem (k := j) (by omega)
  cases e
  obtain ⟨_, _, e, _, b0, b1, b2⟩ := h.elem (k := j + 1) (by omega)
  cases e
  obtain ⟨_, _, e, _, c0, c1, c2⟩ := h.elem (k := j + 2) (by omega)
  cases e
  obtain ⟨_, _, e, _, d0, d1, d2⟩ := h.elem (k := j + 3) (by omega)
  cases e
  have e1 : off + (j + 1) * 3 = off + j * 3 + 3 := by omega
  have e2 : off + (j + 2) * 3 = off + j * 3 + 6 := by omega
  have e3 : off + (j + 3) * 3 = off + j * 3 + 9 := by omega
  rw [e1] at b0 b1 b2
  rw [e2] at c0 c1 c2
  rw [e3] at d0 d1 d2
  generalize gt L j = x at *
  generalize gt L (j + 1) = y at *
  generalize gt L (j + 2) = z at *
  generalize gt L (j + 3) = u at *
  refine ⟨rfl, fun _ => ⟨_, rfl, hb, fun i v hv => ?_⟩⟩
  rw [Go.WideShapes.add_plain]
  match i, hv with
  | 0, hv => cases hv; exact a0
  | 1, hv => cases hv; exact a1
  | 2, hv => cases hv; exact a2
  | 3, hv => cases hv; exact b0
  | 4, hv => cases hv; exact b1
  | 5, hv => cases hv; exact b2
  | 6, hv => cases hv; exact c0
  | 7, hv => cases hv; exact c1
  | 8, hv => cases hv; exact c2
  | 9, hv => cases hv; exact d0
  | 10, hv => cases hv; exact d1
  | 11, hv => cases hv; exact d2
  | i + 12, hv => cases hv
set_option maxHeartbeats 2000000 in
set_option maxRecDepth 100000 in
theorem refVR_any (A : Option Addr) (n ca : Nat) (L : List Cl) (w : World) (hr : Reads w w.heap.size 3 A n (cvs L)) (hn : n ≤ ca) (hca : ca ≤ maxLen) :
    Calls Tryz.prog 18 #[.slice A n ca] w fun e w' => e = .returned (.bool (rvrB L)) ∧ Below w.heap.size w w' := by
  have hl := hr.len
  unfold maxLen at hca
  obtain ⟨R, hR⟩ : ∃ R, R = rvrB L := ⟨_, rfl⟩
  rw [← hR]
  have HR := Lib.hid hR
  have HL := Lib.hid hl
  have RD := Lib.hid hr
  clear hR hl hr
  by_cases hbig : 4000 < n
  · have e1 := Lib.hid (rvr_long (L := L) (by rw [HL.out]; exact hbig))
    go_enter Tryz.func18, Tryz.ntmps18
    go_wp2
    go_ret
    exact ⟨ret_bool (by rw [HR.out, e1.out]), Below.refl _ _⟩
  · go_enter Tryz.func18, Tryz.ntmps18
    go_wp2
    go_loopw [3] (fun i wr => ∃ k : Nat, k ≤ n ∧ i = .int .i64 k ∧ VTo L k ∧ Below w.heap.size w wr) (fun i _ => n - (intOf i).toNat)
    case atStart => exact ⟨0, Nat.zero_le _, rfl, VTo.zero L, Below.refl _ _⟩
    case round =>
      obtain ⟨k, hk, rfl, hV, hbr⟩ := hrel
      have zr := hbr.size
      by_cases hlt : k < n
      · have hR2 := RD.out.below hbr
        obtain ⟨b, off, rfl, hb, x1, x2, x3⟩ := hR2.elem hlt
        have hkl : k < L.length := by rw [HL.out]; exact hlt
        have y1 := Lib.hid (fun h => VTo.succ hV h)
        have y2 := Lib.hid (bad_at hkl)
        clear hR2
        generalize gt L k = y at x1 x2 x3 y1 y2
        obtain ⟨ya, yb, yc⟩ := y
        simp only [] at x1 x2 x3 y1 y2
        have V := Lib.hid (fun W => refValid_any ya yb yc W)
        cases hv : vldB ya yb yc with
        | true =>
          have h3 := Lib.hid (y1.out hv)
          rw [hv] at V
          clear y1 y2 hv
          go_wp2_with (go_at_call 43; (with_reducible refine (V.out _).mono ?_); rintro e w1 ⟨rfl, hb1⟩)
          go_roundw
          case rel => exact ⟨k + 1, by omega, by go_num, h3.out, hbr.trans (hb1.mono zr)⟩
          case measure => simp [intOf]; omega
        | false =>
          have h3 := Lib.hid (y2.out hv)
          rw [hv] at V
          clear y1 y2 hv
          go_wp2_with (go_at_call 43; (with_reducible refine (V.out _).mono ?_); rintro e w1 ⟨rfl, hb1⟩)
          go_ret
          exact ⟨ret_bool (by rw [HR.out, h3.out]), hbr.trans (hb1.mono zr)⟩
      · have hkn : k = n := by omega
        have hV' : VTo L L.length := by rw [HL.out]; exact hkn ▸ hV
        have HV := Lib.hid hV'
        have HBr := Lib.hid hbr
        clear hV hV' hbr hkn hk
        go_wp2
        go_loopw [4] (fun i wr2 => ∃ k j : Nat, k = j + 1 ∧ i = .int .i64 k ∧ PairsTo L k ∧ Below w.heap.size w wr2) (fun i _ => n + 1 - (intOf i).toNat)
        case atStart => exact ⟨1, 0, rfl, rfl, PairsTo.one L, HBr.out⟩
        case round =>
          clear HBr hlt zr
          obtain ⟨k, j, hkj, rfl, hP, hbr⟩ := hrel
          have zr := hbr.size
          by_cases hlt : k < n
          · have hj : j < n := by omega
            obtain ⟨b, off, rfl, hb, x1, x2, x3⟩ := RD.out.elem hj
            obtain ⟨b', off', e', _, y1, y2, y3⟩ := RD.out.elem hlt
            cases e'
            have hvx := HV.out j (by rw [HL.out]; omega)
            have hvy := HV.out k (by rw [HL.out]; omega)
            have p1 : Hid (pairOk (gt L j) (gt L k) = true → PairsTo L (k + 1)) := Lib.hid (by subst hkj; exact fun h => PairsTo.succ hP h)
            have p2 : Hid (pairOk (gt L j) (gt L k) = false → rvrB L = false) := Lib.hid (by subst hkj; exact pairs_no (by rw [HL.out]; omega))
            clear hP
            generalize gt L j = x at x1 x2 x3 hvx p1 p2
            generalize gt L k = y at y1 y2 y3 hvy p1 p2
            obtain ⟨xa, xb, xc⟩ := x
            obtain ⟨ya, yb, yc⟩ := y
            simp only [] at x1 x2 x3 y1 y2 y3 hvx hvy
            obtain ⟨vx0, vx1, -⟩ := vldB_true.1 hvx
            obtain ⟨vy0, vy1, -⟩ := vldB_true.1 hvy
            have W1 := Lib.hid (fun W => Within_any ya yb yc xa xb xc W vy0 vy1 vx0 vx1)
            have W2 := Lib.hid (fun W => Within_any xa xb xc ya yb yc W vx0 vx1 vy0 vy1)
            have W3 := Lib.hid (fun W => before_any xa xb xc ya yb yc W vx0 vx1 vy0 vy1)
            clear hvx hvy vx0 vx1 vy0 vy1
            have SJ : Hid (IntKind.i64.wrap ((k : Int) - 1) = (j : Int)) := Lib.hid ((IntWalk.i64_in _ (by omega)).trans (by omega))
            clear hkj
            have cx1 : ∀ s : BW w, s.w.cell? ⟨b, off + j * 3, none⟩ = some (.int .i64 xa) := fun s => (s.hb.cell (p := ⟨b, off + j * 3, none⟩) hb).trans x1
            have cx2 : ∀ s : BW w, s.w.cell? ⟨b, off + j * 3 + 1, none⟩ = some (.int .i64 xb) := fun s => (s.hb.cell (p := ⟨b, off + j * 3 + 1, none⟩) hb).trans x2
            have cx3 : ∀ s : BW w, s.w.cell? ⟨b, off + j * 3 + 2, none⟩ = some (.int .i64 xc) := fun s => (s.hb.cell (p := ⟨b, off + j * 3 + 2, none⟩) hb).trans x3
            have cy1 : ∀ s : BW w, s.w.cell? ⟨b, off + k * 3, none⟩ = some (.int .i64 ya) := fun s => (s.hb.cell (p := ⟨b, off + k * 3, none⟩) hb).trans y1
            have cy2 : ∀ s : BW w, s.w.cell? ⟨b, off + k * 3 + 1, none⟩ = some (.int .i64 yb) := fun s => (s.hb.cell (p := ⟨b, off + k * 3 + 1, none⟩) hb).trans y2
            have cy3 : ∀ s : BW w, s.w.cell? ⟨b, off + k * 3 + 2, none⟩ = some (.int .i64 yc) := fun s => (s.hb.cell (p := ⟨b, off + k * 3 + 2, none⟩) hb).trans y3
            clear x1 x2 x3 y1 y2 y3
            go_upto_region 11 with (fail)
            have sj := SJ.out
            cases c1 : wiB (ya, yb, yc) (xa, xb, xc) with
            | true =>
              have h3 := Lib.hid (p2.out (by simp [pairOk, c1]))
              rw [c1] at W1
              clear p1 p2 c1
              refine wp_region_bw w (by kernel_rfl) (by kernel_rfl) hbr ?_
              (repeat (go_big_quiet_step (first | (go_at_call 44; with_reducible exact quiet_bw (W1.out _)) | (go_at_call 44; with_reducible exact quiet_bw (W2.out _)) | (go_at_call 45; with_reducible exact quiet_bw (W3.out _)) | fail)))
              refine wpQuiet_nil ?_
              intro w9 hb9
              clear sj cx1 cx2 cx3 cy1 cy2 cy3 SJ W1 W2 W3 hbr zr
              go_wp2
              go_ret
              exact ⟨ret_bool (by rw [HR.out, h3.out]), hb9⟩
            | false =>
              rw [c1] at W1
              cases c2 : wiB (xa, xb, xc) (ya, yb, yc) with
              | true =>
                have h3 := Lib.hid (p2.out (by simp [pairOk, c2]))
                rw [c2] at W2
                clear p1 p2 c1 c2
                refine wp_region_bw w (by kernel_rfl) (by kernel_rfl) hbr ?_
                (repeat (go_big_quiet_step (first | (go_at_call 44; with_reducible exact quiet_bw (W1.out _)) | (go_at_call 44; with_reducible exact quiet_bw (W2.out _)) | (go_at_call 45; with_reducible exact quiet_bw (W3.out _)) | fail)))
                refine wpQuiet_nil ?_
                intro w9 hb9
                clear sj cx1 cx2 cx3 cy1 cy2 cy3 SJ W1 W2 W3 hbr zr
                go_wp2
                go_ret
                exact ⟨ret_bool (by rw [HR.out, h3.out]), hb9⟩
              | false =>
                rw [c2] at W2
                cases c3 : befB (xa, xb, xc) (ya, yb, yc) with
                | false =>
                  have h3 := Lib.hid (p2.out (by simp [pairOk, c3]))
                  rw [c3] at W3
                  clear p1 p2 c1 c2 c3
                  refine wp_region_bw w (by kernel_rfl) (by kernel_rfl) hbr ?_
                  (repeat (go_big_quiet_step (first | (go_at_call 44; with_reducible exact quiet_bw (W1.out _)) | (go_at_call 44; with_reducible exact quiet_bw (W2.out _)) | (go_at_call 45; with_reducible exact quiet_bw (W3.out _)) | fail)))
                  refine wpQuiet_nil ?_
                  intro w9 hb9
                  clear sj cx1 cx2 cx3 cy1 cy2 cy3 SJ W1 W2 W3 hbr zr
                  go_wp2
                  go_ret
                  exact ⟨ret_bool (by rw [HR.out, h3.out]), hb9⟩
                | true =>
                  have h3 := Lib.hid (p1.out (by simp [pairOk, c1, c2, c3]))
                  rw [c3] at W3
                  clear p1 p2 c1 c2 c3
                  refine wp_region_bw w (by kernel_rfl) (by kernel_rfl) hbr ?_
                  (repeat (go_big_quiet_step (first | (go_at_call 44; with_reducible exact quiet_bw (W1.out _)) | (go_at_call 44; with_reducible exact quiet_bw (W2.out _)) | (go_at_call 45; with_reducible exact quiet_bw (W3.out _)) | fail)))
                  refine wpQuiet_nil ?_
                  intro w9 hb9
                  clear sj cx1 cx2 cx3 cy1 cy2 cy3 SJ W1 W2 W3 hbr zr
                  go_wp2
                  go_roundw
                  case rel => exact ⟨k + 1, k, rfl, by go_num, h3.out, hb9⟩
                  case measure => simp [intOf]; omega
          · have hP' : PairsTo L L.length := by rw [HL.out]; exact hP.less (by omega)
            have HP := Lib.hid hP'
            have HBr := Lib.hid hbr
            clear hP hP' hbr hkj
            go_wp2
            go_loopw [5] (fun i wr2 => ∃ k j : Nat, k = j + 3 ∧ i = .int .i64 k ∧ FoursTo L k ∧ Below w.heap.size w wr2) (fun i _ => n + 3 - (intOf i).toNat)
            case atStart => exact ⟨3, 0, rfl, rfl, FoursTo.three L, HBr.out⟩
            case round =>
              clear HBr hlt zr
              obtain ⟨k, j, hkj, rfl, hF, hbr⟩ := hrel
              have zr := hbr.size
              by_cases hlt : k < n
              · have hR2 := RD.out.below hbr
                have hj : j + 3 < n := by omega
                obtain ⟨b, off, rfl, hb, u1, u2, u3⟩ := hR2.elem hlt
                have R4 := Lib.hid (fun (W : World) (hW : Below w.heap.size w W) => ((reads_four (RD.out.below hW) hj).more hW.size))
                have hvx := HV.out j (by rw [HL.out]; omega)
                have f1 : Hid (fourOk (gt L j) (gt L (j + 1)) (gt L (j + 2)) (gt L k) = true → FoursTo L (k + 1)) := Lib.hid (by subst hkj; exact fun h => FoursTo.succ hF h)
                have f2 : Hid (fourOk (gt L j) (gt L (j + 1)) (gt L (j + 2)) (gt L k) = false → rvrB L = false) := Lib.hid (by subst hkj; exact fours_no (by rw [HL.out]; omega))
                rw [← hkj] at R4
                clear hR2 hF
                generalize gt L k = u at u1 u2 u3 R4 f1 f2
                generalize gt L j = x at hvx R4 f1 f2
                generalize gt L (j + 1) = y at R4 f1 f2
                generalize gt L (j + 2) = z at R4 f1 f2
                obtain ⟨ua, ub, uc⟩ := u
                obtain ⟨xa, xb, xc⟩ := x
                simp only [] at u1 u2 u3 hvx
                have blt := Nat.lt_of_lt_of_le hb zr
                have B4 := Lib.hid (fun (W : World) (hW : Below w.heap.size w W) (c : Nat) => by
                  obtain ⟨g0, g1, g2, g3, g4, g5⟩ := vldB_true.1 hvx
                  have gp := pw_le g1
                  exact brothers_any (some ⟨b, off + j * 3, none⟩) c xa xb xc y z (ua, ub, uc) W (R4.out W hW) g0 g1 g2 (by omega) g4 (by omega))
                clear R4 hvx
                have hlo : (k : Int) - 3 = (j : Int) := by omega
                have hl4 : k + 1 - j = 4 := by omega
                have hjk : (j : Int) ≤ (k : Int) + 1 := by omega
                have hkc : (k : Int) + 1 ≤ (ca : Int) := by omega
                have HKJ := Lib.hid hkj
                clear hkj
                by_cases hpos : 0 < ua
                · cases hb4 : broB (xa, xb, xc) y z (ua, ub, uc) with
                  | true =>
                    have h3 := Lib.hid (f2.out (by simp [fourOk, hpos, hb4]))
                    rw [hb4] at B4
                    clear f1 f2
                    go_wp2_with fail
                    (with_reducible refine (B4.out _ hbr _).mono ?_)
                    rintro e w9 ⟨rfl, hb9⟩
                    go_wp2
                    go_ret
                    exact ⟨ret_bool (by rw [HR.out, h3.out]), hbr.trans (hb9.mono zr)⟩
                  | false =>
                    have h3 := Lib.hid (f1.out (by simp [fourOk, hb4]))
                    rw [hb4] at B4
                    clear f1 f2
                    go_wp2_with fail
                    (with_reducible refine (B4.out _ hbr _).mono ?_)
                    rintro e w9 ⟨rfl, hb9⟩
                    clear hlo hl4 hjk hkc
                    go_wp2
                    go_roundw
                    case rel => exact ⟨k + 1, j + 1, by have := HKJ.out; omega, by go_num, h3.out, hbr.trans (hb9.mono zr)⟩
                    case measure => simp [intOf]; omega
                · have h3 := Lib.hid (f1.out (by simp [fourOk, hpos]))
                  clear f1 f2 hlo hl4 hjk hkc
                  go_wp2
                  go_roundw
                  case rel => exact ⟨k + 1, j + 1, by have := HKJ.out; omega, by go_num, h3.out, hbr⟩
                  case measure => simp [intOf]; omega
              · have h3 : R = true := by
                  rw [HR.out]
                  exact rvr_yes (by rw [HL.out]; omega) HV.out HP.out (by rw [HL.out]; exact hF.less (by omega))
                have H3 := Lib.hid h3
                clear h3 hF hkj
                go_wp2
                go_ret
                exact ⟨ret_bool (by rw [H3.out]), hbr⟩
end Go.Proofs.YtleigbbgilcckaaGreat
