/- slices.Backward at arcs: the iterator's contract. -/
import Derived.Shelf.Abstract
import Derived.RangeFuncNested
import Derived.RangeFuncBound
import Derived.RangeFuncCalls
import Derived.RangeFuncLeaves
import Derived.RangeFuncBox
import Derived.Shelf.RegionOpen
import Derived.WalkKit
import Derived.OwnWalkIn
import Derived.TacticsInMore
import Derived.LoopNIn
import Derived.LoopIn
import Derived.Maps.AppendAt
import Derived.Test.YtfeianjdedgdoaaGVi
import Derived.Test.YtfeianjdedgdoaaGBi
set_option linter.unusedVariables false
set_option linter.unusedSimpArgs false
/- Small walks for layer 52: angle.Wrap, angle.Signed, circles.longitudes, choose.fold. -/
namespace Go.Proofs.Ytfeianjdedgdoaa
open Go.RowKit
theorem tmodQ_cases (n : Int) : (0 ≤ n ∧ n.tmod 21600000 = n % 21600000) ∨ (n < 0 ∧ n.tmod 21600000 = -((-n) % 21600000)) := by
  by_cases h : 0 ≤ n
  · exact .inl ⟨h, Int.tmod_eq_emod_of_nonneg h⟩
  · refine .inr ⟨by omega, ?_⟩
    have h1 : (-n).tmod 21600000 = (-n) % 21600000 := Int.tmod_eq_emod_of_nonneg (by omega)
    rw [Int.neg_tmod] at h1
    omega
theorem tmodQ_pos {n : Int} (h : 0 ≤ n.tmod 21600000) : n.tmod 21600000 = n % 21600000 := by
  rcases tmodQ_cases n with ⟨h1, h2⟩ | ⟨h1, h2⟩ <;> omega
theorem tmodQ_neg {n : Int} (h : n.tmod 21600000 < 0) : n.tmod 21600000 + 21600000 = n % 21600000 := by
  rcases tmodQ_cases n with ⟨h1, h2⟩ | ⟨h1, h2⟩ <;> omega
set_option maxHeartbeats 400000 in
theorem WrapQ_any (n : Int) (w : World) : Calls Try.prog 15 #[.int .i64 n] w fun e w' => e = .returned (.int .i64 (n % 21600000)) ∧ Below w.heap.size w w' := by
  go_enter Try.func15, Try.ntmps15
  go_wp2
  all_goals
    go_ret
    refine ⟨ret_int ?_, ?_⟩
    · first | (exact tmodQ_pos (by assumption)) | (rw [IntWalk.wrap64_in _ (by have := tmodQ_neg (n := n) (by assumption); omega)]; exact tmodQ_neg (by assumption))
    · repeat (first | exact Below.refl _ _ | assumption | refine bl_drew ?_ | refine bl_drewN ?_ _ | refine Below.setCell ?_ (by first | assumption | omega | (simp; done) | (simp; omega)) _ | refine Below.alloc ?_ (by first | assumption | omega | (simp; done) | (simp; omega)) _)
def sgQ (n : Int) : Int := if 10800000 ≤ n % 21600000 then n % 21600000 - 21600000 else n % 21600000
theorem sgQ_bd (n : Int) : -10800000 ≤ sgQ n ∧ sgQ n < 10800000 := by unfold sgQ; omega
set_option maxHeartbeats 400000 in
theorem SignedQ_any (n : Int) (w : World) : Calls Try.prog 51 #[.int .i64 n] w fun e w' => e = .returned (.int .i64 (sgQ n)) ∧ Below w.heap.size w w' := by
  have K := Lib.hid (fun W => WrapQ_any n W)
  have hm : 0 ≤ n % 21600000 ∧ n % 21600000 < 21600000 := by omega
  unfold sgQ
  generalize n % 21600000 = m at *
  by_cases hc : 10800000 ≤ m
  all_goals
    simp only [hc, if_true, if_false]
    go_enter Try.func51, Try.ntmps51
    go_wp2_with fail
    (with_reducible refine (K.out _).mono ?_)
    rintro e w1 ⟨rfl, hb1⟩
    go_wp2
    go_ret
    exact ⟨ret_int (by first | rfl | omega), hb1⟩
/-- some arc -/
def AnyArc (e : Ending) : Prop := ∃ a b : Int, e = .returned (.agg #[.int .i64 a, .int .i64 b])
set_option maxHeartbeats 1000000 in
set_option maxRecDepth 100000 in
theorem longitudesQ_any (lo hi : Int) (w : World) (h0 : -1000000000 ≤ lo) (h1 : lo ≤ hi) (h2 : hi ≤ 1000000000) : Calls Try.prog 36 #[.agg #[.int .i64 lo, .int .i64 hi]] w fun e w' => AnyArc e ∧ Below w.heap.size w w' := by
  have K := Lib.hid (fun W => SignedQ_any lo W)
  have hb := sgQ_bd lo
  generalize sgQ lo = sg at *
  have n0 : wrap64 (hi - lo) = hi - lo := IntWalk.wrap64_in _ (by omega)
  have n1 : wrap64 (sg + hi) = sg + hi := IntWalk.wrap64_in _ (by omega)
  have n2 : wrap64 (sg + hi - lo) = sg + hi - lo := IntWalk.wrap64_in _ (by omega)
  have Z0 := Lib.hid (D2.new (w.alloc (.cells #[.int .i64 lo, .int .i64 hi] 26)) 0 0 26)
  have A0 := Lib.hid ((D2.new w lo hi 26).alloc (.cells #[.int .i64 0, .int .i64 0] 26))
  have B0 := Lib.hid ((bl_alloc w (.cells #[.int .i64 lo, .int .i64 hi] 26)).alloc (by simp) (.cells #[.int .i64 0, .int .i64 0] 26))
  rw [World.size_alloc] at Z0
  by_cases hc : 21600000 ≤ hi - lo
  · have hd : decide (21600000 ≤ hi - lo) = true := decide_eq_true hc
    obtain ⟨zt, z0, z1, zf0, zf1⟩ := Z0.out
    clear A0
    go_enter Try.func36, Try.ntmps36
    go_wp2
    refine bodyPost_ret (v := .agg #[.int .i64 (-10800000), .int .i64 10800000]) (by simp [results, Try.results36, go_sem, *]) rfl ⟨⟨_, _, rfl⟩, ?_⟩
    clear B0 Z0
    repeat (first | exact Below.refl _ _ | assumption | refine bl_drew ?_ | refine bl_drewN ?_ _ | refine Below.setCell ?_ (by first | assumption | omega | (simp; done) | (simp; omega)) _ | refine Below.alloc ?_ (by first | assumption | omega | (simp; done) | (simp; omega)) _)
  · have hd : decide (21600000 ≤ hi - lo) = false := decide_eq_false hc
    go_enter Try.func36, Try.ntmps36
    go_wp2_with fail
    (with_reducible refine (K.out _).mono ?_)
    rintro e w1 ⟨rfl, hb1⟩
    obtain ⟨zt, z0, z1, zf0, zf1⟩ := Z0.out.below hb1 Z0.out.lt
    obtain ⟨at', a0, a1, -, -⟩ := A0.out.below hb1 A0.out.lt
    have B1 := Lib.hid (B0.out.trans (hb1.mono B0.out.size))
    clear hb1 A0 Z0 B0
    go_wp2
    refine bodyPost_ret (v := .agg #[.int .i64 sg, .int .i64 (sg + hi - lo)]) (by simp [results, Try.results36, go_sem, *]) rfl ⟨⟨_, _, rfl⟩, ?_⟩
    exact (B1.out.setCell (by simp only []; omega) _).setCell (by simp only []; omega) _
/-- a world that left what was there alone -/
structure BVq (w0 : World) where
  w : World
  hb : Below w0.heap.size w0 w
instance bvqSome (w0 : World) : Nonempty (BVq w0) := ⟨⟨w0, Below.refl _ _⟩⟩
theorem wp_region_bvq {P : Program} {id : Nat} {Q : Exit → Act → World → Prop} {a : Act} {w : World} {l : List Oper} (w0 : World) (hm : P.follows .mixedOrders = true) (hB : Region.lexB .any l.toArray = true) (h0 : Below w0.heap.size w0 w)
    (h : wpQuiet P l.toArray (fun w' => ∃ s : BVq w0, w' = s.w) (fun a' => ∀ w9, Below w0.heap.size w0 w9 → Q .normal a' w9) l a) : (Code.region id l.toArray true).wp P Q a w := by
  have e : (fun a' => ∀ w9, Below w0.heap.size w0 w9 → Q .normal a' w9) = (fun a' : Act => ∀ w', (∃ s : BVq w0, w' = s.w) → Q .normal a' w') :=
    funext fun a' => propext ⟨fun h w' ⟨s, hs⟩ => hs ▸ h s.w s.hb, fun h w9 hb => h w9 ⟨⟨w9, hb⟩, rfl⟩⟩
  rw [e] at h
  exact wp_region_quiet (C := fun w' => ∃ s : BVq w0, w' = s.w) hm hB ⟨⟨_, bl_drew h0⟩, rfl⟩ (by simpa using h)
theorem quiet_bvq {P : Program} {f : FuncId} {args : Array Value} {w0 : World} {s : BVq w0} {v : Value} (h : Calls P f args s.w fun e w' => e = .returned v ∧ Below s.w.heap.size s.w w') :
    Calls P f args s.w fun e w'' => e = .returned v ∧ ∃ s' : BVq w0, w'' = s'.w :=
  h.mono fun _ w' ⟨he, hb⟩ => ⟨he, ⟨w', s.hb.trans (hb.mono s.hb.size)⟩, rfl⟩
theorem nearV_pos {n : Int} (h0 : 0 ≤ n) : n.tmod 10800000 = n % 10800000 := Int.tmod_eq_emod_of_nonneg h0
set_option maxHeartbeats 400000 in
theorem near_any (n : Int) (w : World) (h0 : 0 ≤ n) (h1 : n ≤ 1000000000) : Calls Try.prog 21 #[.int .i64 n] w fun e w' => e = .returned (.int .i64 (Spd.near n)) ∧ Below w.heap.size w w' := by
  have e0 := nearV_pos h0
  have n1 : wrap64 (10800000 - n % 10800000) = 10800000 - n % 10800000 := IntWalk.wrap64_in _ (by omega)
  unfold Spd.near
  generalize n % 10800000 = m at *
  go_enter Try.func21, Try.ntmps21
  go_wp2
  go_ret
  exact ⟨rfl, by repeat (first | exact Below.refl _ _ | assumption | refine bl_drew ?_ | refine bl_drewN ?_ _ | refine Below.setCell ?_ (by first | assumption | omega | (simp; done) | (simp; omega)) _ | refine Below.alloc ?_ (by first | assumption | omega | (simp; done) | (simp; omega)) _)⟩
set_option maxHeartbeats 1000000 in
set_option maxRecDepth 100000 in
theorem fold_any (lo hi : Int) (w : World) (h0 : 0 ≤ lo) (h1 : lo ≤ hi) (h2 : hi ≤ 1000000000) : Calls Try.prog 16 #[.agg #[.int .i64 lo, .int .i64 hi]] w fun e w' => e = .returned (.int .i64 (Spd.foldV lo hi)) ∧ Below w.heap.size w w' := by
  have KL := Lib.hid (fun W => near_any lo W h0 (by omega))
  have KH := Lib.hid (fun W => near_any hi W (by omega) h2)
  have n0 : wrap64 (lo + 10800000) = lo + 10800000 := IntWalk.wrap64_in _ (by omega)
  have n1 : wrap64 (lo + 10800000 - 1) = lo + 10800000 - 1 := IntWalk.wrap64_in _ (by omega)
  have n2 : Int.tdiv (lo + 10800000 - 1) 10800000 = (lo + 10799999) / 10800000 := by rw [Int.tdiv_eq_ediv_of_nonneg (by omega), show lo + 10800000 - 1 = lo + 10799999 by omega]
  have n3 : wrap64 ((lo + 10799999) / 10800000) = (lo + 10799999) / 10800000 := IntWalk.wrap64_in _ (by omega)
  have n4 : wrap64 ((lo + 10799999) / 10800000 * 10800000) = (lo + 10799999) / 10800000 * 10800000 := IntWalk.wrap64_in _ (by omega)
  unfold Spd.foldV
  generalize Spd.near lo = a at *
  generalize Spd.near hi = b at *
  have A0 := Lib.hid (D2.new w lo hi 26)
  have B0 := Lib.hid (bl_alloc w (.cells #[.int .i64 lo, .int .i64 hi] 26))
  generalize (lo + 10799999) / 10800000 = m at *
  obtain ⟨r, hr⟩ : ∃ r, m * 10800000 = r := ⟨_, rfl⟩
  rw [hr] at n4 ⊢
  have n5 : wrap64 (m * 10800000) = r := by rw [hr]; exact n4
  clear hr
  by_cases hc : r ≤ hi
  · have hd : decide (r ≤ hi) = true := decide_eq_true hc
    rw [if_pos hc]
    clear hc
    go_enter Try.func16, Try.ntmps16
    go_wp2
    go_ret
    exact ⟨rfl, B0.out⟩
  · have hd : decide (r ≤ hi) = false := decide_eq_false hc
    rw [if_neg hc]
    clear hc
    go_enter Try.func16, Try.ntmps16
    go_upto_region 5 with (fail)
    have c0 : ∀ s : BVq (w.alloc (.cells #[.int .i64 lo, .int .i64 hi] 26)), s.w.cell? ⟨w.heap.size, 0, none⟩ = some (.int .i64 lo) := fun s => (A0.out.below s.hb A0.out.lt).c0
    have c1 : ∀ s : BVq (w.alloc (.cells #[.int .i64 lo, .int .i64 hi] 26)), s.w.cell? ⟨w.heap.size, 1, none⟩ = some (.int .i64 hi) := fun s => (A0.out.below s.hb A0.out.lt).c1
    refine wp_region_bvq (w.alloc (.cells #[.int .i64 lo, .int .i64 hi] 26)) (by kernel_rfl) (by kernel_rfl) (Below.refl _ _) ?_
    (repeat (go_big_quiet_step (first | (go_at_call 21; with_reducible exact quiet_bvq (KL.out _)) | (go_at_call 21; with_reducible exact quiet_bvq (KH.out _)) | fail)))
    refine wpQuiet_nil ?_
    intro w9 hb9
    clear c0 c1
    have B9 := Lib.hid (B0.out.trans (hb9.mono B0.out.size))
    clear hb9
    go_wp2
    go_ret
    exact ⟨rfl, B9.out⟩
end Go.Proofs.Ytfeianjdedgdoaa
/- Lists of arcs; slices.ContainsFunc at arcs; the validity of azimuths. -/
namespace Go.Proofs.Ytfeianjdedgdoaa
open Go.RowKit Spd
def aqv (x : Sp) : List Value := [.int .i64 x.1, .int .i64 x.2]
def aqvs (D : List Sp) : List Value := D.flatMap aqv
theorem aqvs_length (D : List Sp) : (aqvs D).length = D.length * 2 := by
  induction D with
  | nil => rfl
  | cons x r ih => simp [aqvs, aqv] at ih ⊢; omega
theorem aqvs_append (L M : List Sp) : aqvs (L ++ M) = aqvs L ++ aqvs M := by simp [aqvs]
theorem aqv_one (x : Sp) : ∀ u ∈ aqv x, u.oneCell' = true := by
  intro u hu
  simp [aqv] at hu
  rcases hu with rfl | rfl <;> rfl
theorem aqvs_at (L : List Sp) (k : Nat) (hk : k < L.length) : (aqvs L)[k * 2]? = some (.int .i64 (gs L k).1) ∧ (aqvs L)[k * 2 + 1]? = some (.int .i64 (gs L k).2) := by
  induction L generalizing k with
  | nil => simp at hk
  | cons x r ih =>
    have hc : aqvs (x :: r) = .int .i64 x.1 :: .int .i64 x.2 :: aqvs r := rfl
    rw [hc]
    match k with
    | 0 => simp [gs]
    | k + 1 =>
      have := ih k (by simpa using hk)
      have e1 : (k + 1) * 2 = k * 2 + 2 := by omega
      have e2 : (k + 1) * 2 + 1 = (k * 2 + 1) + 2 := by omega
      rw [e2, e1]
      simpa [gs] using this
theorem aq_elem {w : World} {B n : Nat} {A : Option Addr} {D : List Sp} (h : Reads w B 2 A n (aqvs D)) {k : Nat} (hk : k < n) :
    ∃ b off, A = some ⟨b, off, none⟩ ∧ b < B ∧ w.cell? ⟨b, off + k * 2, none⟩ = some (.int .i64 (gs D k).1) ∧ w.cell? ⟨b, off + k * 2 + 1, none⟩ = some (.int .i64 (gs D k).2) := by
  have hl : D.length = n := by have := h.1; rw [aqvs_length] at this; omega
  obtain ⟨ad, rfl, hb, hc⟩ := h.2 (by omega)
  obtain ⟨b, off, spot⟩ := ad
  obtain ⟨z1, _⟩ := aqvs_at D 0 (by omega)
  have hspot : spot = none := by simpa [Addr.add] using World.cell?_spot (hc 0 _ (by simpa using z1))
  subst hspot
  obtain ⟨y1, y2⟩ := aqvs_at D k (by omega)
  refine ⟨b, off, rfl, hb, ?_, ?_⟩
  · have := hc _ _ y1; rw [Go.WideShapes.add_plain] at this; exact this
  · have := hc _ _ y2; rw [Go.WideShapes.add_plain] at this; exact this
theorem aq_len {w : World} {B n : Nat} {A : Option Addr} {D : List Sp} (h : Reads w B 2 A n (aqvs D)) : D.length = n := by have := h.1; rw [aqvs_length] at this; omega
def IdxPostQ (w : World) (b : Bool) (e : Ending) (w' : World) : Prop := ∃ k : Int, e = .returned (.int .i64 k) ∧ decide (0 ≤ k) = b ∧ Below w.heap.size w w'
theorem anyQ_take (L : List Sp) (p : Sp → Bool) (k : Nat) (hk : k < L.length) (h : (L.take k).any p = false) (hp : p (gs L k) = false) : (L.take (k + 1)).any p = false := by
  rw [List.take_succ_eq_append_getElem hk, List.any_append, h]
  simp [gs, hk] at hp
  simp [hp]
theorem anyQ_of (L : List Sp) (p : Sp → Bool) (k : Nat) (hk : k < L.length) (hp : p (gs L k) = true) : L.any p = true := by
  rw [List.any_eq_true]
  simp [gs, hk] at hp
  exact ⟨L[k], List.getElem_mem hk, hp⟩

set_option maxHeartbeats 1000000 in
set_option maxRecDepth 100000 in
theorem idxQ_any (g : Nat) (lb : Array Value) (p : Sp → Bool) (eg : ∀ args w, (callFunc g args).run Try.prog w = .ok (.enter g args) w) (A : Option Addr) (n c : Nat) (L : List Sp) (w : World)
    (hr : Reads w w.heap.size 2 A n (aqvs L)) (hn : n ≤ maxLen) (hp : ∀ (W : World) (x : Sp), Below w.heap.size w W → Calls Try.prog g (#[(.agg #[.int .i64 x.1, .int .i64 x.2])] ++ lb) W fun e w' => e = .returned (.bool (p x)) ∧ Below W.heap.size W w') :
    Calls Try.prog 12 #[.slice A n c, .func (.func g) #[] lb] w (IdxPostQ w (L.any p)) := by
  have HL := Lib.hid (aq_len hr)
  have HR := Lib.hid hr
  have HP := Lib.hid hp
  clear hr hp
  unfold maxLen at hn
  go_enter Try.func12, Try.ntmps12
  go_wp2
  go_loopg [8] n (fun gg s8 wr => ∃ kk : Nat, kk ≤ n ∧ n - kk ≤ gg ∧ s8 = .int .i64 kk ∧ Below w.heap.size w wr ∧ (L.take kk).any p = false)
  case atStart => exact ⟨0, Nat.zero_le _, by omega, rfl, Below.refl _ w, rfl⟩
  case round =>
    obtain ⟨kk, hkk, hg, rfl, BW, HA⟩ := hrel
    have HA := Lib.hid HA
    by_cases hlt : kk < n
    · obtain ⟨b, off, rfl, hb, x1, x2⟩ := aq_elem HR.out hlt
      have y1 := (BW.cell (p := ⟨b, off + kk * 2, none⟩) hb).trans x1
      have y2 := (BW.cell (p := ⟨b, off + kk * 2 + 1, none⟩) hb).trans x2
      clear x1 x2
      have hcall := HP.out wr (gs L kk) BW
      have h1 := Lib.hid (anyQ_take L p kk (by rw [HL.out]; exact hlt) HA.out)
      have h2 := Lib.hid (anyQ_of L p kk (by rw [HL.out]; exact hlt))
      cases hq : p (gs L kk) with
      | true =>
        have h3 := Lib.hid (h2.out hq)
        rw [hq] at hcall
        have hcall := Lib.hid hcall
        clear hq h1 h2
        go_wp2_with (go_at_fn g; refine hcall.out.mono ?_; rintro e w' ⟨rfl, hb'⟩)
        go_ret
        exact ⟨kk, rfl, by rw [h3.out]; simp, BW.trans (hb'.mono BW.size)⟩
      | false =>
        have h3 := Lib.hid (h1.out hq)
        rw [hq] at hcall
        have hcall := Lib.hid hcall
        clear hq h1 h2
        go_wp2_with (go_at_fn g; refine hcall.out.mono ?_; rintro e w' ⟨rfl, hb'⟩)
        go_roundg (n - (kk + 1))
        case measure => omega
        case rel => exact ⟨kk + 1, by omega, by omega, by go_num, BW.trans (hb'.mono BW.size), h3.out⟩
    · go_wp2
      go_ret
      have h := HA.out
      rw [List.take_of_length_le (by rw [HL.out]; omega)] at h
      exact ⟨-1, rfl, by rw [h]; rfl, BW⟩

set_option maxHeartbeats 1000000 in
theorem contQ_any (g : Nat) (lb : Array Value) (p : Sp → Bool) (eg : ∀ args w, (callFunc g args).run Try.prog w = .ok (.enter g args) w) (A : Option Addr) (n c : Nat) (L : List Sp) (w : World)
    (hr : Reads w w.heap.size 2 A n (aqvs L)) (hn : n ≤ maxLen) (hp : ∀ (W : World) (x : Sp), Below w.heap.size w W → Calls Try.prog g (#[(.agg #[.int .i64 x.1, .int .i64 x.2])] ++ lb) W fun e w' => e = .returned (.bool (p x)) ∧ Below W.heap.size W w') :
    Calls Try.prog 5 #[.slice A n c, .func (.func g) #[] lb] w fun e w' => e = .returned (.bool (L.any p)) ∧ Below w.heap.size w w' := by
  have H := Lib.hid (idxQ_any g lb p eg A n c L w hr hn hp)
  clear hp hr hn eg
  go_enter Try.func5, Try.ntmps5
  go_wp2_with (go_at_call 12; refine H.out.mono ?_; rintro e w1 ⟨k, rfl, hk, hb⟩; have HK := Lib.hid hk; clear hk)
  go_ret
  exact ⟨ret_bool HK.out, hb⟩
set_option maxHeartbeats 400000 in
theorem badArc_any (x : Sp) (w : World) : Calls Try.prog 13 #[.agg #[.int .i64 x.1, .int .i64 x.2]] w fun e w' => e = .returned (.bool (!(avB x.1 x.2))) ∧ Below w.heap.size w w' := by
  obtain ⟨lo, hi⟩ := x
  have V := Lib.hid (fun w => aVal_any lo hi w)
  generalize avB lo hi = b at V ⊢
  go_enter Try.func13, Try.ntmps13
  go_wp2_with (go_at_call 14; refine (V.out _).mono ?_; rintro e w1 ⟨rfl, hb⟩)
  go_ret
  exact ⟨rfl, one_bl hb⟩
theorem noBad_any (A : Option Addr) (n c : Nat) (L : List Sp) (w : World) (hr : Reads w w.heap.size 2 A n (aqvs L)) (hn : n ≤ maxLen) :
    Calls Try.prog 5 #[.slice A n c, .func (.func 13) #[] #[]] w fun e w' => e = .returned (.bool (L.any fun x => !(avB x.1 x.2))) ∧ Below w.heap.size w w' :=
  contQ_any _ _ _ (enters_of Try.func13 (by kernel_rfl) rfl) A n c L w hr hn fun W x _ => badArc_any x W
end Go.Proofs.Ytfeianjdedgdoaa
namespace Go.Proofs.Ytfeianjdedgdoaa
open Go.RowKit Go.Shelf Spd
def bk (D : List Sp) (k : Nat) : List (Nat × Sp) := (List.range k).map fun j => (D.length - 1 - j, gs D (D.length - 1 - j))
theorem bk_succ (D : List Sp) (k : Nat) : bk D (k + 1) = bk D k ++ [(D.length - 1 - k, gs D (D.length - 1 - k))] := by simp [bk, List.range_succ]
theorem bk_length (D : List Sp) (k : Nat) : (bk D k).length = k := by simp [bk]
theorem bk_pre (D : List Sp) {k n : Nat} (h : k ≤ n) : bk D k <+: bk D n := by
  obtain ⟨m, rfl⟩ := Nat.le.dest h
  rw [bk, bk, List.range_add, List.map_append]
  exact List.prefix_append _ _
theorem bk_trn (D : List Sp) (t : Int) : (bk D D.length).map (fun p => (p.2.1 + t, p.2.2 + t)) = trn D t := by
  refine List.ext_getElem (by simp [bk, trn]) fun i h1 h2 => ?_
  have h := trn_at D t i (by simpa [bk] using h1)
  rw [gs, List.getD_eq_getElem?_getD, List.getElem?_eq_getElem h2] at h
  simp only [Option.getD_some] at h
  rw [h]
  simp [bk]
/-- what a round keeps: all below n₀, and the box of the slice -/
def KB (n₀ Bs : Nat) (A B : World) : Prop := Below n₀ A B ∧ ∀ v, Boxed A Bs 22 v → Boxed B Bs 22 v
theorem kb_t {n₀ Bs : Nat} {A B C : World} (h : KB n₀ Bs A B) (k : KB n₀ Bs B C) : KB n₀ Bs A C := ⟨h.1.trans k.1, fun v hv => k.2 v (h.2 v hv)⟩
theorem kb_b {n₀ Bs : Nat} {w : World} (hn : n₀ ≤ w.heap.size) (W : World) (l : Nat) (o o' : Obj) (hl : w.heap.size ≤ l) (h : W.heap[l]? = some o) (hc : o.isCells = false) (hw : o.isWalk = false) : KB n₀ Bs W (W.putObj l o') :=
  ⟨belowK_b hn W l o o' hl h hc hw, fun v hv => hv.kept (grownBy_putObj' W l o') (fun e => by cases e; rw [show W.heap[Bs]? = _ from hv] at h; cases h; cases hc)⟩
set_option maxRecDepth 100000 in
set_option maxHeartbeats 4000000 in
/-- the iterator of slices.Backward at arcs, for every body that keeps what lay below n₀ and the box -/
theorem back1_in (F : Fence) (n : Nat) (h7 : F.fn 17) (hro : F.round = none) (hn : 1 ≤ n) (l Bs n₀ b off len cap : Nat) (D : List Sp) (hlen : D.length = len) (hreach : len * 16 ≤ 140737488351232) (hb : b < n₀) (J Jx : List (Nat × Sp) → World → Prop)
    (hY : ∀ pre x W, J pre W → pre.length < len → YieldAt F (n - 1) Try.prog l #[.int .i64 (x.1 : Int), .agg #[.int .i64 x.2.1, .int .i64 x.2.2]] W fun e W' =>
      (e = .returned (.bool true) ∧ J (pre ++ [x]) W' ∧ KB n₀ Bs W W') ∨ (e = .returned (.bool false) ∧ Jx (pre ++ [x]) W'))
    (W : World) (hBs : Boxed W Bs 22 (.slice (some ⟨b, off, none⟩) len cap)) (hc : ∀ j, j < len → W.cell? ⟨b, off + j * 2, none⟩ = some (.int .i64 (gs D j).1) ∧ W.cell? ⟨b, off + j * 2 + 1, none⟩ = some (.int .i64 (gs D j).2)) (h0 : J [] W) :
    CallsIn F n Try.prog 17 #[.func (.yield l) #[] #[], .pointer (some ⟨Bs, 0, none⟩)] W fun e W' => (∃ v, e = .returned v) ∧
      ((∃ ys, ys = bk D len ∧ J ys W') ∨ (∃ pre, pre <+: bk D len ∧ Jx pre W')) := by
  have hsa := @Oper.semAt_some
  have hBc := hBs.cell
  refine callsIn_of_wp Try.func17 rfl h7 ?_ hro
  simp only [Try.ntmps17, List.size_toArray, List.length_cons, List.length_nil, Nat.reduceAdd, Nat.reduceSub, Array.replicate_succ, Array.replicate_zero, List.push_toArray, List.append_toArray, List.nil_append, List.cons_append]
  gi_wp2
  gi_loopw [3] (fun i wr => ∃ m : Nat, m ≤ len ∧ i = .int .i64 ((m : Int) - 1) ∧ J (bk D (len - m)) wr ∧ KB n₀ Bs W wr)
    (fun i _ => (intOf i + 1).toNat)
  case atStart => exact ⟨len, Nat.le_refl _, by go_num, by rw [Nat.sub_self]; exact h0, Below.refl _ _, fun _ h => h⟩
  case round =>
    obtain ⟨m, hm, rfl, hJs, hnx⟩ := hrel
    have hBc := (hnx.2 _ hBs).cell
    cases m with
    | succ k =>
      have ek : ((k + 1 : Nat) : Int) - 1 = (k : Int) := by omega
      rw [ek]
      obtain ⟨c1, c2⟩ := hc k (by omega)
      have d1 := (hnx.1.cell (p := ⟨b, off + k * 2, none⟩) hb).trans c1
      have d2 := (hnx.1.cell (p := ⟨b, off + k * 2 + 1, none⟩) hb).trans c2
      obtain ⟨fn, tmps, assign, body, hy, hR⟩ := hY _ (k, gs D k) _ hJs (by rw [bk_length]; omega)
      have hbk : bk D (len - (k + 1)) ++ [(k, gs D k)] = bk D (len - k) := by
        have h := bk_succ D (len - (k + 1))
        rw [show len - (k + 1) + 1 = len - k by omega, show D.length - 1 - (len - (k + 1)) = k by omega] at h
        exact h.symm
      rw [hbk] at hR
      (try dsimp only at hy)
      gi_wp2
      refine hR.mono ?_
      rintro e W3 (⟨rfl, hJ3, hk3⟩ | ⟨rfl, hJx3⟩)
      · gi_wp2
        go_roundw
        case rel => exact ⟨k, by omega, by go_num, hJ3, kb_t hnx hk3⟩
        case measure => simp [intOf]
      · gi_wp2
        refine bodyPost_ret (results_none rfl _ _ _) rfl ?_
        exact ⟨⟨_, rfl⟩, .inr ⟨_, bk_pre D (by omega), hJx3⟩⟩
    | zero =>
      gi_wp2
      go_end0
      exact ⟨⟨_, rfl⟩, .inl ⟨_, rfl, hJs⟩⟩
set_option maxHeartbeats 1000000 in
/-- slices.Backward at arcs: the slice is boxed; the function value captures the box -/
theorem backward_in (F : Fence) (n : Nat) (h5 : F.fn 8) (hro : F.round = none) (a : Option Addr) (len cap : Nat) (w : World) :
    CallsIn F n Try.prog 8 #[.slice a len cap] w fun e w' => e = .returned (.func (.func 17) #[] #[.pointer (some ⟨w.heap.size, 0, none⟩)]) ∧ w' = w.alloc (.cells #[.slice a len cap] 22) := by
  refine callsIn_of_wp Try.func8 rfl h5 ?_ hro
  simp only [Try.ntmps8, List.size_toArray, List.length_cons, List.length_nil, Nat.reduceAdd, Nat.reduceSub, Array.replicate_succ, Array.replicate_zero, List.push_toArray, List.append_toArray, List.nil_append, List.cons_append]
  gi_wp2
  go_ret
  exact ⟨rfl, rfl⟩
theorem back_stops (F : Fence) (n : Nat) (h7 : F.fn 17) (hro : F.round = none) (hn : 1 ≤ n) (Bs n₀ : Nat) (b off len cap : Nat) (D : List Sp) (hlen : D.length = len) (hreach : len * 16 ≤ 140737488351232) (w : World)
    (hc : Boxed w Bs 22 (.slice (some ⟨b, off, none⟩) len cap)) (hb : b < n₀) (hn₀ : n₀ ≤ w.heap.size) (hI : ∀ j, j < len → w.cell? ⟨b, off + j * 2, none⟩ = some (.int .i64 (gs D j).1) ∧ w.cell? ⟨b, off + j * 2 + 1, none⟩ = some (.int .i64 (gs D j).2)) :
    SeqStopsK F n Try.prog 17 #[.pointer (some ⟨Bs, 0, none⟩)] (fun x : Nat × Sp => #[.int .i64 (x.1 : Int), .agg #[.int .i64 x.2.1, .int .i64 x.2.2]]) (KB n₀ Bs) (fun ys => ys = bk D len) (fun pre => pre <+: bk D len) len w := fun l J Jx W hW _ _ hY h0 =>
  back1_in F n h7 hro hn l Bs n₀ b off len cap D hlen hreach hb J Jx hY W ((hW.block _ hc.lt).trans hc) (fun j hj => ⟨(hW.cell (p := ⟨b, off + j * 2, none⟩) (by simp only []; omega)).trans (hI j hj).1, (hW.cell (p := ⟨b, off + j * 2 + 1, none⟩) (by simp only []; omega)).trans (hI j hj).2⟩) h0
theorem blk_own (B : Nat) (t : TypeId) (cs : Array Value) : Own (fun (_ : Unit) W => Blk W B t cs) := fun s X Y row hs hg hrow => Blk.grown hs hg (fun e' => by
  obtain ⟨o, ho, hc⟩ := hrow B e'.symm
  rw [show X.heap[B]? = _ from hs] at ho; cases ho; cases hc)
theorem arc_cells (W : World) (a b : Int) (t : TypeId) : ∀ (j : Nat) (u : Value), [Value.int .i64 a, .int .i64 b][j]? = some u → (W.alloc (.cells #[.int .i64 a, .int .i64 b] t)).cell? ((⟨W.heap.size, 0, none⟩ : Addr).add j) = some u := fun j u hu => by
  match j, hu with
  | 0, hu => simp at hu; subst hu; simp [Addr.add]
  | 1, hu => simp at hu; subst hu; simp [Addr.add]
  | j + 2, hu => simp at hu
theorem Try.infoArc : (Try.prog.info? 26).map (fun i => (i.zero, i.size, i.bytes)) = some (some (.agg #[.int .i64 0, .int .i64 0]), 2, 16) := by kernel_rfl
theorem aqvs_one (D : List Sp) : ∀ u ∈ aqvs D, u.oneCell' = true := by
  intro u hu
  simp only [aqvs, List.mem_flatMap] at hu
  obtain ⟨x, -, hx⟩ := hu
  exact aqv_one x u hx
set_option maxHeartbeats 1000000 in
/-- slices.Clone at arcs -/
theorem cloneArc_any (A : Option Addr) (n ca : Nat) (D : List Sp) (w : World) (hr : Reads w w.heap.size 2 A n (aqvs D)) (hn : n ≤ 1000000) :
    Calls Try.prog 9 #[.slice A n ca] w fun e w' => ∃ v, e = .returned v ∧ w'.ownsRow w.heap.size 26 2 v D.length (aqvs D) ∧ Below w.heap.size w w' := by
  have hl := aq_len hr
  obtain ⟨i0, hi0, hz0, hz1, hzb⟩ := info_parts Try.infoArc
  have RD := Lib.hid hr
  cases A with
  | none =>
    have hn0 : n = 0 := by
      rcases Nat.eq_zero_or_pos n with h | h
      · exact h
      · obtain ⟨ad, e, _⟩ := hr.2 h
        cases e
    subst hn0
    have hD : D = [] := List.eq_nil_of_length_eq_zero hl
    subst hD
    have hq : ∀ (W : World) (c : Nat), (binOp .eql 22 (.slice none 0 c) (.slice none 0 0)).run Try.prog W = .ok (.bool true) W := fun W c => Go.Lib.run_eql_slice_nil W 22 26 none 0 c 0 0 Try.underlying22
    clear hr RD
    go_enter Try.func9, Try.ntmps9
    go_wp2
    go_ret
    exact ⟨_, rfl, own_nil _ _ _ _, Below.refl _ _⟩
  | some ad =>
    have hq : ∀ (W : World) (n c : Nat), (binOp .eql 22 (.slice (some ad) n c) (.slice none 0 0)).run Try.prog W = .ok (.bool false) W := fun W n c => Go.Lib.run_eql_slice_nil W 22 26 (some ad) n c 0 0 Try.underlying22
    clear hr
    go_enter Try.func9, Try.ntmps9
    go_wp2_with (at_builtin; (refine wpList_append_any _ rfl (.tmp 5) (.tmp 6) _ rfl w.heap.size 26 i0 _ 2 16 Try.underlying22 hi0 hz0 hz1 hzb rfl (by decide) (.slice (some ⟨w.heap.size, 0, none⟩) 0 0) 0 [] rfl (own_new w w.heap.size 26 2 0 _ #[] rfl (Nat.le_refl _) rfl (by simp [maxLen])) w.heap.size (some ad) n ca (aqvs D) rfl (RD.out.alloc (Nat.le_refl _) _) (aqvs_one D) (by simp only [maxLen]; omega) (by omega) (by simp) ?_); intro v2 w2 hown2 hg2 hat2)
    go_ret
    rw [Nat.zero_add, List.nil_append] at hown2
    exact ⟨_, rfl, by rw [hl]; exact hown2, ((Below.refl _ _).alloc (Nat.le_refl _) _).grown hg2 (by simp) (fun k hk => by simp [Value.ownBlock] at hk; omega)⟩
/-- the predicate of layer 52: an arc far out -/
def farQ (x : Sp) : Bool := decide (x.1 < -1073741824) || decide (1073741824 < x.2)
theorem farQ_true {x : Sp} : farQ x = false ↔ -1073741824 ≤ x.1 ∧ x.2 ≤ 1073741824 := by unfold farQ; simp only [Bool.or_eq_false_iff, decide_eq_false_iff_not]; omega
theorem farRet {a b : Bool} (h : a = b) : Ending.returned (.bool a) = .returned (.bool b) := by rw [h]
set_option maxHeartbeats 400000 in
theorem farArc_any (x : Sp) (w : World) : Calls Try.prog 6 #[.agg #[.int .i64 x.1, .int .i64 x.2]] w fun e w' => e = .returned (.bool (farQ x)) ∧ Below w.heap.size w w' := by
  obtain ⟨lo, hi⟩ := x
  unfold farQ
  go_enter Try.func6, Try.ntmps6
  go_wp2
  · go_ret
    exact ⟨farRet (by simp [*]), bl_alloc _ _⟩
  · go_ret
    exact ⟨farRet (by simp [*]), bl_alloc _ _⟩
theorem noFar_any (A : Option Addr) (n c : Nat) (L : List Sp) (w : World) (hr : Reads w w.heap.size 2 A n (aqvs L)) (hn : n ≤ maxLen) :
    Calls Try.prog 5 #[.slice A n c, .func (.func 6) #[] #[]] w fun e w' => e = .returned (.bool (L.any farQ)) ∧ Below w.heap.size w w' :=
  contQ_any _ _ _ (enters_of Try.func6 (by kernel_rfl) rfl) A n c L w hr hn fun W x _ => farArc_any x W
end Go.Proofs.Ytfeianjdedgdoaa
