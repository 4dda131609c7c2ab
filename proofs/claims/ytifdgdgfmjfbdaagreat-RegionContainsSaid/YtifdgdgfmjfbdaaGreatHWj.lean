/- The sort of spans: its contract over a row of the call's own. -/
import Derived.Test.YtifdgdgfmjfbdaaGreatProg
import Derived.Sort.Grow
import Derived.Lib.Small
import Derived.Shelf.Abstract
import Derived.Shelf.SlGeneric
import Derived.Shelf.SlSortCmp.WholeK
import Derived.Shelf.SlSortCmp.NoneTotal
import Derived.Ground.SlsfProg
import Derived.Test.YtifdgdgfmjfbdaaGreatHWd
set_option linter.unusedVariables false
set_option linter.unusedSimpArgs false
namespace Go.Proofs.YtifdgdgfmjfbdaaGreat
open Go.RowKit Go.Sort
set_option maxHeartbeats 400000 in
theorem isNaN_any (a : Int) (w : World) : Calls Tryz.prog 226 #[.int .i64 a] w fun e w' => e = .returned (.bool false) ∧ w' = w := by
  have h : (a != a) = false := by simp
  go_enter Tryz.func226, Tryz.ntmps226
  go_wp2
  go_ret
  exact ⟨rfl, rfl⟩
set_option maxHeartbeats 400000 in
theorem compare_any (a b : Int) (w : World) : Calls Tryz.prog 181 #[.int .i64 a, .int .i64 b] w fun e w' => e = .returned (.int .i64 (Lib.compareInt a b)) ∧ w' = w := by
  rcases Int.lt_trichotomy a b with h | h | h
  · have e : Lib.compareInt a b = -1 := by simp [Lib.compareInt, h]
    rw [e]
    clear e
    go_enter Tryz.func181, Tryz.ntmps181
    go_wp2_with (go_at_call 226; refine (isNaN_any _ _).mono ?_; rintro e w' ⟨rfl, rfl⟩)
    go_ret
    exact ⟨rfl, rfl⟩
  · subst h
    have e : Lib.compareInt a a = 0 := by simp [Lib.compareInt]
    rw [e]
    clear e
    go_enter Tryz.func181, Tryz.ntmps181
    go_wp2_with (go_at_call 226; refine (isNaN_any _ _).mono ?_; rintro e w' ⟨rfl, rfl⟩)
    go_ret
    exact ⟨rfl, rfl⟩
  · have h' : ¬ a < b := by omega
    have e : Lib.compareInt a b = 1 := by simp [Lib.compareInt, h, h']
    rw [e]
    clear e
    go_enter Tryz.func181, Tryz.ntmps181
    go_wp2_with (go_at_call 226; refine (isNaN_any _ _).mono ?_; rintro e w' ⟨rfl, rfl⟩)
    go_ret
    exact ⟨rfl, rfl⟩
def orI (x y : Int) : Int := if x = 0 then y else x
set_option maxHeartbeats 400000 in
theorem or_any (b : Nat) (x y : Int) (w : World) (h1 : w.cell? ⟨b, 0, none⟩ = some (.int .i64 x)) (h2 : w.cell? ⟨b, 1, none⟩ = some (.int .i64 y)) :
    Calls Tryz.prog 180 #[.slice (some ⟨b, 0, none⟩) 2 2] w fun e w' => e = .returned (.int .i64 (orI x y)) ∧ w' = w := by
  go_enter Tryz.func180, Tryz.ntmps180
  go_wp2
  go_loop [8] (fun i => ∃ k : Nat, k ≤ 2 ∧ i = .int .i64 k ∧ (1 ≤ k → x = 0) ∧ (2 ≤ k → y = 0)) (fun i => 2 - (intOf i).toNat)
  case atStart => exact ⟨0, by omega, rfl, by omega, by omega⟩
  case round =>
    obtain ⟨k, hk, rfl, hx, hy⟩ := hrel
    match k, hk, hx, hy with
    | 0, _, _, _ =>
      clear hx hy hk
      by_cases h : x = 0
      · have H := Lib.hid h
        have h' : (x != 0) = false := by simp [h]
        clear h
        go_wp2
        go_round
        case rel => exact ⟨1, by omega, rfl, fun _ => H.out, by omega⟩
        case measure => simp [intOf]
      · have h' : (x != 0) = true := by simp [h]
        have H := Lib.hid h
        clear h
        go_wp2
        go_ret
        exact ⟨ret_int (by simp [orI, H.out]), rfl⟩
    | 1, _, hx, _ =>
      have HX := Lib.hid (hx (by omega))
      clear hx hk
      by_cases h : y = 0
      · have H := Lib.hid h
        have h' : (y != 0) = false := by simp [h]
        clear h
        go_wp2
        go_round
        case rel => exact ⟨2, by omega, rfl, fun _ => HX.out, fun _ => H.out⟩
        case measure => simp [intOf]
      · have h' : (y != 0) = true := by simp [h]
        clear h
        go_wp2
        go_ret
        exact ⟨ret_int (by simp [orI, HX.out]), rfl⟩
    | 2, _, hx, hy =>
      have HX := Lib.hid (hx (by omega))
      have HY := Lib.hid (hy (by omega))
      clear hx hy hk
      go_wp2
      go_ret
      exact ⟨ret_int (by simp [orI, HX.out, HY.out]), rfl⟩

/-- how cover orders spans -/
def cmpS (x y : Int × Int) : Int := orI (Lib.compareInt x.1 y.1) (Lib.compareInt y.2 x.2)
set_option maxHeartbeats 1000000 in
set_option maxRecDepth 100000 in
theorem coverCmp_any (x y : Int × Int) (W : World) : Calls Tryz.prog 179 #[.agg #[.int .i64 x.1, .int .i64 x.2], .agg #[.int .i64 y.1, .int .i64 y.2]] W fun e w' => e = .returned (.int .i64 (cmpS x y)) ∧ ∃ q os', w' = grow (W.drewN q) os' := by
  have C1 := fun W => compare_any x.1 y.1 W
  have C2 := fun W => compare_any y.2 x.2 W
  unfold cmpS
  generalize Lib.compareInt x.1 y.1 = u at C1 ⊢
  generalize Lib.compareInt y.2 x.2 = v at C2 ⊢
  have C1 := Lib.hid C1
  have C2 := Lib.hid C2
  go_enter Tryz.func179, Tryz.ntmps179
  go_wp2
  refine wp_still_tail 10 (by kernel_rfl) (by kernel_rfl) ?_
  simp only [List.take_succ_cons, List.take_zero, List.drop_succ_cons, List.drop_zero]
  repeat still_step
  still_call (C1.out _)
  repeat still_step
  still_call (C2.out _)
  repeat still_step
  refine wpStill_nil ?_
  go_wp2_with (go_at_call 180; refine (or_any _ u v _ (by go_simp) (by go_simp)).mono ?_; rintro e w' ⟨rfl, rfl⟩)
  go_ret
  refine ⟨rfl, 1, #[.cells #[.int .i64 x.1, .int .i64 x.2] 194, .cells #[.int .i64 y.1, .int .i64 y.2] 194, .cells #[.int .i64 u, .int .i64 v] 3], ?_⟩
  rw [alloc_eq_grow, alloc_eq_grow, alloc_eq_grow, grow_grow]
  rfl
end Go.Proofs.YtifdgdgfmjfbdaaGreat
namespace Go.Proofs.YtifdgdgfmjfbdaaGreat
open Go.RowKit
def IdxPost (w : World) (b : Bool) (e : Ending) (w' : World) : Prop := ∃ k : Int, e = .returned (.int .i64 k) ∧ decide (0 ≤ k) = b ∧ Below w.heap.size w w'
set_option maxHeartbeats 400000 in
theorem invalid_any (x : Cl) (w : World) : Calls Tryz.prog 115 #[cva x] w fun e w' => e = .returned (.bool (!(vldB x.1 x.2.1 x.2.2))) ∧ Below w.heap.size w w' := by
  obtain ⟨l, r, c⟩ := x
  have V := Lib.hid (fun w => valid_any l r c w)
  generalize vldB l r c = b at V ⊢
  go_enter Tryz.func115, Tryz.ntmps115
  go_wp2_with (go_at_call 140; refine (V.out _).mono ?_; rintro e w1 ⟨rfl, hb⟩)
  go_ret
  exact ⟨rfl, one_bl hb⟩
theorem any_take_succ (L : List Cl) (p : Cl → Bool) (k : Nat) (hk : k < L.length) (h : (L.take k).any p = false) (hp : p (gt L k) = false) : (L.take (k + 1)).any p = false := by
  rw [List.take_succ_eq_append_getElem hk, List.any_append, h]
  simp [gt, hk] at hp
  simp [hp]
theorem any_of_gt (L : List Cl) (p : Cl → Bool) (k : Nat) (hk : k < L.length) (hp : p (gt L k) = true) : L.any p = true := by
  rw [List.any_eq_true]
  simp [gt, hk] at hp
  exact ⟨L[k], List.getElem_mem hk, hp⟩

set_option maxHeartbeats 1000000 in
set_option maxRecDepth 100000 in
theorem idxFunc_any (g : Nat) (lb : Array Value) (p : Cl → Bool) (eg : ∀ args w, (callFunc g args).run Tryz.prog w = .ok (.enter g args) w) (A : Option Addr) (n c : Nat) (L : List Cl) (w : World)
    (hr : Reads w w.heap.size 3 A n (cvs L)) (hn : n ≤ maxLen) (hp : ∀ (W : World) (x : Cl), Below w.heap.size w W → Calls Tryz.prog g (#[cva x] ++ lb) W fun e w' => e = .returned (.bool (p x)) ∧ Below W.heap.size W w') :
    Calls Tryz.prog 170 #[.slice A n c, .func (.func g) #[] lb] w (IdxPost w (L.any p)) := by
  have HL := Lib.hid hr.len
  have HR := Lib.hid hr
  have HP := Lib.hid hp
  clear hr hp
  unfold maxLen at hn
  go_enter Tryz.func170, Tryz.ntmps170
  go_wp2
  go_loopg [8] n (fun gg s8 wr => ∃ kk : Nat, kk ≤ n ∧ n - kk ≤ gg ∧ s8 = .int .i64 kk ∧ Below w.heap.size w wr ∧ (L.take kk).any p = false)
  case atStart => exact ⟨0, Nat.zero_le _, by omega, rfl, Below.refl _ w, rfl⟩
  case round =>
    obtain ⟨kk, hkk, hg, rfl, BW, HA⟩ := hrel
    have HA := Lib.hid HA
    by_cases hlt : kk < n
    · obtain ⟨b, off, rfl, hb, x1, x2, x3⟩ := HR.out.elem hlt
      have y1 := (BW.cell (p := ⟨b, off + kk * 3, none⟩) hb).trans x1
      have y2 := (BW.cell (p := ⟨b, off + kk * 3 + 1, none⟩) hb).trans x2
      have y3 := (BW.cell (p := ⟨b, off + kk * 3 + 2, none⟩) hb).trans x3
      clear x1 x2 x3
      have hcall := HP.out wr (gt L kk) BW
      have h1 := Lib.hid (any_take_succ L p kk (by rw [HL.out]; exact hlt) HA.out)
      have h2 := Lib.hid (any_of_gt L p kk (by rw [HL.out]; exact hlt))
      cases hq : p (gt L kk) with
      | true =>
        have h3 := Lib.hid (h2.out hq)
        rw [hq] at hcall
        have hcall := Lib.hid hcall
        clear hq h1 h2
        go_wp2_with (go_at_fn g; refine hcall.out.mono ?_; rintro e w' ⟨rfl, hb'⟩)
        go_ret
        exact ⟨kk, rfl, by rw [h3.out]; simp, BW.trans (hb'.mono BW.size)⟩
      | false =>
        have h3 := Lib.hid (h1.out hq)
        rw [hq] at hcall
        have hcall := Lib.hid hcall
        clear hq h1 h2
        go_wp2_with (go_at_fn g; refine hcall.out.mono ?_; rintro e w' ⟨rfl, hb'⟩)
        go_roundg (n - (kk + 1))
        case measure => omega
        case rel => exact ⟨kk + 1, by omega, by omega, by go_num, BW.trans (hb'.mono BW.size), h3.out⟩
    · go_wp2
      go_ret
      have h := HA.out
      rw [List.take_of_length_le (by rw [HL.out]; omega)] at h
      exact ⟨-1, rfl, by rw [h]; rfl, BW⟩

set_option maxHeartbeats 1000000 in
theorem contFunc_any (g : Nat) (lb : Array Value) (p : Cl → Bool) (eg : ∀ args w, (callFunc g args).run Tryz.prog w = .ok (.enter g args) w) (A : Option Addr) (n c : Nat) (L : List Cl) (w : World)
    (hr : Reads w w.heap.size 3 A n (cvs L)) (hn : n ≤ maxLen) (hp : ∀ (W : World) (x : Cl), Below w.heap.size w W → Calls Tryz.prog g (#[cva x] ++ lb) W fun e w' => e = .returned (.bool (p x)) ∧ Below W.heap.size W w') :
    Calls Tryz.prog 110 #[.slice A n c, .func (.func g) #[] lb] w fun e w' => e = .returned (.bool (L.any p)) ∧ Below w.heap.size w w' := by
  have H := Lib.hid (idxFunc_any g lb p eg A n c L w hr hn hp)
  clear hp hr hn eg
  go_enter Tryz.func110, Tryz.ntmps110
  go_wp2_with (go_at_call 170; refine H.out.mono ?_; rintro e w1 ⟨k, rfl, hk, hb⟩; have HK := Lib.hid hk; clear hk)
  go_ret
  exact ⟨ret_bool HK.out, hb⟩
theorem allValid_any (A : Option Addr) (n c : Nat) (L : List Cl) (w : World) (hr : Reads w w.heap.size 3 A n (cvs L)) (hn : n ≤ maxLen) :
    Calls Tryz.prog 110 #[.slice A n c, .func (.func 115) #[] #[]] w fun e w' => e = .returned (.bool (L.any fun x => !(vldB x.1 x.2.1 x.2.2))) ∧ Below w.heap.size w w' :=
  contFunc_any _ _ _ (enters_of Tryz.func115 (by kernel_rfl) rfl) A n c L w hr hn fun W x _ => invalid_any x W
end Go.Proofs.YtifdgdgfmjfbdaaGreat
namespace Go.Proofs
open Go.Shelf
def Tryz.sortSpan_ren : Go.Shelf.Ren := ⟨fun | 6 => 178 | 15 => 225 | 14 => 224 | 28 => 264 | 29 => 265 | 20 => 256 | 21 => 257 | 22 => 258 | 23 => 259 | 24 => 260 | 25 => 261 | 26 => 262 | 27 => 263 | 46 => 284 | 47 => 285 | 48 => 286 | 49 => 287 | 50 => 288 | 57 => 316 | n => n, fun | 22 => 156 | 24 => 194 | 25 => 199 | 3 => 3 | 39 => 118 | 0 => 0 | 53 => 254 | 55 => 236 | 4 => 4 | 46 => 248 | 45 => 247 | 50 => 181 | 5 => 5 | 9 => 9 | 66 => 271 | 70 => 275 | 76 => 296 | 77 => 45 | n => n, fun | n => n⟩
theorem Tryz.sortSpan : Go.Proofs.SlLaysF0.n6 Tryz.prog Tryz.sortSpan_ren := {
  mixed := by kernel_rfl
  f6 := ⟨Tryz.f178.name, by decide, Tryz.func178.trans (congrArg some (by kernel_rfl))⟩
  f14 := ⟨Tryz.f224.name, by decide, Tryz.func224.trans (congrArg some (by kernel_rfl))⟩
  f15 := Tryz.func225.trans (congrArg some (by kernel_rfl))
  f20 := ⟨Tryz.f256.name, by decide, Tryz.func256.trans (congrArg some (by kernel_rfl))⟩
  f21 := ⟨Tryz.f257.name, by decide, Tryz.func257.trans (congrArg some (by kernel_rfl))⟩
  f22 := ⟨Tryz.f258.name, by decide, Tryz.func258.trans (congrArg some (by kernel_rfl))⟩
  f23 := ⟨Tryz.f259.name, by decide, Tryz.func259.trans (congrArg some (by kernel_rfl))⟩
  f24 := ⟨Tryz.f260.name, by decide, Tryz.func260.trans (congrArg some (by kernel_rfl))⟩
  f25 := ⟨Tryz.f261.name, by decide, Tryz.func261.trans (congrArg some (by kernel_rfl))⟩
  f26 := ⟨Tryz.f262.name, by decide, Tryz.func262.trans (congrArg some (by kernel_rfl))⟩
  f27 := ⟨Tryz.f263.name, by decide, Tryz.func263.trans (congrArg some (by kernel_rfl))⟩
  f28 := Tryz.func264.trans (congrArg some (by kernel_rfl))
  f29 := Tryz.func265.trans (congrArg some (by kernel_rfl))
  f46 := ⟨Tryz.f284.name, by decide, Tryz.func284.trans (congrArg some (by kernel_rfl))⟩
  f47 := Tryz.func285.trans (congrArg some (by kernel_rfl))
  f48 := Tryz.func286.trans (congrArg some (by kernel_rfl))
  f49 := ⟨Tryz.f287.name, by decide, Tryz.func287.trans (congrArg some (by kernel_rfl))⟩
  f50 := ⟨Tryz.f288.name, by decide, Tryz.func288.trans (congrArg some (by kernel_rfl))⟩
  f57 := ⟨Tryz.f316.name, by decide, Tryz.func316.trans (congrArg some (by kernel_rfl))⟩
  t0 := Tryz.underlying0
  a0 := Tryz.isAgg0
  z0 := Tryz.sizeOf0
  v0 := Tryz.zeroValue0
  t3 := Tryz.underlying3
  a3 := Tryz.isAgg3
  z3 := Tryz.sizeOf3
  v3 := Tryz.zeroValue3
  t4 := Tryz.underlying4
  a4 := Tryz.isAgg4
  z4 := Tryz.sizeOf4
  v4 := Tryz.zeroValue4
  t5 := Tryz.underlying5
  a5 := Tryz.isAgg5
  z5 := Tryz.sizeOf5
  v5 := Tryz.zeroValue5
  t9 := Tryz.underlying9
  a9 := Tryz.isAgg9
  z9 := Tryz.sizeOf9
  v9 := Tryz.zeroValue9
  t22 := Tryz.underlying156
  a22 := Tryz.isAgg156
  z22 := Tryz.sizeOf156
  v22 := Tryz.zeroValue156
  t25 := Tryz.underlying199
  a25 := Tryz.isAgg199
  z25 := Tryz.sizeOf199
  v25 := Tryz.zeroValue199
  t39 := Tryz.underlying118
  a39 := Tryz.isAgg118
  z39 := Tryz.sizeOf118
  v39 := Tryz.zeroValue118
  t45 := Tryz.underlying247
  a45 := Tryz.isAgg247
  z45 := Tryz.sizeOf247
  v45 := Tryz.zeroValue247
  t46 := Tryz.underlying248
  a46 := Tryz.isAgg248
  z46 := Tryz.sizeOf248
  v46 := Tryz.zeroValue248
  t50 := Tryz.underlying181
  a50 := Tryz.isAgg181
  z50 := Tryz.sizeOf181
  v50 := Tryz.zeroValue181
  t53 := Tryz.underlying254
  a53 := Tryz.isAgg254
  z53 := Tryz.sizeOf254
  v53 := Tryz.zeroValue254
  t55 := Tryz.underlying236
  a55 := Tryz.isAgg236
  z55 := Tryz.sizeOf236
  v55 := Tryz.zeroValue236
  t66 := Tryz.underlying271
  a66 := Tryz.isAgg271
  z66 := Tryz.sizeOf271
  v66 := Tryz.zeroValue271
  t70 := Tryz.underlying275
  a70 := Tryz.isAgg275
  z70 := Tryz.sizeOf275
  v70 := Tryz.zeroValue275
  t76 := Tryz.underlying296
  a76 := Tryz.isAgg296
  z76 := Tryz.sizeOf296
  v76 := Tryz.zeroValue296
  t77 := Tryz.underlying45
  a77 := Tryz.isAgg45
  z77 := Tryz.sizeOf45
  v77 := Tryz.zeroValue45 }
end Go.Proofs
namespace Go.Proofs.YtifdgdgfmjfbdaaGreat
open Go.RowKit Go.Sort Go.Shelf
abbrev Sp := Int × Int
def spv (x : Sp) : List Value := [.int .i64 x.1, .int .i64 x.2]
def spvs (D : List Sp) : List Value := D.flatMap spv
theorem spvs_length (D : List Sp) : (spvs D).length = D.length * 2 := by
  induction D with
  | nil => rfl
  | cons x r ih => simp [spvs, spv] at ih ⊢; omega
theorem spvs_append (L M : List Sp) : spvs (L ++ M) = spvs L ++ spvs M := by simp [spvs]
theorem spv_one (x : Sp) : ∀ u ∈ spv x, u.oneCell' = true := by
  intro u hu
  simp [spv] at hu
  rcases hu with rfl | rfl <;> rfl
def gs (L : List Sp) (k : Nat) : Sp := L.getD k (0, 0)
theorem spvs_at (L : List Sp) (k : Nat) (hk : k < L.length) : (spvs L)[k * 2]? = some (.int .i64 (gs L k).1) ∧ (spvs L)[k * 2 + 1]? = some (.int .i64 (gs L k).2) := by
  induction L generalizing k with
  | nil => simp at hk
  | cons x r ih =>
    have hc : spvs (x :: r) = .int .i64 x.1 :: .int .i64 x.2 :: spvs r := rfl
    rw [hc]
    match k with
    | 0 => simp [gs]
    | k + 1 =>
      have := ih k (by simpa using hk)
      have e1 : (k + 1) * 2 = k * 2 + 2 := by omega
      have e2 : (k + 1) * 2 + 1 = (k * 2 + 1) + 2 := by omega
      rw [e2, e1]
      simpa [gs] using this
theorem ltOf_cmpS (x y : Sp) : ltOf cmpS x y = decide (x.1 < y.1 ∨ x.1 = y.1 ∧ y.2 < x.2) := by
  unfold ltOf cmpS orI Lib.compareInt
  by_cases h1 : x.1 < y.1
  · simp [h1]
  · by_cases h2 : y.1 < x.1
    · have : ¬ x.1 = y.1 := by omega
      simp [h1, h2, this]
    · have h3 : x.1 = y.1 := by omega
      by_cases h4 : y.2 < x.2
      · simp [h3, h4]
      · by_cases h5 : x.2 < y.2 <;> simp [h3, h4, h5]
theorem swo_cmpS : SWO (ltOf cmpS) where
  irrefl x := by rw [ltOf_cmpS]; simp
  trans x y z h1 h2 := by rw [ltOf_cmpS] at *; simp only [decide_eq_true_eq] at *; omega
  ntrans x y z h1 h2 := by rw [ltOf_cmpS] at *; simp only [decide_eq_false_iff_not] at *; omega
theorem total_cmpS (x y : Sp) (h1 : ltOf cmpS x y = false) (h2 : ltOf cmpS y x = false) : x = y := by
  rw [ltOf_cmpS] at *
  simp only [decide_eq_false_iff_not] at *
  exact Prod.ext (by omega) (by omega)
/-- spans in their order -/
def sortS (D : List Sp) : List Sp := D.mergeSort fun x y => !(ltOf cmpS) y x
theorem sortS_length (D : List Sp) : (sortS D).length = D.length := List.length_mergeSort _

theorem flat2 (D : List Sp) : flatK spv 2 D.toArray = (spvs D).toArray := by
  refine ext_get! (by simp [spvs_length]) fun t ht => ?_
  have ht' : t < D.toArray.size * 2 := by simpa using ht
  rw [get_flatK _ _ _ _ ht']
  have hk : t / 2 < D.length := by simp at ht'; omega
  obtain ⟨a1, a2⟩ := spvs_at D (t / 2) hk
  have hg : D.toArray[t / 2]! = gs D (t / 2) := by simp [gs, hk]
  rw [hg]
  rcases Nat.mod_two_eq_zero_or_one t with h | h
  · have e : t / 2 * 2 = t := by omega
    rw [e] at a1
    simp [spv, a1, h]
  · have e : t / 2 * 2 + 1 = t := by omega
    rw [e] at a2
    simp [spv, a2, h]

theorem own_row (w : World) (base : Nat) (t : TypeId) (size n cap g m : Nat) (xs : List Value) (F : Array Value) (os : Array Obj) (h : w.ownsRow base t size (.slice (some ⟨g, 0, none⟩) n cap) n xs) (hF : F.size = n * size) :
    (grow (putRow id (Sort.ahead w m) g 0 F) os).ownsRow base t size (.slice (some ⟨g, 0, none⟩) n cap) n F.toList ∧ w.grownBy (grow (putRow id (Sort.ahead w m) g 0 F) os) (some g) := by
  rcases h.2 with ⟨h1, _⟩ | ⟨g', cap', cur, hv, hg, hh, hnc, hcm, hcs, htk⟩
  · cases h1
  · injection hv with e1 e2 e3
    injection e1 with e1
    injection e1 with e1
    subst e1 e3
    have hlt : g < w.heap.size := by
      rcases Nat.lt_or_ge g w.heap.size with hlt | hge
      · exact hlt
      · rw [Array.getElem?_eq_none hge] at hh; cases hh
    have hnew : (grow (putRow id (Sort.ahead w m) g 0 F) os).heap[g]? = some (.cells (putCells id 0 F cur) t (0, 0)) := by
      rw [heap_grow_old _ _ (by simpa using hlt)]
      simp [putRow, mapBlock, Array.getElem?_modify, hh, onCells]
    refine ⟨⟨by simpa using hF, .inr ⟨g, cap, putCells id 0 F cur, rfl, hg, hnew, hnc, hcm, by simpa [putCells] using hcs, ?_⟩⟩, ⟨rfl, rfl, rfl, by simp, fun i hi hne => ?_⟩⟩
    · apply List.ext_getElem?
      intro i
      rw [List.getElem?_take]
      by_cases hi : i < n * size
      · have h2 : n * size ≤ cap * size := Nat.mul_le_mul_right _ hnc
        simp [hi, putCells, hF, hcs, show i < cap * size by omega]
      · simp only [hi, if_false]
        rw [List.getElem?_eq_none]
        simp [hF]; omega
    · rw [heap_grow_old _ _ (by simpa using hi)]
      have hne' : ¬ g = i := fun e => hne (by rw [e])
      simp [putRow, mapBlock, Array.getElem?_modify, hne']

theorem sortSpan_any (base : Nat) (v : Value) (D : List Sp) (w : World) (h : w.ownsRow base 194 2 v D.length (spvs D)) (hn : D.length < 4611686018427387904) :
    Calls Tryz.prog 178 #[v, .func (.func 179) #[] #[]] w fun e w' => e = .returned (.tuple #[]) ∧ w'.ownsRow base 194 2 v D.length (spvs (sortS D)) ∧ w.grownBy w' v.ownBlock := by
  rcases Nat.eq_zero_or_pos D.length with h0 | h0
  · have hD : D = [] := List.eq_nil_of_length_eq_zero h0
    subst hD
    have hs : sortS [] = [] := by simp [sortS]
    rw [hs]
    obtain ⟨A, c, rfl, _⟩ := own_form h
    have hcon := AnyF.slices_SortFunc_none Tryz.sortSpan A c (.func (.func 179) #[] #[]) w
    change Calls Tryz.prog 178 _ _ _ at hcon
    refine hcon.mono ?_
    rintro e w' ⟨rfl, rfl⟩
    exact ⟨rfl, h, World.grownBy.refl _ _⟩
  · obtain ⟨g, cap, rfl, hg, hlt⟩ := h.form h0
    have eg : ∀ args w, (callFunc 179 args).run Tryz.prog w = .ok (.enter 179 args) w := enters_of Tryz.func179 (by kernel_rfl) rfl
    have hH : HoldsK spv 2 w g 0 D.toArray := by
      intro j hj
      rw [flat2] at hj ⊢
      rcases h.2 with ⟨h1, _⟩ | ⟨g', cap', cur, hv, _, hh, hnc, hcm, hcs, htk⟩
      · cases h1
      · injection hv with e1 e2 e3
        injection e1 with e1
        injection e1 with e1
        subst e1
        have hj' : j < (spvs D).length := by simpa using hj
        have hc : cur[j]? = some ((spvs D)[j]) := by
          have := congrArg (·[j]?) htk
          simp only [List.getElem?_take] at this
          rw [spvs_length] at hj'
          rw [if_pos hj'] at this
          rw [spvs_length] at *
          rw [Array.getElem?_toList] at this
          rw [this, List.getElem?_eq_getElem]
        refine ⟨?_, ?_⟩
        · simp [World.cell?, hh, hc, hj']
        · simp [World.frozen?, hh]
    have hcon := AnyQ.slices_SortFunc_total Tryz.sortSpan 2 Tryz.isAgg194 Tryz.sizeOf194 spv (fun _ => rfl) (fun x v hv => spv_one x v hv) cmpS swo_cmpS 179 #[] g 0 cap D.toArray w eg (fun _ _ _ _ x y => coverCmp_any x y _) hH hlt (by simpa using hn) total_cmpS
    change Calls Tryz.prog 178 _ _ _ at hcon
    simp only [List.size_toArray] at hcon
    refine hcon.mono ?_
    rintro e w' ⟨rfl, m, os, rfl⟩
    have hF := flat2 (sortS D)
    have hr := own_row w base _ 2 D.length cap g m _ (flatK spv 2 (sortS D).toArray) os h (by simp [sortS_length])
    refine ⟨rfl, ?_, hr.2⟩
    have e : spvs (sortS D) = (flatK spv 2 (sortS D).toArray).toList := by rw [hF]
    rw [e]
    exact hr.1
end Go.Proofs.YtifdgdgfmjfbdaaGreat
