/- Contracts of Go's library at this seat's numbers, laid by the kit's tools. -/
import Derived.Test.YtlhdneeiikemjaaProg
import Derived.Sort.Grow
import Derived.Lib.Small
import Derived.Shelf.Abstract
import Derived.Shelf.SlGeneric
import Derived.Shelf.SlSortCmp.WholeK
import Derived.Shelf.SlSortCmp.NoneTotal
import Derived.Ground.SlsfProg
import Derived.Shelf.Sort.Plain
import Derived.Shelf.Slices.In.SortNone
import Derived.Ground.NamesProg
import Derived.Test.YtlhdneeiikemjaaGMort
set_option linter.unusedVariables false
set_option linter.unusedSimpArgs false
/- Walks of cmp.Compare and cmp.Or at int, and of the comparison that cover sorts by. -/
namespace Go.Proofs.Ytlhdneeiikemjaa
open Go.RowKit Go.Sort
set_option maxHeartbeats 400000 in
theorem isNaN_any (a : Int) (w : World) : Calls Try.prog 87 #[.int .i64 a] w fun e w' => e = .returned (.bool false) ∧ w' = w := by
  have h : (a != a) = false := by simp
  go_enter Try.func87, Try.ntmps87
  go_wp2
  go_ret
  exact ⟨rfl, rfl⟩
set_option maxHeartbeats 400000 in
theorem compare_any (a b : Int) (w : World) : Calls Try.prog 66 #[.int .i64 a, .int .i64 b] w fun e w' => e = .returned (.int .i64 (Lib.compareInt a b)) ∧ w' = w := by
  rcases Int.lt_trichotomy a b with h | h | h
  · have e : Lib.compareInt a b = -1 := by simp [Lib.compareInt, h]
    rw [e]
    clear e
    go_enter Try.func66, Try.ntmps66
    go_wp2_with (go_at_call 87; refine (isNaN_any _ _).mono ?_; rintro e w' ⟨rfl, rfl⟩)
    go_ret
    exact ⟨rfl, rfl⟩
  · subst h
    have e : Lib.compareInt a a = 0 := by simp [Lib.compareInt]
    rw [e]
    clear e
    go_enter Try.func66, Try.ntmps66
    go_wp2_with (go_at_call 87; refine (isNaN_any _ _).mono ?_; rintro e w' ⟨rfl, rfl⟩)
    go_ret
    exact ⟨rfl, rfl⟩
  · have h' : ¬ a < b := by omega
    have e : Lib.compareInt a b = 1 := by simp [Lib.compareInt, h, h']
    rw [e]
    clear e
    go_enter Try.func66, Try.ntmps66
    go_wp2_with (go_at_call 87; refine (isNaN_any _ _).mono ?_; rintro e w' ⟨rfl, rfl⟩)
    go_ret
    exact ⟨rfl, rfl⟩
def orI (x y : Int) : Int := if x = 0 then y else x
set_option maxHeartbeats 400000 in
theorem or_any (b : Nat) (x y : Int) (w : World) (h1 : w.cell? ⟨b, 0, none⟩ = some (.int .i64 x)) (h2 : w.cell? ⟨b, 1, none⟩ = some (.int .i64 y)) :
    Calls Try.prog 65 #[.slice (some ⟨b, 0, none⟩) 2 2] w fun e w' => e = .returned (.int .i64 (orI x y)) ∧ w' = w := by
  go_enter Try.func65, Try.ntmps65
  go_wp2
  go_loop [8] (fun i => ∃ k : Nat, k ≤ 2 ∧ i = .int .i64 k ∧ (1 ≤ k → x = 0) ∧ (2 ≤ k → y = 0)) (fun i => 2 - (intOf i).toNat)
  case atStart => exact ⟨0, by omega, rfl, by omega, by omega⟩
  case round =>
    obtain ⟨k, hk, rfl, hx, hy⟩ := hrel
    match k, hk, hx, hy with
    | 0, _, _, _ =>
      clear hx hy hk
      by_cases h : x = 0
      · have H := Lib.hid h
        have h' : (x != 0) = false := by simp [h]
        clear h
        go_wp2
        go_round
        case rel => exact ⟨1, by omega, rfl, fun _ => H.out, by omega⟩
        case measure => simp [intOf]
      · have h' : (x != 0) = true := by simp [h]
        have H := Lib.hid h
        clear h
        go_wp2
        go_ret
        exact ⟨ret_int (by simp [orI, H.out]), rfl⟩
    | 1, _, hx, _ =>
      have HX := Lib.hid (hx (by omega))
      clear hx hk
      by_cases h : y = 0
      · have H := Lib.hid h
        have h' : (y != 0) = false := by simp [h]
        clear h
        go_wp2
        go_round
        case rel => exact ⟨2, by omega, rfl, fun _ => HX.out, fun _ => H.out⟩
        case measure => simp [intOf]
      · have h' : (y != 0) = true := by simp [h]
        clear h
        go_wp2
        go_ret
        exact ⟨ret_int (by simp [orI, HX.out]), rfl⟩
    | 2, _, hx, hy =>
      have HX := Lib.hid (hx (by omega))
      have HY := Lib.hid (hy (by omega))
      clear hx hy hk
      go_wp2
      go_ret
      exact ⟨ret_int (by simp [orI, HX.out, HY.out]), rfl⟩

/-- how cover orders spans -/
def cmpS (x y : Int × Int) : Int := orI (Lib.compareInt x.1 y.1) (Lib.compareInt y.2 x.2)
set_option maxHeartbeats 1000000 in
set_option maxRecDepth 100000 in
theorem coverCmp_any (x y : Int × Int) (W : World) : Calls Try.prog 64 #[.agg #[.int .i64 x.1, .int .i64 x.2], .agg #[.int .i64 y.1, .int .i64 y.2]] W fun e w' => e = .returned (.int .i64 (cmpS x y)) ∧ ∃ q os', w' = grow (W.drewN q) os' := by
  have C1 := fun W => compare_any x.1 y.1 W
  have C2 := fun W => compare_any y.2 x.2 W
  unfold cmpS
  generalize Lib.compareInt x.1 y.1 = u at C1 ⊢
  generalize Lib.compareInt y.2 x.2 = v at C2 ⊢
  have C1 := Lib.hid C1
  have C2 := Lib.hid C2
  go_enter Try.func64, Try.ntmps64
  go_wp2
  refine wp_still_tail 10 (by kernel_rfl) (by kernel_rfl) ?_
  simp only [List.take_succ_cons, List.take_zero, List.drop_succ_cons, List.drop_zero]
  repeat still_step
  still_call (C1.out _)
  repeat still_step
  still_call (C2.out _)
  repeat still_step
  refine wpStill_nil ?_
  go_wp2_with (go_at_call 65; refine (or_any _ u v _ (by go_simp) (by go_simp)).mono ?_; rintro e w' ⟨rfl, rfl⟩)
  go_ret
  refine ⟨rfl, 1, #[.cells #[.int .i64 x.1, .int .i64 x.2] 98, .cells #[.int .i64 y.1, .int .i64 y.2] 98, .cells #[.int .i64 u, .int .i64 v] 3], ?_⟩
  rw [alloc_eq_grow, alloc_eq_grow, alloc_eq_grow, grow_grow]
  rfl
end Go.Proofs.Ytlhdneeiikemjaa
/- Walks of invalid, slices.IndexFunc and slices.ContainsFunc at cells. -/
namespace Go.Proofs.Ytlhdneeiikemjaa
open Go.RowKit
def IdxPost (w : World) (b : Bool) (e : Ending) (w' : World) : Prop := ∃ k : Int, e = .returned (.int .i64 k) ∧ decide (0 ≤ k) = b ∧ Below w.heap.size w w'
set_option maxHeartbeats 400000 in
theorem invalid_any (x : Cl) (w : World) : Calls Try.prog 30 #[cva x] w fun e w' => e = .returned (.bool (!(vldB x.1 x.2.1 x.2.2))) ∧ Below w.heap.size w w' := by
  obtain ⟨l, r, c⟩ := x
  have V := Lib.hid (fun w => valid_any l r c w)
  generalize vldB l r c = b at V ⊢
  go_enter Try.func30, Try.ntmps30
  go_wp2_with (go_at_call 57; refine (V.out _).mono ?_; rintro e w1 ⟨rfl, hb⟩)
  go_ret
  exact ⟨rfl, one_bl hb⟩
theorem any_take_succ (L : List Cl) (p : Cl → Bool) (k : Nat) (hk : k < L.length) (h : (L.take k).any p = false) (hp : p (gt L k) = false) : (L.take (k + 1)).any p = false := by
  rw [List.take_succ_eq_append_getElem hk, List.any_append, h]
  simp [gt, hk] at hp
  simp [hp]
theorem any_of_gt (L : List Cl) (p : Cl → Bool) (k : Nat) (hk : k < L.length) (hp : p (gt L k) = true) : L.any p = true := by
  rw [List.any_eq_true]
  simp [gt, hk] at hp
  exact ⟨L[k], List.getElem_mem hk, hp⟩

set_option maxHeartbeats 1000000 in
set_option maxRecDepth 100000 in
theorem idxFunc_any (g : Nat) (lb : Array Value) (p : Cl → Bool) (eg : ∀ args w, (callFunc g args).run Try.prog w = .ok (.enter g args) w) (A : Option Addr) (n c : Nat) (L : List Cl) (w : World)
    (hr : Reads w w.heap.size 3 A n (cvs L)) (hn : n ≤ maxLen) (hp : ∀ (W : World) (x : Cl), Below w.heap.size w W → Calls Try.prog g (#[cva x] ++ lb) W fun e w' => e = .returned (.bool (p x)) ∧ Below W.heap.size W w') :
    Calls Try.prog 54 #[.slice A n c, .func (.func g) #[] lb] w (IdxPost w (L.any p)) := by
  have HL := Lib.hid hr.len
  have HR := Lib.hid hr
  have HP := Lib.hid hp
  clear hr hp
  unfold maxLen at hn
  go_enter Try.func54, Try.ntmps54
  go_wp2
  go_loopg [8] n (fun gg s8 wr => ∃ kk : Nat, kk ≤ n ∧ n - kk ≤ gg ∧ s8 = .int .i64 kk ∧ Below w.heap.size w wr ∧ (L.take kk).any p = false)
  case atStart => exact ⟨0, Nat.zero_le _, by omega, rfl, Below.refl _ w, rfl⟩
  case round =>
    obtain ⟨kk, hkk, hg, rfl, BW, HA⟩ := hrel
    have HA := Lib.hid HA
    by_cases hlt : kk < n
    · obtain ⟨b, off, rfl, hb, x1, x2, x3⟩ := HR.out.elem hlt
      have y1 := (BW.cell (p := ⟨b, off + kk * 3, none⟩) hb).trans x1
      have y2 := (BW.cell (p := ⟨b, off + kk * 3 + 1, none⟩) hb).trans x2
      have y3 := (BW.cell (p := ⟨b, off + kk * 3 + 2, none⟩) hb).trans x3
      clear x1 x2 x3
      have hcall := HP.out wr (gt L kk) BW
      have h1 := Lib.hid (any_take_succ L p kk (by rw [HL.out]; exact hlt) HA.out)
      have h2 := Lib.hid (any_of_gt L p kk (by rw [HL.out]; exact hlt))
      cases hq : p (gt L kk) with
      | true =>
        have h3 := Lib.hid (h2.out hq)
        rw [hq] at hcall
        have hcall := Lib.hid hcall
        clear hq h1 h2
        go_wp2_with (go_at_fn g; refine hcall.out.mono ?_; rintro e w' ⟨rfl, hb'⟩)
        go_ret
        exact ⟨kk, rfl, by rw [h3.out]; simp, BW.trans (hb'.mono BW.size)⟩
      | false =>
        have h3 := Lib.hid (h1.out hq)
        rw [hq] at hcall
        have hcall := Lib.hid hcall
        clear hq h1 h2
        go_wp2_with (go_at_fn g; refine hcall.out.mono ?_; rintro e w' ⟨rfl, hb'⟩)
        go_roundg (n - (kk + 1))
        case measure => omega
        case rel => exact ⟨kk + 1, by omega, by omega, by go_num, BW.trans (hb'.mono BW.size), h3.out⟩
    · go_wp2
      go_ret
      have h := HA.out
      rw [List.take_of_length_le (by rw [HL.out]; omega)] at h
      exact ⟨-1, rfl, by rw [h]; rfl, BW⟩

set_option maxHeartbeats 1000000 in
theorem contFunc_any (g : Nat) (lb : Array Value) (p : Cl → Bool) (eg : ∀ args w, (callFunc g args).run Try.prog w = .ok (.enter g args) w) (A : Option Addr) (n c : Nat) (L : List Cl) (w : World)
    (hr : Reads w w.heap.size 3 A n (cvs L)) (hn : n ≤ maxLen) (hp : ∀ (W : World) (x : Cl), Below w.heap.size w W → Calls Try.prog g (#[cva x] ++ lb) W fun e w' => e = .returned (.bool (p x)) ∧ Below W.heap.size W w') :
    Calls Try.prog 25 #[.slice A n c, .func (.func g) #[] lb] w fun e w' => e = .returned (.bool (L.any p)) ∧ Below w.heap.size w w' := by
  have H := Lib.hid (idxFunc_any g lb p eg A n c L w hr hn hp)
  clear hp hr hn eg
  go_enter Try.func25, Try.ntmps25
  go_wp2_with (go_at_call 54; refine H.out.mono ?_; rintro e w1 ⟨k, rfl, hk, hb⟩; have HK := Lib.hid hk; clear hk)
  go_ret
  exact ⟨ret_bool HK.out, hb⟩
theorem allValid_any (A : Option Addr) (n c : Nat) (L : List Cl) (w : World) (hr : Reads w w.heap.size 3 A n (cvs L)) (hn : n ≤ maxLen) :
    Calls Try.prog 25 #[.slice A n c, .func (.func 30) #[] #[]] w fun e w' => e = .returned (.bool (L.any fun x => !(vldB x.1 x.2.1 x.2.2))) ∧ Below w.heap.size w w' :=
  contFunc_any _ _ _ (enters_of Try.func30 (by kernel_rfl) rfl) A n c L w hr hn fun W x _ => invalid_any x W
end Go.Proofs.Ytlhdneeiikemjaa
namespace Go.Proofs
open Go.Shelf
def Try.sortSpan_ren : Go.Shelf.Ren := ⟨fun | 6 => 63 | 15 => 86 | 14 => 85 | 28 => 121 | 29 => 122 | 20 => 113 | 21 => 114 | 22 => 115 | 23 => 116 | 24 => 117 | 25 => 118 | 26 => 119 | 27 => 120 | 46 => 146 | 47 => 147 | 48 => 148 | 49 => 149 | 50 => 150 | 57 => 173 | n => n, fun | 22 => 65 | 24 => 98 | 25 => 104 | 3 => 3 | 39 => 69 | 0 => 0 | 53 => 106 | 55 => 109 | 4 => 4 | 46 => 150 | 45 => 149 | 50 => 154 | 5 => 5 | 9 => 9 | 66 => 180 | 70 => 184 | 76 => 197 | 77 => 198 | n => n, fun | n => n⟩
theorem Try.sortSpan : Go.Proofs.SlLaysF0.n6 Try.prog Try.sortSpan_ren := {
  mixed := by kernel_rfl
  f6 := ⟨Try.f63.name, by decide, Try.func63.trans (congrArg some (by kernel_rfl))⟩
  f14 := ⟨Try.f85.name, by decide, Try.func85.trans (congrArg some (by kernel_rfl))⟩
  f15 := Try.func86.trans (congrArg some (by kernel_rfl))
  f20 := ⟨Try.f113.name, by decide, Try.func113.trans (congrArg some (by kernel_rfl))⟩
  f21 := ⟨Try.f114.name, by decide, Try.func114.trans (congrArg some (by kernel_rfl))⟩
  f22 := ⟨Try.f115.name, by decide, Try.func115.trans (congrArg some (by kernel_rfl))⟩
  f23 := ⟨Try.f116.name, by decide, Try.func116.trans (congrArg some (by kernel_rfl))⟩
  f24 := ⟨Try.f117.name, by decide, Try.func117.trans (congrArg some (by kernel_rfl))⟩
  f25 := ⟨Try.f118.name, by decide, Try.func118.trans (congrArg some (by kernel_rfl))⟩
  f26 := ⟨Try.f119.name, by decide, Try.func119.trans (congrArg some (by kernel_rfl))⟩
  f27 := ⟨Try.f120.name, by decide, Try.func120.trans (congrArg some (by kernel_rfl))⟩
  f28 := Try.func121.trans (congrArg some (by kernel_rfl))
  f29 := Try.func122.trans (congrArg some (by kernel_rfl))
  f46 := ⟨Try.f146.name, by decide, Try.func146.trans (congrArg some (by kernel_rfl))⟩
  f47 := Try.func147.trans (congrArg some (by kernel_rfl))
  f48 := Try.func148.trans (congrArg some (by kernel_rfl))
  f49 := ⟨Try.f149.name, by decide, Try.func149.trans (congrArg some (by kernel_rfl))⟩
  f50 := ⟨Try.f150.name, by decide, Try.func150.trans (congrArg some (by kernel_rfl))⟩
  f57 := ⟨Try.f173.name, by decide, Try.func173.trans (congrArg some (by kernel_rfl))⟩
  t0 := Try.underlying0
  a0 := Try.isAgg0
  z0 := Try.sizeOf0
  v0 := Try.zeroValue0
  t3 := Try.underlying3
  a3 := Try.isAgg3
  z3 := Try.sizeOf3
  v3 := Try.zeroValue3
  t4 := Try.underlying4
  a4 := Try.isAgg4
  z4 := Try.sizeOf4
  v4 := Try.zeroValue4
  t5 := Try.underlying5
  a5 := Try.isAgg5
  z5 := Try.sizeOf5
  v5 := Try.zeroValue5
  t9 := Try.underlying9
  a9 := Try.isAgg9
  z9 := Try.sizeOf9
  v9 := Try.zeroValue9
  t22 := Try.underlying65
  a22 := Try.isAgg65
  z22 := Try.sizeOf65
  v22 := Try.zeroValue65
  t25 := Try.underlying104
  a25 := Try.isAgg104
  z25 := Try.sizeOf104
  v25 := Try.zeroValue104
  t39 := Try.underlying69
  a39 := Try.isAgg69
  z39 := Try.sizeOf69
  v39 := Try.zeroValue69
  t45 := Try.underlying149
  a45 := Try.isAgg149
  z45 := Try.sizeOf149
  v45 := Try.zeroValue149
  t46 := Try.underlying150
  a46 := Try.isAgg150
  z46 := Try.sizeOf150
  v46 := Try.zeroValue150
  t50 := Try.underlying154
  a50 := Try.isAgg154
  z50 := Try.sizeOf154
  v50 := Try.zeroValue154
  t53 := Try.underlying106
  a53 := Try.isAgg106
  z53 := Try.sizeOf106
  v53 := Try.zeroValue106
  t55 := Try.underlying109
  a55 := Try.isAgg109
  z55 := Try.sizeOf109
  v55 := Try.zeroValue109
  t66 := Try.underlying180
  a66 := Try.isAgg180
  z66 := Try.sizeOf180
  v66 := Try.zeroValue180
  t70 := Try.underlying184
  a70 := Try.isAgg184
  z70 := Try.sizeOf184
  v70 := Try.zeroValue184
  t76 := Try.underlying197
  a76 := Try.isAgg197
  z76 := Try.sizeOf197
  v76 := Try.zeroValue197
  t77 := Try.underlying198
  a77 := Try.isAgg198
  z77 := Try.sizeOf198
  v77 := Try.zeroValue198 }
def Try.sortInt_ren : Go.Shelf.Ren := ⟨fun | 189 => 89 | 125 => 86 | 257 => 123 | 128 => 121 | 129 => 122 | 294 => 151 | 295 => 152 | 296 => 153 | 297 => 154 | 298 => 155 | 299 => 156 | 216 => 157 | 300 => 158 | 301 => 159 | 328 => 174 | 329 => 147 | 330 => 148 | 331 => 175 | 332 => 176 | 215 => 87 | 343 => 184 | n => n, fun | 28 => 89 | 3 => 3 | 46 => 69 | 0 => 0 | 51 => 106 | 53 => 109 | 4 => 4 | 183 => 150 | 182 => 149 | 131 => 154 | 5 => 5 | 9 => 9 | 218 => 180 | 222 => 184 | 228 => 197 | 229 => 198 | n => n, fun | n => n⟩
theorem Try.sortInt : Go.Proofs.Lays.n189 Try.prog Try.sortInt_ren := {
  mixed := by kernel_rfl
  f125 := Try.func86.trans (congrArg some (by kernel_rfl))
  f128 := Try.func121.trans (congrArg some (by kernel_rfl))
  f129 := Try.func122.trans (congrArg some (by kernel_rfl))
  f189 := Try.func89.trans (congrArg some (by kernel_rfl))
  f215 := Try.func87.trans (congrArg some (by kernel_rfl))
  f216 := Try.func157.trans (congrArg some (by kernel_rfl))
  f257 := Try.func123.trans (congrArg some (by kernel_rfl))
  f294 := Try.func151.trans (congrArg some (by kernel_rfl))
  f295 := Try.func152.trans (congrArg some (by kernel_rfl))
  f296 := Try.func153.trans (congrArg some (by kernel_rfl))
  f297 := Try.func154.trans (congrArg some (by kernel_rfl))
  f298 := Try.func155.trans (congrArg some (by kernel_rfl))
  f299 := Try.func156.trans (congrArg some (by kernel_rfl))
  f300 := Try.func158.trans (congrArg some (by kernel_rfl))
  f301 := Try.func159.trans (congrArg some (by kernel_rfl))
  f328 := Try.func174.trans (congrArg some (by kernel_rfl))
  f329 := Try.func147.trans (congrArg some (by kernel_rfl))
  f330 := Try.func148.trans (congrArg some (by kernel_rfl))
  f331 := Try.func175.trans (congrArg some (by kernel_rfl))
  f332 := Try.func176.trans (congrArg some (by kernel_rfl))
  f343 := Try.func184.trans (congrArg some (by kernel_rfl))
  t0 := Try.underlying0
  a0 := Try.isAgg0
  z0 := Try.sizeOf0
  v0 := Try.zeroValue0
  t3 := Try.underlying3
  a3 := Try.isAgg3
  z3 := Try.sizeOf3
  v3 := Try.zeroValue3
  t4 := Try.underlying4
  a4 := Try.isAgg4
  z4 := Try.sizeOf4
  v4 := Try.zeroValue4
  t5 := Try.underlying5
  a5 := Try.isAgg5
  z5 := Try.sizeOf5
  v5 := Try.zeroValue5
  t9 := Try.underlying9
  a9 := Try.isAgg9
  z9 := Try.sizeOf9
  v9 := Try.zeroValue9
  t28 := Try.underlying89
  a28 := Try.isAgg89
  z28 := Try.sizeOf89
  v28 := Try.zeroValue89
  t46 := Try.underlying69
  a46 := Try.isAgg69
  z46 := Try.sizeOf69
  v46 := Try.zeroValue69
  t51 := Try.underlying106
  a51 := Try.isAgg106
  z51 := Try.sizeOf106
  v51 := Try.zeroValue106
  t53 := Try.underlying109
  a53 := Try.isAgg109
  z53 := Try.sizeOf109
  v53 := Try.zeroValue109
  t131 := Try.underlying154
  a131 := Try.isAgg154
  z131 := Try.sizeOf154
  v131 := Try.zeroValue154
  t182 := Try.underlying149
  a182 := Try.isAgg149
  z182 := Try.sizeOf149
  v182 := Try.zeroValue149
  t183 := Try.underlying150
  a183 := Try.isAgg150
  z183 := Try.sizeOf150
  v183 := Try.zeroValue150
  t218 := Try.underlying180
  a218 := Try.isAgg180
  z218 := Try.sizeOf180
  v218 := Try.zeroValue180
  t222 := Try.underlying184
  a222 := Try.isAgg184
  z222 := Try.sizeOf184
  v222 := Try.zeroValue184
  t228 := Try.underlying197
  a228 := Try.isAgg197
  z228 := Try.sizeOf197
  v228 := Try.zeroValue197
  t229 := Try.underlying198
  a229 := Try.isAgg198
  z229 := Try.sizeOf198
  v229 := Try.zeroValue198 }
end Go.Proofs
