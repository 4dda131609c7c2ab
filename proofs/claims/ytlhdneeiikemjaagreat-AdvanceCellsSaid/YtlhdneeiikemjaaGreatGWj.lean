/- Contracts of Go's library at this seat's numbers, laid by the kit's tools. -/
import Derived.Test.YtlhdneeiikemjaaGreatProg
import Derived.Sort.Grow
import Derived.Lib.Small
import Derived.Shelf.Abstract
import Derived.Shelf.SlGeneric
import Derived.Shelf.SlSortCmp.WholeK
import Derived.Shelf.SlSortCmp.NoneTotal
import Derived.Ground.SlsfProg
import Derived.Shelf.Sort.Plain
import Derived.Shelf.Slices.In.SortNone
import Derived.Ground.NamesProg
import Derived.Test.YtlhdneeiikemjaaGreatGMort
set_option linter.unusedVariables false
set_option linter.unusedSimpArgs false
/- Walks of cmp.Compare and cmp.Or at int, and of the comparison that cover sorts by. -/
namespace Go.Proofs.YtlhdneeiikemjaaGreat
open Go.RowKit Go.Sort
set_option maxHeartbeats 400000 in
theorem isNaN_any (a : Int) (w : World) : Calls Tryz.prog 161 #[.int .i64 a] w fun e w' => e = .returned (.bool false) ∧ w' = w := by
  have h : (a != a) = false := by simp
  go_enter Tryz.func161, Tryz.ntmps161
  go_wp2
  go_ret
  exact ⟨rfl, rfl⟩
set_option maxHeartbeats 400000 in
theorem compare_any (a b : Int) (w : World) : Calls Tryz.prog 106 #[.int .i64 a, .int .i64 b] w fun e w' => e = .returned (.int .i64 (Lib.compareInt a b)) ∧ w' = w := by
  rcases Int.lt_trichotomy a b with h | h | h
  · have e : Lib.compareInt a b = -1 := by simp [Lib.compareInt, h]
    rw [e]
    clear e
    go_enter Tryz.func106, Tryz.ntmps106
    go_wp2_with (go_at_call 161; refine (isNaN_any _ _).mono ?_; rintro e w' ⟨rfl, rfl⟩)
    go_ret
    exact ⟨rfl, rfl⟩
  · subst h
    have e : Lib.compareInt a a = 0 := by simp [Lib.compareInt]
    rw [e]
    clear e
    go_enter Tryz.func106, Tryz.ntmps106
    go_wp2_with (go_at_call 161; refine (isNaN_any _ _).mono ?_; rintro e w' ⟨rfl, rfl⟩)
    go_ret
    exact ⟨rfl, rfl⟩
  · have h' : ¬ a < b := by omega
    have e : Lib.compareInt a b = 1 := by simp [Lib.compareInt, h, h']
    rw [e]
    clear e
    go_enter Tryz.func106, Tryz.ntmps106
    go_wp2_with (go_at_call 161; refine (isNaN_any _ _).mono ?_; rintro e w' ⟨rfl, rfl⟩)
    go_ret
    exact ⟨rfl, rfl⟩
def orI (x y : Int) : Int := if x = 0 then y else x
set_option maxHeartbeats 400000 in
theorem or_any (b : Nat) (x y : Int) (w : World) (h1 : w.cell? ⟨b, 0, none⟩ = some (.int .i64 x)) (h2 : w.cell? ⟨b, 1, none⟩ = some (.int .i64 y)) :
    Calls Tryz.prog 105 #[.slice (some ⟨b, 0, none⟩) 2 2] w fun e w' => e = .returned (.int .i64 (orI x y)) ∧ w' = w := by
  go_enter Tryz.func105, Tryz.ntmps105
  go_wp2
  go_loop [8] (fun i => ∃ k : Nat, k ≤ 2 ∧ i = .int .i64 k ∧ (1 ≤ k → x = 0) ∧ (2 ≤ k → y = 0)) (fun i => 2 - (intOf i).toNat)
  case atStart => exact ⟨0, by omega, rfl, by omega, by omega⟩
  case round =>
    obtain ⟨k, hk, rfl, hx, hy⟩ := hrel
    match k, hk, hx, hy with
    | 0, _, _, _ =>
      clear hx hy hk
      by_cases h : x = 0
      · have H := Lib.hid h
        have h' : (x != 0) = false := by simp [h]
        clear h
        go_wp2
        go_round
        case rel => exact ⟨1, by omega, rfl, fun _ => H.out, by omega⟩
        case measure => simp [intOf]
      · have h' : (x != 0) = true := by simp [h]
        have H := Lib.hid h
        clear h
        go_wp2
        go_ret
        exact ⟨ret_int (by simp [orI, H.out]), rfl⟩
    | 1, _, hx, _ =>
      have HX := Lib.hid (hx (by omega))
      clear hx hk
      by_cases h : y = 0
      · have H := Lib.hid h
        have h' : (y != 0) = false := by simp [h]
        clear h
        go_wp2
        go_round
        case rel => exact ⟨2, by omega, rfl, fun _ => HX.out, fun _ => H.out⟩
        case measure => simp [intOf]
      · have h' : (y != 0) = true := by simp [h]
        clear h
        go_wp2
        go_ret
        exact ⟨ret_int (by simp [orI, HX.out]), rfl⟩
    | 2, _, hx, hy =>
      have HX := Lib.hid (hx (by omega))
      have HY := Lib.hid (hy (by omega))
      clear hx hy hk
      go_wp2
      go_ret
      exact ⟨ret_int (by simp [orI, HX.out, HY.out]), rfl⟩

/-- how cover orders spans -/
def cmpS (x y : Int × Int) : Int := orI (Lib.compareInt x.1 y.1) (Lib.compareInt y.2 x.2)
set_option maxHeartbeats 1000000 in
set_option maxRecDepth 100000 in
theorem coverCmp_any (x y : Int × Int) (W : World) : Calls Tryz.prog 104 #[.agg #[.int .i64 x.1, .int .i64 x.2], .agg #[.int .i64 y.1, .int .i64 y.2]] W fun e w' => e = .returned (.int .i64 (cmpS x y)) ∧ ∃ q os', w' = grow (W.drewN q) os' := by
  have C1 := fun W => compare_any x.1 y.1 W
  have C2 := fun W => compare_any y.2 x.2 W
  unfold cmpS
  generalize Lib.compareInt x.1 y.1 = u at C1 ⊢
  generalize Lib.compareInt y.2 x.2 = v at C2 ⊢
  have C1 := Lib.hid C1
  have C2 := Lib.hid C2
  go_enter Tryz.func104, Tryz.ntmps104
  go_wp2
  refine wp_still_tail 10 (by kernel_rfl) (by kernel_rfl) ?_
  simp only [List.take_succ_cons, List.take_zero, List.drop_succ_cons, List.drop_zero]
  repeat still_step
  still_call (C1.out _)
  repeat still_step
  still_call (C2.out _)
  repeat still_step
  refine wpStill_nil ?_
  go_wp2_with (go_at_call 105; refine (or_any _ u v _ (by go_simp) (by go_simp)).mono ?_; rintro e w' ⟨rfl, rfl⟩)
  go_ret
  refine ⟨rfl, 1, #[.cells #[.int .i64 x.1, .int .i64 x.2] 118, .cells #[.int .i64 y.1, .int .i64 y.2] 118, .cells #[.int .i64 u, .int .i64 v] 3], ?_⟩
  rw [alloc_eq_grow, alloc_eq_grow, alloc_eq_grow, grow_grow]
  rfl
end Go.Proofs.YtlhdneeiikemjaaGreat
/- Walks of invalid, slices.IndexFunc and slices.ContainsFunc at cells. -/
namespace Go.Proofs.YtlhdneeiikemjaaGreat
open Go.RowKit
def IdxPost (w : World) (b : Bool) (e : Ending) (w' : World) : Prop := ∃ k : Int, e = .returned (.int .i64 k) ∧ decide (0 ≤ k) = b ∧ Below w.heap.size w w'
set_option maxHeartbeats 400000 in
theorem invalid_any (x : Cl) (w : World) : Calls Tryz.prog 49 #[cva x] w fun e w' => e = .returned (.bool (!(vldB x.1 x.2.1 x.2.2))) ∧ Below w.heap.size w w' := by
  obtain ⟨l, r, c⟩ := x
  have V := Lib.hid (fun w => valid_any l r c w)
  generalize vldB l r c = b at V ⊢
  go_enter Tryz.func49, Tryz.ntmps49
  go_wp2_with (go_at_call 57; refine (V.out _).mono ?_; rintro e w1 ⟨rfl, hb⟩)
  go_ret
  exact ⟨rfl, one_bl hb⟩
theorem any_take_succ (L : List Cl) (p : Cl → Bool) (k : Nat) (hk : k < L.length) (h : (L.take k).any p = false) (hp : p (gt L k) = false) : (L.take (k + 1)).any p = false := by
  rw [List.take_succ_eq_append_getElem hk, List.any_append, h]
  simp [gt, hk] at hp
  simp [hp]
theorem any_of_gt (L : List Cl) (p : Cl → Bool) (k : Nat) (hk : k < L.length) (hp : p (gt L k) = true) : L.any p = true := by
  rw [List.any_eq_true]
  simp [gt, hk] at hp
  exact ⟨L[k], List.getElem_mem hk, hp⟩

set_option maxHeartbeats 1000000 in
set_option maxRecDepth 100000 in
theorem idxFunc_any (g : Nat) (lb : Array Value) (p : Cl → Bool) (eg : ∀ args w, (callFunc g args).run Tryz.prog w = .ok (.enter g args) w) (A : Option Addr) (n c : Nat) (L : List Cl) (w : World)
    (hr : Reads w w.heap.size 3 A n (cvs L)) (hn : n ≤ maxLen) (hp : ∀ (W : World) (x : Cl), Below w.heap.size w W → Calls Tryz.prog g (#[cva x] ++ lb) W fun e w' => e = .returned (.bool (p x)) ∧ Below W.heap.size W w') :
    Calls Tryz.prog 100 #[.slice A n c, .func (.func g) #[] lb] w (IdxPost w (L.any p)) := by
  have HL := Lib.hid hr.len
  have HR := Lib.hid hr
  have HP := Lib.hid hp
  clear hr hp
  unfold maxLen at hn
  go_enter Tryz.func100, Tryz.ntmps100
  go_wp2
  go_loopg [8] n (fun gg s8 wr => ∃ kk : Nat, kk ≤ n ∧ n - kk ≤ gg ∧ s8 = .int .i64 kk ∧ Below w.heap.size w wr ∧ (L.take kk).any p = false)
  case atStart => exact ⟨0, Nat.zero_le _, by omega, rfl, Below.refl _ w, rfl⟩
  case round =>
    obtain ⟨kk, hkk, hg, rfl, BW, HA⟩ := hrel
    have HA := Lib.hid HA
    by_cases hlt : kk < n
    · obtain ⟨b, off, rfl, hb, x1, x2, x3⟩ := HR.out.elem hlt
      have y1 := (BW.cell (p := ⟨b, off + kk * 3, none⟩) hb).trans x1
      have y2 := (BW.cell (p := ⟨b, off + kk * 3 + 1, none⟩) hb).trans x2
      have y3 := (BW.cell (p := ⟨b, off + kk * 3 + 2, none⟩) hb).trans x3
      clear x1 x2 x3
      have hcall := HP.out wr (gt L kk) BW
      have h1 := Lib.hid (any_take_succ L p kk (by rw [HL.out]; exact hlt) HA.out)
      have h2 := Lib.hid (any_of_gt L p kk (by rw [HL.out]; exact hlt))
      cases hq : p (gt L kk) with
      | true =>
        have h3 := Lib.hid (h2.out hq)
        rw [hq] at hcall
        have hcall := Lib.hid hcall
        clear hq h1 h2
        go_wp2_with (go_at_fn g; refine hcall.out.mono ?_; rintro e w' ⟨rfl, hb'⟩)
        go_ret
        exact ⟨kk, rfl, by rw [h3.out]; simp, BW.trans (hb'.mono BW.size)⟩
      | false =>
        have h3 := Lib.hid (h1.out hq)
        rw [hq] at hcall
        have hcall := Lib.hid hcall
        clear hq h1 h2
        go_wp2_with (go_at_fn g; refine hcall.out.mono ?_; rintro e w' ⟨rfl, hb'⟩)
        go_roundg (n - (kk + 1))
        case measure => omega
        case rel => exact ⟨kk + 1, by omega, by omega, by go_num, BW.trans (hb'.mono BW.size), h3.out⟩
    · go_wp2
      go_ret
      have h := HA.out
      rw [List.take_of_length_le (by rw [HL.out]; omega)] at h
      exact ⟨-1, rfl, by rw [h]; rfl, BW⟩

set_option maxHeartbeats 1000000 in
theorem contFunc_any (g : Nat) (lb : Array Value) (p : Cl → Bool) (eg : ∀ args w, (callFunc g args).run Tryz.prog w = .ok (.enter g args) w) (A : Option Addr) (n c : Nat) (L : List Cl) (w : World)
    (hr : Reads w w.heap.size 3 A n (cvs L)) (hn : n ≤ maxLen) (hp : ∀ (W : World) (x : Cl), Below w.heap.size w W → Calls Tryz.prog g (#[cva x] ++ lb) W fun e w' => e = .returned (.bool (p x)) ∧ Below W.heap.size W w') :
    Calls Tryz.prog 48 #[.slice A n c, .func (.func g) #[] lb] w fun e w' => e = .returned (.bool (L.any p)) ∧ Below w.heap.size w w' := by
  have H := Lib.hid (idxFunc_any g lb p eg A n c L w hr hn hp)
  clear hp hr hn eg
  go_enter Tryz.func48, Tryz.ntmps48
  go_wp2_with (go_at_call 100; refine H.out.mono ?_; rintro e w1 ⟨k, rfl, hk, hb⟩; have HK := Lib.hid hk; clear hk)
  go_ret
  exact ⟨ret_bool HK.out, hb⟩
theorem allValid_any (A : Option Addr) (n c : Nat) (L : List Cl) (w : World) (hr : Reads w w.heap.size 3 A n (cvs L)) (hn : n ≤ maxLen) :
    Calls Tryz.prog 48 #[.slice A n c, .func (.func 49) #[] #[]] w fun e w' => e = .returned (.bool (L.any fun x => !(vldB x.1 x.2.1 x.2.2))) ∧ Below w.heap.size w w' :=
  contFunc_any _ _ _ (enters_of Tryz.func49 (by kernel_rfl) rfl) A n c L w hr hn fun W x _ => invalid_any x W
end Go.Proofs.YtlhdneeiikemjaaGreat
namespace Go.Proofs
open Go.Shelf
def Tryz.sortSpan_ren : Go.Shelf.Ren := ⟨fun | 6 => 103 | 15 => 160 | 14 => 159 | 28 => 207 | 29 => 208 | 20 => 199 | 21 => 200 | 22 => 201 | 23 => 202 | 24 => 203 | 25 => 204 | 26 => 205 | 27 => 206 | 46 => 228 | 47 => 229 | 48 => 230 | 49 => 231 | 50 => 232 | 57 => 267 | n => n, fun | 22 => 86 | 24 => 118 | 25 => 123 | 3 => 3 | 39 => 150 | 0 => 0 | 53 => 196 | 55 => 148 | 4 => 4 | 46 => 190 | 45 => 189 | 50 => 175 | 5 => 5 | 9 => 9 | 66 => 210 | 70 => 214 | 76 => 245 | 77 => 165 | n => n, fun | n => n⟩
theorem Tryz.sortSpan : Go.Proofs.SlLaysF0.n6 Tryz.prog Tryz.sortSpan_ren := {
  mixed := by kernel_rfl
  f6 := ⟨Tryz.f103.name, by decide, Tryz.func103.trans (congrArg some (by kernel_rfl))⟩
  f14 := ⟨Tryz.f159.name, by decide, Tryz.func159.trans (congrArg some (by kernel_rfl))⟩
  f15 := Tryz.func160.trans (congrArg some (by kernel_rfl))
  f20 := ⟨Tryz.f199.name, by decide, Tryz.func199.trans (congrArg some (by kernel_rfl))⟩
  f21 := ⟨Tryz.f200.name, by decide, Tryz.func200.trans (congrArg some (by kernel_rfl))⟩
  f22 := ⟨Tryz.f201.name, by decide, Tryz.func201.trans (congrArg some (by kernel_rfl))⟩
  f23 := ⟨Tryz.f202.name, by decide, Tryz.func202.trans (congrArg some (by kernel_rfl))⟩
  f24 := ⟨Tryz.f203.name, by decide, Tryz.func203.trans (congrArg some (by kernel_rfl))⟩
  f25 := ⟨Tryz.f204.name, by decide, Tryz.func204.trans (congrArg some (by kernel_rfl))⟩
  f26 := ⟨Tryz.f205.name, by decide, Tryz.func205.trans (congrArg some (by kernel_rfl))⟩
  f27 := ⟨Tryz.f206.name, by decide, Tryz.func206.trans (congrArg some (by kernel_rfl))⟩
  f28 := Tryz.func207.trans (congrArg some (by kernel_rfl))
  f29 := Tryz.func208.trans (congrArg some (by kernel_rfl))
  f46 := ⟨Tryz.f228.name, by decide, Tryz.func228.trans (congrArg some (by kernel_rfl))⟩
  f47 := Tryz.func229.trans (congrArg some (by kernel_rfl))
  f48 := Tryz.func230.trans (congrArg some (by kernel_rfl))
  f49 := ⟨Tryz.f231.name, by decide, Tryz.func231.trans (congrArg some (by kernel_rfl))⟩
  f50 := ⟨Tryz.f232.name, by decide, Tryz.func232.trans (congrArg some (by kernel_rfl))⟩
  f57 := ⟨Tryz.f267.name, by decide, Tryz.func267.trans (congrArg some (by kernel_rfl))⟩
  t0 := Tryz.underlying0
  a0 := Tryz.isAgg0
  z0 := Tryz.sizeOf0
  v0 := Tryz.zeroValue0
  t3 := Tryz.underlying3
  a3 := Tryz.isAgg3
  z3 := Tryz.sizeOf3
  v3 := Tryz.zeroValue3
  t4 := Tryz.underlying4
  a4 := Tryz.isAgg4
  z4 := Tryz.sizeOf4
  v4 := Tryz.zeroValue4
  t5 := Tryz.underlying5
  a5 := Tryz.isAgg5
  z5 := Tryz.sizeOf5
  v5 := Tryz.zeroValue5
  t9 := Tryz.underlying9
  a9 := Tryz.isAgg9
  z9 := Tryz.sizeOf9
  v9 := Tryz.zeroValue9
  t22 := Tryz.underlying86
  a22 := Tryz.isAgg86
  z22 := Tryz.sizeOf86
  v22 := Tryz.zeroValue86
  t25 := Tryz.underlying123
  a25 := Tryz.isAgg123
  z25 := Tryz.sizeOf123
  v25 := Tryz.zeroValue123
  t39 := Tryz.underlying150
  a39 := Tryz.isAgg150
  z39 := Tryz.sizeOf150
  v39 := Tryz.zeroValue150
  t45 := Tryz.underlying189
  a45 := Tryz.isAgg189
  z45 := Tryz.sizeOf189
  v45 := Tryz.zeroValue189
  t46 := Tryz.underlying190
  a46 := Tryz.isAgg190
  z46 := Tryz.sizeOf190
  v46 := Tryz.zeroValue190
  t50 := Tryz.underlying175
  a50 := Tryz.isAgg175
  z50 := Tryz.sizeOf175
  v50 := Tryz.zeroValue175
  t53 := Tryz.underlying196
  a53 := Tryz.isAgg196
  z53 := Tryz.sizeOf196
  v53 := Tryz.zeroValue196
  t55 := Tryz.underlying148
  a55 := Tryz.isAgg148
  z55 := Tryz.sizeOf148
  v55 := Tryz.zeroValue148
  t66 := Tryz.underlying210
  a66 := Tryz.isAgg210
  z66 := Tryz.sizeOf210
  v66 := Tryz.zeroValue210
  t70 := Tryz.underlying214
  a70 := Tryz.isAgg214
  z70 := Tryz.sizeOf214
  v70 := Tryz.zeroValue214
  t76 := Tryz.underlying245
  a76 := Tryz.isAgg245
  z76 := Tryz.sizeOf245
  v76 := Tryz.zeroValue245
  t77 := Tryz.underlying165
  a77 := Tryz.isAgg165
  z77 := Tryz.sizeOf165
  v77 := Tryz.zeroValue165 }
def Tryz.sortInt_ren : Go.Shelf.Ren := ⟨fun | 189 => 163 | 125 => 160 | 257 => 209 | 128 => 207 | 129 => 208 | 294 => 233 | 295 => 234 | 296 => 235 | 297 => 236 | 298 => 237 | 299 => 238 | 216 => 239 | 300 => 240 | 301 => 241 | 328 => 268 | 329 => 229 | 330 => 230 | 331 => 269 | 332 => 270 | 215 => 161 | 343 => 289 | n => n, fun | 28 => 153 | 3 => 3 | 46 => 150 | 0 => 0 | 51 => 196 | 53 => 148 | 4 => 4 | 183 => 190 | 182 => 189 | 131 => 175 | 5 => 5 | 9 => 9 | 218 => 210 | 222 => 214 | 228 => 245 | 229 => 165 | n => n, fun | n => n⟩
theorem Tryz.sortInt : Go.Proofs.Lays.n189 Tryz.prog Tryz.sortInt_ren := {
  mixed := by kernel_rfl
  f125 := Tryz.func160.trans (congrArg some (by kernel_rfl))
  f128 := Tryz.func207.trans (congrArg some (by kernel_rfl))
  f129 := Tryz.func208.trans (congrArg some (by kernel_rfl))
  f189 := Tryz.func163.trans (congrArg some (by kernel_rfl))
  f215 := Tryz.func161.trans (congrArg some (by kernel_rfl))
  f216 := Tryz.func239.trans (congrArg some (by kernel_rfl))
  f257 := Tryz.func209.trans (congrArg some (by kernel_rfl))
  f294 := Tryz.func233.trans (congrArg some (by kernel_rfl))
  f295 := Tryz.func234.trans (congrArg some (by kernel_rfl))
  f296 := Tryz.func235.trans (congrArg some (by kernel_rfl))
  f297 := Tryz.func236.trans (congrArg some (by kernel_rfl))
  f298 := Tryz.func237.trans (congrArg some (by kernel_rfl))
  f299 := Tryz.func238.trans (congrArg some (by kernel_rfl))
  f300 := Tryz.func240.trans (congrArg some (by kernel_rfl))
  f301 := Tryz.func241.trans (congrArg some (by kernel_rfl))
  f328 := Tryz.func268.trans (congrArg some (by kernel_rfl))
  f329 := Tryz.func229.trans (congrArg some (by kernel_rfl))
  f330 := Tryz.func230.trans (congrArg some (by kernel_rfl))
  f331 := Tryz.func269.trans (congrArg some (by kernel_rfl))
  f332 := Tryz.func270.trans (congrArg some (by kernel_rfl))
  f343 := Tryz.func289.trans (congrArg some (by kernel_rfl))
  t0 := Tryz.underlying0
  a0 := Tryz.isAgg0
  z0 := Tryz.sizeOf0
  v0 := Tryz.zeroValue0
  t3 := Tryz.underlying3
  a3 := Tryz.isAgg3
  z3 := Tryz.sizeOf3
  v3 := Tryz.zeroValue3
  t4 := Tryz.underlying4
  a4 := Tryz.isAgg4
  z4 := Tryz.sizeOf4
  v4 := Tryz.zeroValue4
  t5 := Tryz.underlying5
  a5 := Tryz.isAgg5
  z5 := Tryz.sizeOf5
  v5 := Tryz.zeroValue5
  t9 := Tryz.underlying9
  a9 := Tryz.isAgg9
  z9 := Tryz.sizeOf9
  v9 := Tryz.zeroValue9
  t28 := Tryz.underlying153
  a28 := Tryz.isAgg153
  z28 := Tryz.sizeOf153
  v28 := Tryz.zeroValue153
  t46 := Tryz.underlying150
  a46 := Tryz.isAgg150
  z46 := Tryz.sizeOf150
  v46 := Tryz.zeroValue150
  t51 := Tryz.underlying196
  a51 := Tryz.isAgg196
  z51 := Tryz.sizeOf196
  v51 := Tryz.zeroValue196
  t53 := Tryz.underlying148
  a53 := Tryz.isAgg148
  z53 := Tryz.sizeOf148
  v53 := Tryz.zeroValue148
  t131 := Tryz.underlying175
  a131 := Tryz.isAgg175
  z131 := Tryz.sizeOf175
  v131 := Tryz.zeroValue175
  t182 := Tryz.underlying189
  a182 := Tryz.isAgg189
  z182 := Tryz.sizeOf189
  v182 := Tryz.zeroValue189
  t183 := Tryz.underlying190
  a183 := Tryz.isAgg190
  z183 := Tryz.sizeOf190
  v183 := Tryz.zeroValue190
  t218 := Tryz.underlying210
  a218 := Tryz.isAgg210
  z218 := Tryz.sizeOf210
  v218 := Tryz.zeroValue210
  t222 := Tryz.underlying214
  a222 := Tryz.isAgg214
  z222 := Tryz.sizeOf214
  v222 := Tryz.zeroValue214
  t228 := Tryz.underlying245
  a228 := Tryz.isAgg245
  z228 := Tryz.sizeOf245
  v228 := Tryz.zeroValue245
  t229 := Tryz.underlying165
  a229 := Tryz.isAgg165
  z229 := Tryz.sizeOf165
  v229 := Tryz.zeroValue165 }
end Go.Proofs
