/- Proved: the law RegionShrinks of layer 39 returns true for every list of circles, every circle, every start, all levels, and every order (RegionShrinksSaid). No condition. -/
import Derived.Test.YtpemohoibeipfaaGreatProg
import Derived.Test.YtpemohoibeipfaaGreatRows
import Derived.Deep.LoopGhost
import Derived.Lib.SliceRun
import Derived.Laws.OwnMore
import Derived.BigRegion
import Derived.Lib.SmallJoins
import Derived.Carry
import Derived.DataShut
import Derived.SizedLaws
import Derived.ChangeSlices
import Derived.Test.YtpemohoibeipfaaGreatHTa
import Derived.Test.YtpemohoibeipfaaGreatHTc
import Derived.Test.YtpemohoibeipfaaGreatHTf
import Derived.Test.YtpemohoibeipfaaGreatHUa
import Derived.Test.YtpemohoibeipfaaGreatHUc
import Derived.Test.YtpemohoibeipfaaGreatHUe
import Derived.Test.YtpemohoibeipfaaGreatHUg
import Derived.Test.YtpemohoibeipfaaGreatHUk
import Derived.Test.YtpemohoibeipfaaGreatHUo
import Derived.Test.YtpemohoibeipfaaGreatHVj
import Derived.Test.YtpemohoibeipfaaGreatHBi
import Derived.Test.YtpemohoibeipfaaGreatHWd
import Derived.Test.YtpemohoibeipfaaGreatHWj
import Derived.Test.YtpemohoibeipfaaGreatHWm
import Derived.Test.YtpemohoibeipfaaGreatHWn
import Derived.Test.YtpemohoibeipfaaGreatHCanon
import Derived.Test.YtpemohoibeipfaaGreatHJa
import Derived.Test.YtpemohoibeipfaaGreatHJb
import Derived.Test.YtpemohoibeipfaaGreatHJc
import Derived.Test.YtpemohoibeipfaaGreatHJe
import Derived.Test.YtpemohoibeipfaaGreatHAm
import Derived.Test.YtpemohoibeipfaaGreatHGc
import Derived.Test.YtpemohoibeipfaaGreatHGd
import Derived.Test.YtpemohoibeipfaaGreatHJm
import Derived.Test.YtpemohoibeipfaaGreatHNa
import Derived.Test.YtpemohoibeipfaaGreatHKy
import Derived.Test.YtpemohoibeipfaaGreatHNc
import Derived.Test.YtpemohoibeipfaaGreatHNd
import Derived.Test.YtpemohoibeipfaaGreatHKw
import Derived.Test.YtpemohoibeipfaaGreatHGj
import Derived.Test.YtpemohoibeipfaaGreatHKx
import Derived.Test.YtpemohoibeipfaaGreatHGl
import Derived.Test.YtpemohoibeipfaaGreatHHs
import Derived.Test.YtpemohoibeipfaaGreatHKz
import Derived.Test.YtpemohoibeipfaaGreatHZg
import Derived.Test.YtpemohoibeipfaaGreatHKr
import Derived.Test.YtpemohoibeipfaaGreatHKt
import Derived.Test.YtpemohoibeipfaaGreatHNe
import Derived.Test.YtpemohoibeipfaaGreatHNh
import Derived.Test.YtpemohoibeipfaaGreatHJw
import Derived.Test.YtpemohoibeipfaaGreatHNi
import Derived.Test.YtpemohoibeipfaaGreatHNg
import Derived.Test.YtpemohoibeipfaaGreatHRl
import Derived.Test.YtpemohoibeipfaaGreatHNj
import Derived.Test.YtpemohoibeipfaaGreatHNm
import Derived.Test.YtpemohoibeipfaaGreatHNn
import Derived.Test.YtpemohoibeipfaaGreatHSd
import Derived.Test.YtpemohoibeipfaaGreatHSf
import Derived.Test.YtpemohoibeipfaaGreatHNq
set_option linter.unusedVariables false
set_option linter.unusedSimpArgs false
namespace Go.Proofs.YtpemohoibeipfaaGreat
open Go.RowKit
theorem Reads.elem1 {w : World} {B n : Nat} {A : Option Addr} {xs : List Value} (h : Reads w B 1 A n xs) {k : Nat} {u : Value} (hk : xs[k]? = some u) :
    ∃ b off, A = some ⟨b, off, none⟩ ∧ b < B ∧ w.cell? ⟨b, off + k, none⟩ = some u := by
  have hl : k < xs.length := by
    rcases Nat.lt_or_ge k xs.length with e | e
    · exact e
    · rw [List.getElem?_eq_none e] at hk; cases hk
  have hn : 0 < n := by have := h.1; omega
  obtain ⟨ad, rfl, hb, hc⟩ := h.2 hn
  obtain ⟨b, off, spot⟩ := ad
  have z1 : xs[0]? = some xs[0] := List.getElem?_eq_getElem (by omega)
  have hspot : spot = none := by simpa [Addr.add] using World.cell?_spot (hc 0 _ z1)
  subst hspot
  refine ⟨b, off, rfl, hb, ?_⟩
  have := hc _ _ hk; rw [Go.WideShapes.add_plain] at this; exact this
section
variable {w1 W W' : World} {i : Nat} {C f f' : Nat → Nat} {v13 v14 : Value} {LL : List (List Cl)} {vs : List Value} {D : List Nat}
end
end Go.Proofs.YtpemohoibeipfaaGreat
namespace Go.Proofs.YtpemohoibeipfaaGreat
open Go.RowKit
theorem civs_append (L M : List Ci) : civs (L ++ M) = civs L ++ civs M := by simp [civs]
theorem civl_one (x : Ci) : ∀ u ∈ civl x, u.oneCell' = true := by
  intro u hu
  simp [civl] at hu
  rcases hu with rfl | rfl | rfl | rfl | rfl | rfl <;> rfl
end Go.Proofs.YtpemohoibeipfaaGreat
namespace Go.Proofs.YtpemohoibeipfaaGreat
open Canon
theorem prt_none {lev : Int} {ag su : Cl → Bool} (ha : ∀ x, ag x = true) (hs : ∀ x, su x = true) : ∀ (f : Nat) (c : Cl), prt ag su lev f c = [c] ∧ prn ag su lev f c = 1
  | 0, c => by unfold prt prn; rw [if_pos (ha c)]; exact ⟨rfl, rfl⟩
  | f + 1, c => by unfold prt prn; rw [if_pos (ha c), if_pos (.inr (hs c)), if_pos (ha c), if_pos (.inr (hs c))]; exact ⟨rfl, rfl⟩
theorem prA_none {lev : Int} {ag su : Cl → Bool} (ha : ∀ x, ag x = true) (hs : ∀ x, su x = true) (L : List Cl) : prA ag su lev L = L ∧ prN ag su lev L = L.length := by
  constructor
  · unfold prA
    induction L with
    | nil => rfl
    | cons y L ih => rw [List.flatMap_cons, ih, (prt_none ha hs _ y).1]; rfl
  · unfold prN
    induction L with
    | nil => rfl
    | cons y L ih => rw [List.map_cons, List.sum_cons, ih, (prt_none ha hs _ y).2, List.length_cons]; omega
end Go.Proofs.YtpemohoibeipfaaGreat
namespace Go.Proofs.YtpemohoibeipfaaGreat
open Go.RowKit
theorem Tryz.infoCircle : (Tryz.prog.info? 36).map (fun i => (i.zero, i.size, i.bytes)) = some (some (.agg #[.int .i64 0, .int .i64 0, .int .i64 0, .int .i64 0, .int .i64 0, .int .i64 0]), 6, 48) := by kernel_rfl
theorem civs_one (L : List Ci) : ∀ u ∈ civs L, u.oneCell' = true := by
  intro u hu
  obtain ⟨x, -, hx⟩ := List.mem_flatMap.1 hu
  exact civl_one x u hx
set_option maxHeartbeats 4000000 in
set_option maxRecDepth 100000 in
theorem cloneCi_any (A : Option Addr) (n ca : Nat) (D : List Ci) (w : World) (hr : Reads w w.heap.size 6 A n (civs D)) (hn : n ≤ 1000) :
    Calls Tryz.prog 18 #[.slice A n ca] w fun e w' => ∃ v, e = .returned v ∧ w'.ownsRow w.heap.size 36 6 v D.length (civs D) ∧ Below w.heap.size w w' := by
  have hl := hr.lenC
  obtain ⟨i0, hi0, hz0, hz1, hzb⟩ := info_parts Tryz.infoCircle
  have RD := Lib.hid hr
  cases A with
  | none =>
    have hn0 : n = 0 := by
      rcases Nat.eq_zero_or_pos n with h | h
      · exact h
      · obtain ⟨ad, e, _⟩ := hr.2 h
        cases e
    subst hn0
    have hD : D = [] := List.eq_nil_of_length_eq_zero hl
    subst hD
    have hq : ∀ (W : World) (c : Nat), (binOp .eql 30 (.slice none 0 c) (.slice none 0 0)).run Tryz.prog W = .ok (.bool true) W := fun W c => Go.Lib.run_eql_slice_nil W 30 36 none 0 c 0 0 Tryz.underlying30
    clear hr RD
    go_enter Tryz.func18, Tryz.ntmps18
    go_wp2
    go_ret
    exact ⟨_, rfl, own_nil _ _ _ _, Below.refl _ _⟩
  | some ad =>
    have hq : ∀ (W : World) (n c : Nat), (binOp .eql 30 (.slice (some ad) n c) (.slice none 0 0)).run Tryz.prog W = .ok (.bool false) W := fun W n c => Go.Lib.run_eql_slice_nil W 30 36 (some ad) n c 0 0 Tryz.underlying30
    clear hr
    go_enter Tryz.func18, Tryz.ntmps18
    go_wp2_with (at_builtin; (refine wpList_append_any _ rfl (.tmp 5) (.tmp 6) _ rfl w.heap.size 36 i0 _ 6 48 Tryz.underlying30 hi0 hz0 hz1 hzb rfl (by decide) (.slice (some ⟨w.heap.size, 0, none⟩) 0 0) 0 [] rfl (own_new w w.heap.size 36 6 0 _ #[] rfl (Nat.le_refl _) rfl (by simp [maxLen])) w.heap.size (some ad) n ca (civs D) rfl (RD.out.alloc (Nat.le_refl _) _) (civs_one D) (by simp only [maxLen]; omega) (by omega) (by simp) ?_); intro v2 w2 hown2 hg2 hat2)
    go_ret
    rw [Nat.zero_add, List.nil_append] at hown2
    exact ⟨_, rfl, by rw [hl]; exact hown2, ((Below.refl _ _).alloc (Nat.le_refl _) _).grown hg2 (by simp) (fun k hk => by simp [Value.ownBlock] at hk; omega)⟩
/-! ### two circles change places -/
def set6 (l : List Value) (o : Nat) (x : Ci) : List Value := (((((l.set o (.int .i64 x.1.1)).set (o + 1) (.int .i64 x.1.2.1)).set (o + 2) (.int .i64 x.1.2.2.1)).set (o + 3) (.int .i64 x.1.2.2.2)).set (o + 4) (.int .i64 x.2.1)).set (o + 5) (.int .i64 x.2.2)
theorem civs_set : ∀ (M : List Ci) (p : Nat) (x : Ci), p < M.length → civs (M.set p x) = set6 (civs M) (p * 6) x
  | [], p, x, h => by simp at h
  | y :: r, 0, x, h => by simp [civs, civl, set6]
  | y :: r, p + 1, x, h => by
    have ih := civs_set r p x (by simpa using h)
    have e0 : (p + 1) * 6 = p * 6 + 6 := by omega
    have hc : civs (y :: r) = .int .i64 y.1.1 :: .int .i64 y.1.2.1 :: .int .i64 y.1.2.2.1 :: .int .i64 y.1.2.2.2 :: .int .i64 y.2.1 :: .int .i64 y.2.2 :: civs r := rfl
    have hd : civs ((y :: r).set (p + 1) x) = .int .i64 y.1.1 :: .int .i64 y.1.2.1 :: .int .i64 y.1.2.2.1 :: .int .i64 y.1.2.2.2 :: .int .i64 y.2.1 :: .int .i64 y.2.2 :: civs (r.set p x) := rfl
    rw [hc, hd, ih, e0]
    unfold set6
    rw [show p * 6 + 6 + 1 = p * 6 + 1 + 6 by omega, show p * 6 + 6 + 2 = p * 6 + 2 + 6 by omega, show p * 6 + 6 + 3 = p * 6 + 3 + 6 by omega, show p * 6 + 6 + 4 = p * 6 + 4 + 6 by omega, show p * 6 + 6 + 5 = p * 6 + 5 + 6 by omega]
    simp only [List.set_cons_succ]
/-- the world behind the store of a circle -/
def put6 (W : World) (g o : Nat) (x : Ci) : World := (((((W.setCell ⟨g, o, none⟩ (.int .i64 x.1.1)).setCell ⟨g, o + 1, none⟩ (.int .i64 x.1.2.1)).setCell ⟨g, o + 2, none⟩ (.int .i64 x.1.2.2.1)).setCell ⟨g, o + 3, none⟩ (.int .i64 x.1.2.2.2)).setCell ⟨g, o + 4, none⟩ (.int .i64 x.2.1)).setCell ⟨g, o + 5, none⟩ (.int .i64 x.2.2)
theorem own_put6 {W : World} {base g n cap : Nat} {M : List Ci} (h : W.ownsRow base 36 6 (.slice (some ⟨g, 0, none⟩) n cap) n (civs M)) (p : Nat) (x : Ci) (hp : p < M.length) : (put6 W g (p * 6) x).ownsRow base 36 6 (.slice (some ⟨g, 0, none⟩) n cap) n (civs (M.set p x)) := by
  rw [civs_set M p x hp]
  exact ((((((h.stored _ _).1.stored _ _).1.stored _ _).1.stored _ _).1.stored _ _).1.stored _ _).1
theorem xk_put6 {W W1 : World} {g : Nat} {v : Value} (h : XK g v W W1) (o : Nat) (x : Ci) : XK g v W (put6 W1 g o x) :=
  (((((h.setAt _ _).setAt _ _).setAt _ _).setAt _ _).setAt _ _).setAt _ _
/-- what is known of one circle of a row of one's own -/
theorem own_at {W : World} {base g n cap : Nat} {M : List Ci} (h : W.ownsRow base 36 6 (.slice (some ⟨g, 0, none⟩) n cap) n (civs M)) (p : Nat) (hp : p < n) : CAt W g (p * 6) (gci M p) := by
  have hr := Reads.of_own h
  obtain ⟨b, off, e, -, hc⟩ := hr.elemC hp
  simp only [Option.some.injEq, Addr.mk.injEq, and_true] at e
  obtain ⟨rfl, rfl⟩ := e
  rw [Nat.zero_add] at hc
  exact hc
def swpC (M : List Ci) (p q : Nat) : List Ci := (M.set p (gci M q)).set q (gci M p)
theorem swp_perm {M : List Ci} {p q : Nat} (hp : p < M.length) (hq : q < M.length) : (swpC M p q).Perm M := by
  have e1 : gci M p = M[p] := by simp [gci, hp]
  have e2 : gci M q = M[q] := by simp [gci, hq]
  unfold swpC
  rw [e1, e2]
  exact List.set_set_perm hp hq
theorem all_perm {α : Type} {L M : List α} (h : L.Perm M) (f : α → Bool) : L.all f = M.all f := by
  rw [Bool.eq_iff_iff, List.all_eq_true, List.all_eq_true]
  exact ⟨fun g x hx => g x (h.mem_iff.2 hx), fun g x hx => g x (h.mem_iff.1 hx)⟩
theorem agP_perm {L M : List Ci} (h : L.Perm M) : agP L = agP M := funext fun x => all_perm h _
theorem suP_perm {L M : List Ci} (h : L.Perm M) : suP L = suP M := funext fun x => all_perm h _
theorem agP_app (K M : List Ci) (x : Cl) (h : agP (K ++ M) x = true) : agP K x = true := by
  unfold agP at *
  rw [List.all_append, Bool.and_eq_true] at h
  exact h.1
theorem suP_app (K M : List Ci) (x : Cl) (h : suP (K ++ M) x = true) : suP K x = true := by
  unfold suP at *
  rw [List.all_append, Bool.and_eq_true] at h
  exact h.1
/-! ### region 6 of the law: a clone, and a circle behind it -/
def ShI (D : List Ci) (x : Ci) (W2 : World) (x0 x2 : Value) (a : Act) (M : Nat → Bool) (a' : Act) (w' : World) : Prop :=
  ∃ (v66 v67 v68 v69 v70 v12 : Value), a' = ((((((a.put (some 66) v66).put (some 67) v67).put (some 68) v68).put (some 69) v69).put (some 70) v70).put (some 12) v12) ∧ Below W2.heap.size W2 w' ∧
    (M 0 = true → v66 = x0) ∧ (M 2 = true → v68 = x2) ∧
    (M 1 = true → M 4 = false → ∃ u, v67 = u ∧ w'.ownsRow W2.heap.size 36 6 u D.length (civs D)) ∧
    (M 3 = true → M 4 = false → ∃ g, v69 = .slice (some ⟨g, 0, none⟩) 1 1 ∧ Blk w' g 36 (civl x).toArray) ∧
    (M 4 = true → ∃ u, v70 = u ∧ w'.ownsRow W2.heap.size 36 6 u (D ++ [x]).length (civs (D ++ [x]))) ∧
    (M 4 = true → M 1 = true ∧ M 3 = true) ∧
    (M 5 = true → M 4 = true ∧ v12 = v70)
theorem ShI.start {D : List Ci} {x : Ci} {W2 : World} {x0 x2 : Value} (a : Act) : ShI D x W2 x0 x2 a (fun _ => false) a W2.drew :=
  ⟨_, _, _, _, _, _, by rw [putQ_self a 66, putQ_self a 67, putQ_self a 68, putQ_self a 69, putQ_self a 70, putQ_self a 12], bl_drew (Below.refl _ _), fun h => (by cases h), fun h => (by cases h), fun h => (by cases h), fun h => (by cases h), fun h => (by cases h), fun h => (by cases h), fun h => (by cases h)⟩
theorem circ_reads {w : World} {g : Nat} {x : Ci} (h : Blk w g 36 (civl x).toArray) : Reads w w.heap.size 6 (some ⟨g, 0, none⟩) 1 (civs [x]) := by
  refine ⟨rfl, fun _ => ⟨_, rfl, h.lt, fun j u hu => ?_⟩⟩
  have hj : j < 6 := by
    have := (List.getElem?_eq_some_iff.1 hu).1
    simpa [civs, civl] using this
  have e : civs [x] = civl x := by simp [civs]
  rw [e] at hu
  rw [Go.WideShapes.add_plain, Nat.zero_add, h.cell]
  simpa using hu
end Go.Proofs.YtpemohoibeipfaaGreat
namespace Go.Proofs.YtpemohoibeipfaaGreat
open Go.RowKit

theorem meas9 {no i gk : Nat} (hlt : i < no) (h : no - i ≤ gk) : no - (i + 1) < gk := by omega
def bys (L : List Int) : List Value := L.map fun z => .int .u8 z
def SwI19 (W2 : World) (x0 x1 x2 x3 x4 x5 x6 x7 x8 x9 x10 : Value) (v : Nat → Int × Int) (a : Act) (L : Nat → Bool) (a' : Act) (w' : World) : Prop :=
  ∃ (v116 v117 v118 v119 v120 v121 v122 v123 v124 v25 v26 : Value) (g : Nat → Nat), a' = (((((((((((a.put (some 116) v116).put (some 117) v117).put (some 118) v118).put (some 119) v119).put (some 120) v120).put (some 121) v121).put (some 122) v122).put (some 123) v123).put (some 124) v124).put (some 25) v25).put (some 26) v26) ∧ MJ W2 w' L 0 100 200 g v ∧
    (L 0 = true → v116 = x0) ∧ (L 1 = true → v117 = x1) ∧ (L 2 = true → v118 = x2) ∧ (L 3 = true → v119 = x3) ∧ (L 4 = true → v120 = x4) ∧ (L 5 = true → v121 = x5) ∧ (L 6 = true → v122 = x6) ∧ (L 7 = true → v123 = x7) ∧ (L 8 = true → v124 = x8) ∧ (L 9 = true → v25 = x9) ∧ (L 10 = true → v26 = x10)
theorem SwI19.start (W2 : World) (x0 x1 x2 x3 x4 x5 x6 x7 x8 x9 x10 : Value) (v : Nat → Int × Int) (a : Act) : SwI19 W2 x0 x1 x2 x3 x4 x5 x6 x7 x8 x9 x10 v a (fun _ => false) a W2.drew :=
  ⟨_, _, _, _, _, _, _, _, _, _, _, fun _ => 0, by rw [putQ_self a 116, putQ_self a 117, putQ_self a 118, putQ_self a 119, putQ_self a 120, putQ_self a 121, putQ_self a 122, putQ_self a 123, putQ_self a 124, putQ_self a 25, putQ_self a 26], MJ.start W2 0 100 200 _ v, fun h => (by cases h), fun h => (by cases h), fun h => (by cases h), fun h => (by cases h), fun h => (by cases h), fun h => (by cases h), fun h => (by cases h), fun h => (by cases h), fun h => (by cases h), fun h => (by cases h), fun h => (by cases h)⟩
def SwI20 (g cm m B p q : Nat) (M' : List Ci) (W2 : World) (x0 x1 x2 x3 x4 x5 x6 x7 x8 x9 x10 x11 x12 x14 : Value) (a : Act) (L : Nat → Bool) (a' : Act) (w' : World) : Prop :=
  ∃ v125 v126 v127 v128 v129 v130 v131 v132 v133 v134 v135 v136 v137 v138 : Value, a' = ((((((((((((((a.put (some 125) v125).put (some 126) v126).put (some 127) v127).put (some 128) v128).put (some 129) v129).put (some 130) v130).put (some 131) v131).put (some 132) v132).put (some 133) v133).put (some 134) v134).put (some 135) v135).put (some 136) v136).put (some 137) v137).put (some 138) v138) ∧ XK g (.slice (some ⟨g, 0, none⟩) m cm) W2 w' ∧
    (L 13 = false → w'.ownsRow B 36 6 (.slice (some ⟨g, 0, none⟩) m cm) m (civs (M'))) ∧
    (L 13 = true → L 15 = false → w'.ownsRow B 36 6 (.slice (some ⟨g, 0, none⟩) m cm) m (civs (M'.set p (gci M' q)))) ∧
    (L 15 = true → w'.ownsRow B 36 6 (.slice (some ⟨g, 0, none⟩) m cm) m (civs (swpC M' p q))) ∧
    (L 15 = true → L 13 = true) ∧
    (L 13 = true → L 7 = true ∧ L 11 = true) ∧
    (L 0 = true → v125 = x0) ∧
    (L 1 = true → v126 = x1) ∧
    (L 2 = true → v127 = x2) ∧
    (L 3 = true → v128 = x3) ∧
    (L 4 = true → v129 = x4) ∧
    (L 5 = true → v130 = x5) ∧
    (L 6 = true → v131 = x6) ∧
    (L 7 = true → v132 = x7) ∧
    (L 8 = true → v133 = x8) ∧
    (L 9 = true → v134 = x9) ∧
    (L 10 = true → v135 = x10) ∧
    (L 11 = true → v136 = x11) ∧
    (L 12 = true → v137 = x12) ∧
    (L 14 = true → v138 = x14)
theorem SwI20.start {g cm m B p q : Nat} {M' : List Ci} {W2 : World} {x0 x1 x2 x3 x4 x5 x6 x7 x8 x9 x10 x11 x12 x14 : Value} (a : Act) (h : W2.ownsRow B 36 6 (.slice (some ⟨g, 0, none⟩) m cm) m (civs M')) : SwI20 g cm m B p q M' W2 x0 x1 x2 x3 x4 x5 x6 x7 x8 x9 x10 x11 x12 x14 a (fun _ => false) a W2.drew :=
  ⟨_, _, _, _, _, _, _, _, _, _, _, _, _, _, by rw [putQ_self a 125, putQ_self a 126, putQ_self a 127, putQ_self a 128, putQ_self a 129, putQ_self a 130, putQ_self a 131, putQ_self a 132, putQ_self a 133, putQ_self a 134, putQ_self a 135, putQ_self a 136, putQ_self a 137, putQ_self a 138], XK.of_below (bl_drew (Below.refl _ _)), fun _ => own_bl h (bl_drew (Below.refl _ _)) (Nat.le_refl _), fun h => (by cases h), fun h => (by cases h), fun h => (by cases h), fun h => (by cases h), fun h => (by cases h), fun h => (by cases h), fun h => (by cases h), fun h => (by cases h), fun h => (by cases h), fun h => (by cases h), fun h => (by cases h), fun h => (by cases h), fun h => (by cases h), fun h => (by cases h), fun h => (by cases h), fun h => (by cases h), fun h => (by cases h), fun h => (by cases h)⟩
set_option maxHeartbeats 16000000 in
set_option maxRecDepth 100000 in
theorem regionShrinks_any (A : Option Addr) (n c : Nat) (K : List Ci) (kk : Ci) (Al : Option Addr) (nl cl : Nat) (L : List Cl) (lv : Int) (Ao : Option Addr) (no co : Nat) (Od : List Int) (w : World) (hrd : Reads w w.heap.size 6 A n (civs K)) (hnc : n ≤ c) (hcm : c ≤ maxLen) (hrl : Reads w w.heap.size 3 Al nl (cvs L)) (hnl : nl ≤ cl) (hcl : cl ≤ maxLen)
    (l0 : 0 ≤ lv) (l1 : lv ≤ 255) (hro : Reads w w.heap.size 1 Ao no (bys Od)) (hno : no ≤ maxLen) (hod : ∀ z ∈ Od, 0 ≤ z ∧ z ≤ 255) :
    Calls Tryz.prog 4 #[.slice A n c, civ kk, .slice Al nl cl, .int .u8 lv, .slice Ao no co] w fun e w' => e = .returned (.bool true) ∧ Below w.heap.size w w' := by
  have hkn := hrd.lenC
  have hln := hrl.len
  have KA := Lib.hid awake39
  obtain ⟨lev, hlev⟩ : ∃ k : Int, lv % 17 = k := ⟨_, rfl⟩
  have b0 : 0 ≤ lev ∧ lev ≤ 16 := by omega
  have t0 : lv.tmod 17 = lev := by rw [Int.tmod_eq_emod_of_nonneg l0]; exact hlev
  have u0 : wrap64 lv = lv := IntWalk.wrap64_in _ (by omega)
  have u2 : wrap64 lev = lev := IntWalk.wrap64_in _ (by omega)
  clear hlev
  have KW := fun W => rValid35_all kk W
  obtain ⟨⟨a0, a1, o0, o1⟩, r0, r1⟩ := kk
  unfold civ at KW ⊢
  simp only [] at KW ⊢
  have CB := Lib.hid (Blk.new w 36 #[.int .i64 a0, .int .i64 a1, .int .i64 o0, .int .i64 o1, .int .i64 r0, .int .i64 r1])
  have B0 := Lib.hid (bl_alloc w (.cells #[.int .i64 a0, .int .i64 a1, .int .i64 o0, .int .i64 o1, .int .i64 r0, .int .i64 r1] 36))
  have RD : Hid (∀ W, Below w.heap.size w W → Reads W W.heap.size 6 A n (civs K)) := Lib.hid fun W h => (hrd.below h).more h.size
  have RL : Hid (∀ W, Below w.heap.size w W → Reads W W.heap.size 3 Al nl (cvs L)) := Lib.hid fun W h => (hrl.below h).more h.size
  have RO : Hid (∀ W, Below w.heap.size w W → Reads W W.heap.size 1 Ao no (bys Od)) := Lib.hid fun W h => (hro.below h).more h.size
  have HOD := Lib.hid hod
  have HON : Hid (Od.length = no) := Lib.hid (by have := hro.1; simpa [bys] using this)
  clear hrd hrl hro hod
  by_cases c1 : 3 < n
  · have dc1 : decide ((3 : Int) < (n : Int)) = true := decide_eq_true (by omega)
    go_enter Tryz.func4, Tryz.ntmps4
    go_upto_region 1 with (fail)
    generalize w.alloc (.cells #[.int .i64 a0, .int .i64 a1, .int .i64 o0, .int .i64 o1, .int .i64 r0, .int .i64 r1] 36) = w0 at CB B0 ⊢
    go_wp2_with fail
    (with_reducible refine (KA.out _).mono ?_)
    rintro e w1 ⟨rfl, hb1⟩
    have C1 := Lib.hid (CB.out.below hb1 CB.out.lt)
    have B1 := Lib.hid (B0.out.trans (hb1.mono B0.out.size))
    clear hb1 KA CB B0
    go_wp2
    go_ret
    exact ⟨rfl, B1.out⟩
  have dc1 : decide ((3 : Int) < (n : Int)) = false := decide_eq_false (by omega)
  by_cases c2 : 100 < nl
  · have dc2 : decide ((100 : Int) < (nl : Int)) = true := decide_eq_true (by omega)
    go_enter Tryz.func4, Tryz.ntmps4
    go_upto_region 1 with (fail)
    generalize w.alloc (.cells #[.int .i64 a0, .int .i64 a1, .int .i64 o0, .int .i64 o1, .int .i64 r0, .int .i64 r1] 36) = w0 at CB B0 ⊢
    go_wp2_with fail
    (with_reducible refine (KA.out _).mono ?_)
    rintro e w1 ⟨rfl, hb1⟩
    have C1 := Lib.hid (CB.out.below hb1 CB.out.lt)
    have B1 := Lib.hid (B0.out.trans (hb1.mono B0.out.size))
    clear hb1 KA CB B0
    go_wp2
    go_ret
    exact ⟨rfl, B1.out⟩
  have dc2 : decide ((100 : Int) < (nl : Int)) = false := decide_eq_false (by omega)
  by_cases c3 : 20 < no
  · have dc3 : decide ((20 : Int) < (no : Int)) = true := decide_eq_true (by omega)
    go_enter Tryz.func4, Tryz.ntmps4
    go_upto_region 1 with (fail)
    generalize w.alloc (.cells #[.int .i64 a0, .int .i64 a1, .int .i64 o0, .int .i64 o1, .int .i64 r0, .int .i64 r1] 36) = w0 at CB B0 ⊢
    go_wp2_with fail
    (with_reducible refine (KA.out _).mono ?_)
    rintro e w1 ⟨rfl, hb1⟩
    have C1 := Lib.hid (CB.out.below hb1 CB.out.lt)
    have B1 := Lib.hid (B0.out.trans (hb1.mono B0.out.size))
    clear hb1 KA CB B0
    go_wp2
    go_ret
    exact ⟨rfl, B1.out⟩
  have dc3 : decide ((20 : Int) < (no : Int)) = false := decide_eq_false (by omega)
  have KV := fun (W : World) (h : Below w.heap.size w W) => rValid39_any A n c K W (RD.out W h) (by simp only [maxLen]; omega)
  have KR := fun (W : World) (h : Below w.heap.size w W) => refVR_any Al nl cl L W (RL.out W h) hnl hcl
  rw [rvrB_eq] at KR
  cases hvk : K.all vciB with
  | false =>
    rw [hvk] at KV
    have KV := Lib.hid KV
    clear KR KW
    go_enter Tryz.func4, Tryz.ntmps4
    go_upto_region 1 with (fail)
    generalize w.alloc (.cells #[.int .i64 a0, .int .i64 a1, .int .i64 o0, .int .i64 o1, .int .i64 r0, .int .i64 r1] 36) = w0 at CB B0 ⊢
    go_wp2_with fail
    (with_reducible refine (KA.out _).mono ?_)
    rintro e w1 ⟨rfl, hb1⟩
    have C1 := Lib.hid (CB.out.below hb1 CB.out.lt)
    have B1 := Lib.hid (B0.out.trans (hb1.mono B0.out.size))
    clear hb1 KA CB B0
    have KV2 := Lib.hid (KV.out w1 B1.out)
    go_wp2_with fail
    (with_reducible refine (KV2.out).mono ?_)
    rintro e w2 ⟨rfl, hb2⟩
    have C2 := Lib.hid (C1.out.below hb2 C1.out.lt)
    have B2 := Lib.hid (B1.out.trans (hb2.mono B1.out.size))
    clear hb2 KV KV2 C1 B1
    go_wp2
    go_ret
    exact ⟨rfl, B2.out⟩
  | true =>
  have hK : ∀ k ∈ K, VCi k := fun k hk => (vciB_iff k).1 (List.all_eq_true.1 hvk k hk)
  rw [hvk] at KV
  have KV := Lib.hid KV
  cases hvc : vciB ((a0, a1, o0, o1), r0, r1) with
  | false =>
    rw [hvc] at KW
    have KW := Lib.hid KW
    clear KR
    go_enter Tryz.func4, Tryz.ntmps4
    go_upto_region 1 with (fail)
    generalize w.alloc (.cells #[.int .i64 a0, .int .i64 a1, .int .i64 o0, .int .i64 o1, .int .i64 r0, .int .i64 r1] 36) = w0 at CB B0 ⊢
    go_wp2_with fail
    (with_reducible refine (KA.out _).mono ?_)
    rintro e w1 ⟨rfl, hb1⟩
    have C1 := Lib.hid (CB.out.below hb1 CB.out.lt)
    have B1 := Lib.hid (B0.out.trans (hb1.mono B0.out.size))
    clear hb1 KA CB B0
    have KV2 := Lib.hid (KV.out w1 B1.out)
    go_wp2_with fail
    (with_reducible refine (KV2.out).mono ?_)
    rintro e w2 ⟨rfl, hb2⟩
    have C2 := Lib.hid (C1.out.below hb2 C1.out.lt)
    have B2 := Lib.hid (B1.out.trans (hb2.mono B1.out.size))
    clear hb2 KV KV2 C1 B1
    have x0 : w2.cell? ⟨w.heap.size, 0, none⟩ = some (.int .i64 a0) := C2.out.cell 0
    have x1 : w2.cell? ⟨w.heap.size, 1, none⟩ = some (.int .i64 a1) := C2.out.cell 1
    have x2 : w2.cell? ⟨w.heap.size, 2, none⟩ = some (.int .i64 o0) := C2.out.cell 2
    have x3 : w2.cell? ⟨w.heap.size, 3, none⟩ = some (.int .i64 o1) := C2.out.cell 3
    have x4 : w2.cell? ⟨w.heap.size, 4, none⟩ = some (.int .i64 r0) := C2.out.cell 4
    have x5 : w2.cell? ⟨w.heap.size, 5, none⟩ = some (.int .i64 r1) := C2.out.cell 5
    go_wp2_with fail
    (with_reducible refine (KW.out _).mono ?_)
    rintro e w3 ⟨rfl, hb3⟩
    have C3 := Lib.hid (C2.out.below hb3 C2.out.lt)
    have B3 := Lib.hid (B2.out.trans (hb3.mono B2.out.size))
    clear hb3 KW C2 B2 x0 x1 x2 x3 x4 x5
    go_wp2
    go_ret
    exact ⟨rfl, B3.out⟩
  | true =>
  rw [hvc] at KW
  have KW := Lib.hid KW
  have hkk : VCi ((a0, a1, o0, o1), r0, r1) := (vciB_iff _).1 hvc
  cases hvl : vrB L with
  | false =>
    rw [hvl] at KR
    have KR := Lib.hid KR
    go_enter Tryz.func4, Tryz.ntmps4
    go_upto_region 1 with (fail)
    generalize w.alloc (.cells #[.int .i64 a0, .int .i64 a1, .int .i64 o0, .int .i64 o1, .int .i64 r0, .int .i64 r1] 36) = w0 at CB B0 ⊢
    go_wp2_with fail
    (with_reducible refine (KA.out _).mono ?_)
    rintro e w1 ⟨rfl, hb1⟩
    have C1 := Lib.hid (CB.out.below hb1 CB.out.lt)
    have B1 := Lib.hid (B0.out.trans (hb1.mono B0.out.size))
    clear hb1 KA CB B0
    have KV2 := Lib.hid (KV.out w1 B1.out)
    go_wp2_with fail
    (with_reducible refine (KV2.out).mono ?_)
    rintro e w2 ⟨rfl, hb2⟩
    have C2 := Lib.hid (C1.out.below hb2 C1.out.lt)
    have B2 := Lib.hid (B1.out.trans (hb2.mono B1.out.size))
    clear hb2 KV KV2 C1 B1
    have x0 : w2.cell? ⟨w.heap.size, 0, none⟩ = some (.int .i64 a0) := C2.out.cell 0
    have x1 : w2.cell? ⟨w.heap.size, 1, none⟩ = some (.int .i64 a1) := C2.out.cell 1
    have x2 : w2.cell? ⟨w.heap.size, 2, none⟩ = some (.int .i64 o0) := C2.out.cell 2
    have x3 : w2.cell? ⟨w.heap.size, 3, none⟩ = some (.int .i64 o1) := C2.out.cell 3
    have x4 : w2.cell? ⟨w.heap.size, 4, none⟩ = some (.int .i64 r0) := C2.out.cell 4
    have x5 : w2.cell? ⟨w.heap.size, 5, none⟩ = some (.int .i64 r1) := C2.out.cell 5
    go_wp2_with fail
    (with_reducible refine (KW.out _).mono ?_)
    rintro e w3 ⟨rfl, hb3⟩
    have C3 := Lib.hid (C2.out.below hb3 C2.out.lt)
    have B3 := Lib.hid (B2.out.trans (hb3.mono B2.out.size))
    clear hb3 KW C2 B2 x0 x1 x2 x3 x4 x5
    have KR2 := Lib.hid (KR.out w3 B3.out)
    go_wp2_with fail
    (with_reducible refine (KR2.out).mono ?_)
    rintro e w4 ⟨rfl, hb4⟩
    have C4 := Lib.hid (C3.out.below hb4 C3.out.lt)
    have B4 := Lib.hid (B3.out.trans (hb4.mono B3.out.size))
    clear hb4 KR KR2 C3 B3
    go_wp2
    go_ret
    exact ⟨rfl, B4.out⟩
  | true =>
  rw [hvl] at KR
  have KR := Lib.hid KR
  obtain ⟨hLV, hT⟩ := vr_td hvl
  obtain ⟨M, hM⟩ : ∃ M, K ++ [((a0, a1, o0, o1), r0, r1)] = M := ⟨_, rfl⟩
  have hMv : ∀ k ∈ M, VCi k := fun k hk => by
    rw [← hM] at hk
    rcases List.mem_append.1 hk with h | h
    · exact hK k h
    · simp at h; subst h; exact hkk
  obtain ⟨m, hmn⟩ : ∃ m, n + 1 = m := ⟨_, rfl⟩
  have hMl : M.length = m := by rw [← hM, ← hmn]; simp [hkn]
  have hm4 : 1 ≤ m ∧ m ≤ 4 := by omega
  have hag : ∀ x, agP M x = true → agP K x = true := fun x h => by rw [← hM] at h; exact agP_app _ _ _ h
  have hsu : ∀ x, suP M x = true → suP K x = true := fun x h => by rw [← hM] at h; exact suP_app _ _ _ h
  have KO := Lib.hid (fun (W : World) (h : Below w.heap.size w W) => rOf_any K A n c L Al nl cl lev 300 W hK (by omega) (RD.out W h) (RL.out W h) hnl hcl hvl b0.1 b0.2 (by decide) (by decide))
  have KP := Lib.hid (fun (W : World) (h : Below w.heap.size w W) (Am : Option Addr) (cm : Nat) (hr : Reads W W.heap.size 6 Am m (civs M)) => rOf_any M Am m cm L Al nl cl lev 300 W hMv (by omega) hr (RL.out W h) hnl hcl hvl b0.1 b0.2 (by decide) (by decide))
  have K1 := Lib.hid (fun (W : World) (h : Below w.heap.size w W) (hc : prN (agP K) (suP K) lev L ≤ 4000) => Of39_yes K A n c L Al nl cl lev W hK (by omega) (RD.out W h) (RL.out W h) hvl b0.1 b0.2 hc)
  have K2 := Lib.hid (fun (W : World) (h : Below w.heap.size w W) (M' : List Ci) (hp : M'.Perm M) (hc : prN (agP M) (suP M) lev L ≤ 4000) (Am : Option Addr) (cm : Nat) (hr : Reads W W.heap.size 6 Am m (civs M')) => Of39_yes M' Am m cm L Al nl cl lev W (fun k hk => hMv k (hp.mem_iff.1 hk)) (by omega) hr (RL.out W h) hvl b0.1 b0.2 (by rw [agP_perm hp, suP_perm hp]; exact hc))
  have hpn := prA_none (lev := lev) (ag := agP []) (su := suP []) (fun _ => rfl) (fun _ => rfl) L
  have K3 := fun (W : World) (h : Below w.heap.size w W) => Of39_yes [] none 0 0 L Al nl cl lev W (fun k hk => by cases hk) (by omega) Reads.none_ (RL.out W h) hvl b0.1 b0.2 (by rw [hpn.2]; have := ((vrB_iff L).1 hvl).1; omega)
  rw [hpn.1, hT] at K3
  have K3 := Lib.hid K3
  have KC := Lib.hid (fun (W : World) (h : Below w.heap.size w W) => cloneCi_any A n c K W (RD.out W h) (by omega))
  have HV := Lib.hid hvl
  have HLV := Lib.hid hLV
  have HTT := Lib.hid hT
  have HAG := Lib.hid hag
  have HSU := Lib.hid hsu
  have HM := Lib.hid hM
  have HKN := Lib.hid hkn
  have HML := Lib.hid hMl
  have HMN := Lib.hid hmn
  clear hvk hvc hvl hkk hK hLV hT hag hsu hM hMv hpn hkn hMl RD hmn hln
  go_enter Tryz.func4, Tryz.ntmps4
  go_upto_region 1 with (fail)
  generalize w.alloc (.cells #[.int .i64 a0, .int .i64 a1, .int .i64 o0, .int .i64 o1, .int .i64 r0, .int .i64 r1] 36) = w0 at CB B0 ⊢
  go_wp2_with fail
  (with_reducible refine (KA.out _).mono ?_)
  rintro e w1 ⟨rfl, hb1⟩
  have C1 := Lib.hid (CB.out.below hb1 CB.out.lt)
  have B1 := Lib.hid (B0.out.trans (hb1.mono B0.out.size))
  clear hb1 KA CB B0
  have KV2 := Lib.hid (KV.out w1 B1.out)
  go_wp2_with fail
  (with_reducible refine (KV2.out).mono ?_)
  rintro e w2 ⟨rfl, hb2⟩
  have C2 := Lib.hid (C1.out.below hb2 C1.out.lt)
  have B2 := Lib.hid (B1.out.trans (hb2.mono B1.out.size))
  clear hb2 KV KV2 C1 B1
  have x0 : w2.cell? ⟨w.heap.size, 0, none⟩ = some (.int .i64 a0) := C2.out.cell 0
  have x1 : w2.cell? ⟨w.heap.size, 1, none⟩ = some (.int .i64 a1) := C2.out.cell 1
  have x2 : w2.cell? ⟨w.heap.size, 2, none⟩ = some (.int .i64 o0) := C2.out.cell 2
  have x3 : w2.cell? ⟨w.heap.size, 3, none⟩ = some (.int .i64 o1) := C2.out.cell 3
  have x4 : w2.cell? ⟨w.heap.size, 4, none⟩ = some (.int .i64 r0) := C2.out.cell 4
  have x5 : w2.cell? ⟨w.heap.size, 5, none⟩ = some (.int .i64 r1) := C2.out.cell 5
  go_wp2_with fail
  (with_reducible refine (KW.out _).mono ?_)
  rintro e w3 ⟨rfl, hb3⟩
  have C3 := Lib.hid (C2.out.below hb3 C2.out.lt)
  have B3 := Lib.hid (B2.out.trans (hb3.mono B2.out.size))
  clear hb3 KW C2 B2 x0 x1 x2 x3 x4 x5
  have KR2 := Lib.hid (KR.out w3 B3.out)
  go_wp2_with fail
  (with_reducible refine (KR2.out).mono ?_)
  rintro e w4 ⟨rfl, hb4⟩
  have C4 := Lib.hid (C3.out.below hb4 C3.out.lt)
  have B4 := Lib.hid (B3.out.trans (hb4.mono B3.out.size))
  clear hb4 KR KR2 C3 B3
  go_upto_region 6 with (fail)
  obtain ⟨i0, hi0, hz0, hz1, hzb⟩ := info_parts Tryz.infoCircle
  have hnl9 : K.length ≤ 3 := by have := HKN.out; omega
  refine wp_region_inv3 (by kernel_rfl) (ShI K ((a0, a1, o0, o1), r0, r1) w4 (.slice A n c) (.agg #[.int .i64 a0, .int .i64 a1, .int .i64 o0, .int .i64 o1, .int .i64 r0, .int .i64 r1])) (waits_bind (by kernel_rfl)) ?start ?step ?fin
  case start => exact ShI.start _
  case step =>
    rintro N i o a1' w' ho hL haf ⟨v66, v67, v68, v69, v70, v12, rfl, hbw, e0, e2, h1, h3, h4, h41, h5⟩
    have HBW := Lib.hid hbw
    have E0 := Lib.hid e0
    have E2 := Lib.hid e2
    have H1 := Lib.hid h1
    have H3 := Lib.hid h3
    have H4 := Lib.hid h4
    have H41 := Lib.hid h41
    have H5 := Lib.hid h5
    clear hbw e0 e2 h1 h3 h4 h41 h5
    rcases i with _ | _ | _ | _ | _ | _ | i
    all_goals (simp at ho; try subst ho)
    all_goals (try simp [Region.binds] at haf)
    · go_wp2
      unfold ShI
      exact ⟨(.slice A n c), v67, v68, v69, v70, v12, by simp only [Act.put, List.setIfInBounds_toArray, List.set_cons_zero, List.set_cons_succ], HBW.out, fun _ => rfl, kq E2, fun h k => H1.out (by simpa [mkd] using h) (by simpa [mkd] using k), fun h k => H3.out (by simpa [mkd] using h) (by simpa [mkd] using k), fun h => H4.out (by simpa [mkd] using h), fun h => (by have q := H41.out (by simpa [mkd] using h); simpa [mkd] using q), fun h => (by have q := H5.out (by simpa [mkd] using h); simpa [mkd] using q)⟩
    · obtain rfl := E0.out (by simp [haf])
      have hN4 : N 4 = false := by
        cases q : N 4 with
        | false => rfl
        | true => have := (H41.out q).1; rw [hL] at this; cases this
      have KC2 := Lib.hid (KC.out w' (B4.out.trans (HBW.out.mono B4.out.size)))
      go_wp2_with fail
      (with_reducible refine (KC2.out).mono ?_)
      rintro e w9 ⟨u, rfl, hown9, hb9⟩
      have HB9 := Lib.hid hb9
      have HO9 := Lib.hid (own_mono hown9 HBW.out.size)
      clear hown9 hb9
      go_wp2
      unfold ShI
      exact ⟨(.slice A n c), u, v68, v69, v70, v12, by simp only [Act.put, List.setIfInBounds_toArray, List.set_cons_zero, List.set_cons_succ], HBW.out.trans (HB9.out.mono HBW.out.size), fun _ => rfl, kq E2, fun _ _ => ⟨u, rfl, HO9.out⟩, fun h k => (by obtain ⟨g, q1, q2⟩ := H3.out (by simpa [mkd] using h) hN4; exact ⟨g, q1, q2.below HB9.out q2.lt⟩), fun h => (by have q : N 4 = true := (by simpa [mkd] using h); rw [hN4] at q; cases q), fun h => (by have q : N 4 = true := (by simpa [mkd] using h); rw [hN4] at q; cases q), fun h => (by have q := (H5.out (by simpa [mkd] using h)).1; rw [hN4] at q; cases q)⟩
    · have z9 := C4.out.below HBW.out C4.out.lt
      have k0 : w'.cell? ⟨w.heap.size, 0, none⟩ = some (.int .i64 a0) := z9.cell 0
      have k1 : w'.cell? ⟨w.heap.size, 1, none⟩ = some (.int .i64 a1) := z9.cell 1
      have k2 : w'.cell? ⟨w.heap.size, 2, none⟩ = some (.int .i64 o0) := z9.cell 2
      have k3 : w'.cell? ⟨w.heap.size, 3, none⟩ = some (.int .i64 o1) := z9.cell 3
      have k4 : w'.cell? ⟨w.heap.size, 4, none⟩ = some (.int .i64 r0) := z9.cell 4
      have k5 : w'.cell? ⟨w.heap.size, 5, none⟩ = some (.int .i64 r1) := z9.cell 5
      clear z9
      go_wp2
      unfold ShI
      exact ⟨v66, v67, (.agg #[.int .i64 a0, .int .i64 a1, .int .i64 o0, .int .i64 o1, .int .i64 r0, .int .i64 r1]), v69, v70, v12, by simp only [Act.put, List.setIfInBounds_toArray, List.set_cons_zero, List.set_cons_succ], HBW.out, kq E0, fun _ => rfl, fun h k => H1.out (by simpa [mkd] using h) (by simpa [mkd] using k), fun h k => H3.out (by simpa [mkd] using h) (by simpa [mkd] using k), fun h => H4.out (by simpa [mkd] using h), fun h => (by have q := H41.out (by simpa [mkd] using h); simpa [mkd] using q), fun h => (by have q := H5.out (by simpa [mkd] using h); simpa [mkd] using q)⟩
    · obtain rfl := E2.out (by simp [haf])
      have hN4 : N 4 = false := by
        cases q : N 4 with
        | false => rfl
        | true => have := (H41.out q).2; rw [hL] at this; cases this
      have HB9 := Lib.hid (bl_alloc w' (.cells #[.int .i64 a0, .int .i64 a1, .int .i64 o0, .int .i64 o1, .int .i64 r0, .int .i64 r1] 36))
      have NB := Lib.hid (Blk.new w' 36 #[.int .i64 a0, .int .i64 a1, .int .i64 o0, .int .i64 o1, .int .i64 r0, .int .i64 r1])
      go_wp2
      unfold ShI
      exact ⟨v66, v67, (.agg #[.int .i64 a0, .int .i64 a1, .int .i64 o0, .int .i64 o1, .int .i64 r0, .int .i64 r1]), (.slice (some ⟨w'.heap.size, 0, none⟩) 1 1), v70, v12, by simp only [Act.put, List.setIfInBounds_toArray, List.set_cons_zero, List.set_cons_succ], HBW.out.trans (HB9.out.mono HBW.out.size), kq E0, fun _ => rfl, fun h k => (by obtain ⟨u, q1, q2⟩ := H1.out (by simpa [mkd] using h) hN4; exact ⟨u, q1, own_bl q2 HB9.out (Nat.le_refl _)⟩), fun _ _ => ⟨_, rfl, NB.out⟩, fun h => (by have q : N 4 = true := (by simpa [mkd] using h); rw [hN4] at q; cases q), fun h => (by have q : N 4 = true := (by simpa [mkd] using h); rw [hN4] at q; cases q), fun h => (by have q := (H5.out (by simpa [mkd] using h)).1; rw [hN4] at q; cases q)⟩
    · obtain ⟨u, rfl, O1⟩ := H1.out (by simp [haf]) hL
      obtain ⟨g9, rfl, hB9⟩ := H3.out (by simp [haf]) hL
      have R9 := circ_reads hB9
      have hzz := HBW.out.size
      simp only [Act.put, List.setIfInBounds_toArray, List.set_cons_zero, List.set_cons_succ]
      refine wpList_append_any _ rfl (.tmp 67) (.tmp 69) _ rfl w4.heap.size 36 i0 _ 6 48 Tryz.underlying30 hi0 hz0 hz1 hzb rfl (by decide) _ K.length (civs K) (by simp [Act.eval]) O1 w'.heap.size (some ⟨g9, 0, none⟩) 1 1 (civs [((a0, a1, o0, o1), r0, r1)]) (by simp [Act.eval]) R9 (civs_one _) (by simp only [maxLen]; omega) (by omega) hzz ?_
      intro v9 w9 hown9 hg9 hat9
      rw [← civs_append, show K.length + 1 = (K ++ [((a0, a1, o0, o1), r0, r1)]).length by simp] at hown9
      have HO9 := Lib.hid hown9
      have HB9 := Lib.hid (HBW.out.grown hg9 hzz (own_base O1))
      clear hown9 hg9 hat9 O1 R9 hB9
      go_wp2
      unfold ShI
      exact ⟨v66, v67, v68, (.slice (some ⟨g9, 0, none⟩) 1 1), v9, v12, by simp only [Act.put, List.setIfInBounds_toArray, List.set_cons_zero, List.set_cons_succ], HB9.out, kq E0, kq E2, fun _ h => (by simp [mkd] at h), fun _ h => (by simp [mkd] at h), fun _ => ⟨v9, rfl, HO9.out⟩, fun _ => (by have q1 : N 1 = true := (by simp [haf]); have q3 : N 3 = true := (by simp [haf]); simpa [mkd] using ⟨q1, q3⟩), fun h => (by have q := (H5.out (by simpa [mkd] using h)).1; rw [hL] at q; cases q)⟩
    · obtain ⟨u, rfl, O1⟩ := H4.out (by simp [haf])
      have HO1 := Lib.hid O1
      clear O1
      go_wp2
      unfold ShI
      exact ⟨v66, v67, v68, v69, v70, v70, by simp only [Act.put, List.setIfInBounds_toArray, List.set_cons_zero, List.set_cons_succ], HBW.out, kq E0, kq E2, fun h k => H1.out (by simpa [mkd] using h) (by simpa [mkd] using k), fun h k => H3.out (by simpa [mkd] using h) (by simpa [mkd] using k), fun _ => ⟨v70, rfl, HO1.out⟩, fun h => (by have q := H41.out (by simpa [mkd] using h); simpa [mkd] using q), fun _ => ⟨(by have q4 : N 4 = true := (by simp [haf]); simpa [mkd] using q4), rfl⟩⟩
  case fin =>
    rintro N a1' w5 hall ⟨v66, v67, v68, v69, v70, v12, rfl, hbw, e0, e2, h1, h3, h4, h41, h5⟩
    obtain rfl := e0 (hall 0 (by decide))
    obtain rfl := e2 (hall 2 (by decide))
    obtain ⟨-, rfl⟩ := h5 (hall 5 (by decide))
    obtain ⟨u, rfl, hown⟩ := h4 (hall 4 (by decide))
    rw [HM.out] at hown
    have hml := HML.out
    rw [hml] at hown
    clear hml
    obtain ⟨Am, cm, rfl, hrm, hmc, hmm⟩ := own_form hown
    obtain ⟨g, hg0⟩ : ∃ g, Am = some ⟨g, 0, none⟩ := by
      rcases hown.2 with ⟨e, h0⟩ | ⟨g, cap, cur, e, _⟩
      · omega
      · cases e; exact ⟨g, rfl⟩
    subst hg0
    have hgl5 := own_ltK hown g (by simp [Value.ownBlock])
    have B5 := Lib.hid (B4.out.trans (hbw.mono B4.out.size))
    have OM := Lib.hid hown
    have hz4 := B4.out.size
    have hz5 := hbw.size
    clear h1 h3 h4 h41 h5 hbw hall C4 B4 hown hrm KC HKN
    have KO2 := Lib.hid (KO.out w5 B5.out)
    go_wp2_with fail
    (with_reducible refine (KO2.out).mono ?_)
    rintro e w6 ⟨v6, E6, rfl, hb6, he6⟩
    have hz6 := hb6.size
    have B6 := Lib.hid (B5.out.trans (hb6.mono B5.out.size))
    have OM6 := Lib.hid (own_bl OM.out hb6 (Nat.le_refl _))
    clear hb6 KO KO2 B5 OM
    by_cases hE6 : E6 = 0
    · subst hE6
      have hck := he6 rfl
      have hck2 : prN (agP K) (suP K) lev L ≤ 300 := by omega
      clear he6 hck
      have KP2 := Lib.hid (KP.out w6 B6.out (some ⟨g, 0, none⟩) cm (Reads.of_own OM6.out))
      go_wp2_with fail
      (with_reducible refine (KP2.out).mono ?_)
      rintro e w7 ⟨v7, E7, rfl, hb7, he7⟩
      have hz77 := hb7.size
      have B7 := Lib.hid (B6.out.trans (hb7.mono B6.out.size))
      have OM7 := Lib.hid (own_bl OM6.out hb7 (Nat.le_refl _))
      clear hb7 KP KP2 B6 OM6
      by_cases hE7 : E7 = 0
      · subst hE7
        have hcp := he7 rfl
        have hcp2 : prN (agP M) (suP M) lev L ≤ 300 := by omega
        clear he7 hcp
        have hva := prA_v (ag := agP K) (su := suP K) b0.2 HLV.out
        have hvb := prA_v (ag := agP M) (su := suP M) b0.2 HLV.out
        have hins1 := (ins_can hvb.1 hva.1).2 (fun q hq => prA_less b0.2 (Int.le_refl _) HAG.out HSU.out HLV.out hq)
        have hins2 : insL (canonC (covL (prA (agP K) (suP K) lev L))) L = true := by
          have h := (ins_can hva.1 HLV.out).2 hva.2.1
          rw [HTT.out] at h
          exact h
        have hra := can_vr hva.1 (by have := hva.2.2.1; omega)
        have hrb := can_vr hvb.1 (by have := hvb.2.2.1; omega)
        have hla := can_pr (K := K) HLV.out b0.2
        have hlb := can_pr (K := M) HLV.out b0.2
        have KK1 := fun W h => K1.out W h (by omega)
        have KK2 := fun W h M' (hp : M'.Perm M) Am cm hr => K2.out W h M' hp (by omega) Am cm hr
        have KK2' : ∀ W (h : Below w.heap.size w W) M' (hp : M'.Perm M) Am cm (hr : Reads W W.heap.size 6 Am m (civs M')), Calls Tryz.prog 14 #[.slice Am m cm, .slice Al nl cl, .int .i64 lev] W (RetCells W (canonC (covL (prA (agP M) (suP M) lev L))) 0) := fun W h M' hp Am cm hr => by
          have := KK2 W h M' hp Am cm hr
          rw [agP_perm hp, suP_perm hp] at this
          exact this
        obtain ⟨a, ha⟩ : ∃ a, canonC (covL (prA (agP K) (suP K) lev L)) = a := ⟨_, rfl⟩
        obtain ⟨b, hb⟩ : ∃ b, canonC (covL (prA (agP M) (suP M) lev L)) = b := ⟨_, rfl⟩
        rw [ha] at hins1 hins2 hra hla KK1
        rw [hb] at hins1 hrb hlb KK2'
        have HI1 := Lib.hid hins1
        have HI2 := Lib.hid hins2
        have HRA := Lib.hid hra
        have HRB := Lib.hid hrb
        have KK1 := Lib.hid KK1
        have KK2 := Lib.hid KK2'
        have hla3 : a.length ≤ 300 := by omega
        have hlb3 : b.length ≤ 300 := by omega
        have hll3 : L.length ≤ 4000 := ((vrB_iff L).1 HV.out).1
        have HLL : Hid (L.length = nl) := Lib.hid ((RL.out w7 B7.out).len)
        clear hva hvb hins1 hins2 hra hrb hla hlb KK2' ha hb K1 K2 hck2 hcp2 HAG HSU HTT HLV
        have K32 := Lib.hid (K3.out w7 B7.out)
        go_wp2_with fail
        (with_reducible refine (K32.out).mono ?_)
        rintro e w8 ⟨v8, rfl, ho8, hb8⟩
        have B8 := Lib.hid (B7.out.trans (hb8.mono B7.out.size))
        have OM8 := Lib.hid (own_bl OM7.out hb8 (Nat.le_refl _))
        have hz7 := B7.out.size
        have hz8 := hb8.size
        have ON8 := Lib.hid ho8
        have K12 := Lib.hid (KK1.out w8 B8.out)
        obtain ⟨An, cn, rfl, -, -, -⟩ := own_form ho8
        clear ho8 hb8 K3 K32 KK1 OM7
        go_wp2_with fail
        (with_reducible refine (K12.out).mono ?_)
        rintro e w9 ⟨v9, rfl, ho9, hb9⟩
        have B9 := Lib.hid (B8.out.trans (hb9.mono B8.out.size))
        have OM9 := Lib.hid (own_bl OM8.out hb9 (Nat.le_refl _))
        have ON9 := Lib.hid (own_bl ON8.out hb9 (Nat.le_refl _))
        have OA9 := Lib.hid ho9
        have hz9 := hb9.size
        obtain ⟨Aa, ca, rfl, -, -, -⟩ := own_form ho9
        have K22 := Lib.hid (KK2.out w9 B9.out M (List.Perm.refl _) (some ⟨g, 0, none⟩) cm (Reads.of_own OM9.out))
        clear ho9 hb9 K12 OM8 ON8 B8
        go_wp2_with fail
        (with_reducible refine (K22.out).mono ?_)
        rintro e w10 ⟨v10, rfl, ho10, hb10⟩
        have B10 := Lib.hid (B9.out.trans (hb10.mono B9.out.size))
        have OM10 := Lib.hid (own_bl OM9.out hb10 (Nat.le_refl _))
        have ON10 := Lib.hid (own_bl ON9.out hb10 (Nat.le_refl _))
        have OA10 := Lib.hid (own_bl OA9.out hb10 (Nat.le_refl _))
        have OB10 := Lib.hid ho10
        have hz10 := hb10.size
        obtain ⟨Ab, cb, rfl, -, -, -⟩ := own_form ho10
        clear ho10 hb10 K22 OM9 ON9 OA9 B9
        have hgb := own_base OM10.out g (by simp [Value.ownBlock])
        go_wp2
        go_loopg [111] no (fun gz s111 wr => ∃ (i : Nat) (M' : List Ci), i ≤ no ∧ no - i ≤ gz ∧ s111 = .int .i64 i ∧ M'.Perm M ∧ wr.ownsRow w4.heap.size 36 6 (.slice (some ⟨g, 0, none⟩) m cm) m (civs M') ∧ XK g (.slice (some ⟨g, 0, none⟩) m cm) w10 wr)
        case atStart => exact ⟨0, M, Nat.zero_le _, by omega, rfl, List.Perm.refl _, OM10.out, XK.refl _ _ _⟩
        case round =>
          obtain ⟨i, M', hi, hgz, rfl, hpm, hown, hxk⟩ := hrel
          have hlen' : M'.length = m := by rw [hpm.length_eq, HML.out]
          have hzr := hxk.size
          have hbr := B10.out.trans (hxk.below (n₀ := w.heap.size) (by omega) (fun k hk => by simp [Value.ownBlock] at hk; omega) (by omega))
          have BR := Lib.hid hbr
          have OWN := Lib.hid hown
          have XXK := Lib.hid hxk
          have HPM := Lib.hid hpm
          by_cases hlt : i < no
          · have hu : (bys Od)[i]? = some (.int .u8 (Od.getD i 0)) := by
              have : i < Od.length := by rw [HON.out]; exact hlt
              simp [bys, this]
            obtain ⟨bo, oo, rfl, hbo, hz⟩ := Reads.elem1 (RO.out wr hbr) hu
            have hzd := HOD.out (Od.getD i 0) (by
              have : i < Od.length := by rw [HON.out]; exact hlt
              simp [this])
            generalize Od.getD i 0 = z at hz hzd
            obtain ⟨p, hp⟩ : ∃ p, i % m = p := ⟨_, rfl⟩
            have hpm' : p < m := by rw [← hp]; exact Nat.mod_lt _ (by omega)
            have tp : (i : Int).tmod (m : Int) = (p : Int) := by rw [Int.tmod_eq_emod_of_nonneg (by omega), ← hp]; rfl
            obtain ⟨q, tq, hqm'⟩ : ∃ q : Nat, z.tmod (m : Int) = (q : Int) ∧ q < m := by
              obtain ⟨zn, rfl⟩ := Int.eq_ofNat_of_zero_le hzd.1
              exact ⟨zn % m, by rw [Int.tmod_eq_emod_of_nonneg hzd.1]; rfl, Nat.mod_lt _ (by omega)⟩
            have m0 : ((m : Int) == 0) = false := by simp; omega
            have m1 : (m : Int) ≠ 0 := by omega
            have up : wrap64 (p : Int) = (p : Int) := IntWalk.wrap64_in _ (by omega)
            have uq : wrap64 (q : Int) = (q : Int) := IntWalk.wrap64_in _ (by omega)
            have uz : wrap64 z = z := IntWalk.wrap64_in _ (by omega)
            clear hp hown hxk hpm hbr
            go_upto_region 19 with (fail)
            refine wp_region_inv3 (by kernel_rfl) (SwI19 wr (.int .i64 (i : Int)) (.slice (some ⟨g, 0, none⟩) m cm) (.int .i64 (m : Int)) (.int .i64 (p : Int)) (.int .u8 z) (.int .i64 z) (.slice (some ⟨g, 0, none⟩) m cm) (.int .i64 (m : Int)) (.int .i64 (q : Int)) (.int .i64 (p : Int)) (.int .i64 (q : Int)) (fun _ => ((0 : Int), (0 : Int)))) (waits_bind (by kernel_rfl)) ?start ?step ?fin
            case start => exact SwI19.start wr _ _ _ _ _ _ _ _ _ _ _ _ _
            case step =>
              rintro L io o a1' w' ho hL haf ⟨v116, v117, v118, v119, v120, v121, v122, v123, v124, v25, v26, gfn, rfl, hT, e0, e1, e2, e3, e4, e5, e6, e7, e8, e9, e10⟩
              have HT := Lib.hid hT
              clear hT
              have E0 := Lib.hid e0
              have E1 := Lib.hid e1
              have E2 := Lib.hid e2
              have E3 := Lib.hid e3
              have E4 := Lib.hid e4
              have E5 := Lib.hid e5
              have E6 := Lib.hid e6
              have E7 := Lib.hid e7
              have E8 := Lib.hid e8
              have E9 := Lib.hid e9
              have E10 := Lib.hid e10
              clear e0 e1 e2 e3 e4 e5 e6 e7 e8 e9 e10
              rcases io with _ | _ | _ | _ | _ | _ | _ | _ | _ | _ | _ | io
              all_goals (simp at ho; try subst ho)
              all_goals (try simp [Region.binds] at haf)
              · go_wp2
                unfold SwI19
                exact ⟨(.int .i64 (i : Int)), v117, v118, v119, v120, v121, v122, v123, v124, v25, v26, gfn, by simp only [Act.put, List.setIfInBounds_toArray, List.set_cons_zero, List.set_cons_succ], HT.out.mark 0 (by decide), fun _ => rfl, kq E1, kq E2, kq E3, kq E4, kq E5, kq E6, kq E7, kq E8, kq E9, kq E10⟩
              · go_wp2
                unfold SwI19
                exact ⟨v116, (.slice (some ⟨g, 0, none⟩) m cm), v118, v119, v120, v121, v122, v123, v124, v25, v26, gfn, by simp only [Act.put, List.setIfInBounds_toArray, List.set_cons_zero, List.set_cons_succ], HT.out.mark 1 (by decide), kq E0, fun _ => rfl, kq E2, kq E3, kq E4, kq E5, kq E6, kq E7, kq E8, kq E9, kq E10⟩
              · obtain rfl := E1.out (by simp [haf])
                go_wp2
                unfold SwI19
                exact ⟨v116, (.slice (some ⟨g, 0, none⟩) m cm), (.int .i64 (m : Int)), v119, v120, v121, v122, v123, v124, v25, v26, gfn, by simp only [Act.put, List.setIfInBounds_toArray, List.set_cons_zero, List.set_cons_succ], HT.out.mark 2 (by decide), kq E0, fun _ => rfl, fun _ => rfl, kq E3, kq E4, kq E5, kq E6, kq E7, kq E8, kq E9, kq E10⟩
              · obtain rfl := E0.out (by simp [haf])
                obtain rfl := E2.out (by simp [haf])
                go_wp2
                unfold SwI19
                exact ⟨(.int .i64 (i : Int)), v117, (.int .i64 (m : Int)), (.int .i64 (p : Int)), v120, v121, v122, v123, v124, v25, v26, gfn, by simp only [Act.put, List.setIfInBounds_toArray, List.set_cons_zero, List.set_cons_succ], HT.out.mark 3 (by decide), fun _ => rfl, kq E1, fun _ => rfl, fun _ => rfl, kq E4, kq E5, kq E6, kq E7, kq E8, kq E9, kq E10⟩
              · go_wp2
                unfold SwI19
                exact ⟨v116, v117, v118, v119, (.int .u8 z), v121, v122, v123, v124, v25, v26, gfn, by simp only [Act.put, List.setIfInBounds_toArray, List.set_cons_zero, List.set_cons_succ], HT.out.mark 4 (by decide), kq E0, kq E1, kq E2, kq E3, fun _ => rfl, kq E5, kq E6, kq E7, kq E8, kq E9, kq E10⟩
              · obtain rfl := E4.out (by simp [haf])
                go_wp2
                unfold SwI19
                exact ⟨v116, v117, v118, v119, (.int .u8 z), (.int .i64 z), v122, v123, v124, v25, v26, gfn, by simp only [Act.put, List.setIfInBounds_toArray, List.set_cons_zero, List.set_cons_succ], HT.out.mark 5 (by decide), kq E0, kq E1, kq E2, kq E3, fun _ => rfl, fun _ => rfl, kq E6, kq E7, kq E8, kq E9, kq E10⟩
              · go_wp2
                unfold SwI19
                exact ⟨v116, v117, v118, v119, v120, v121, (.slice (some ⟨g, 0, none⟩) m cm), v123, v124, v25, v26, gfn, by simp only [Act.put, List.setIfInBounds_toArray, List.set_cons_zero, List.set_cons_succ], HT.out.mark 6 (by decide), kq E0, kq E1, kq E2, kq E3, kq E4, kq E5, fun _ => rfl, kq E7, kq E8, kq E9, kq E10⟩
              · obtain rfl := E6.out (by simp [haf])
                go_wp2
                unfold SwI19
                exact ⟨v116, v117, v118, v119, v120, v121, (.slice (some ⟨g, 0, none⟩) m cm), (.int .i64 (m : Int)), v124, v25, v26, gfn, by simp only [Act.put, List.setIfInBounds_toArray, List.set_cons_zero, List.set_cons_succ], HT.out.mark 7 (by decide), kq E0, kq E1, kq E2, kq E3, kq E4, kq E5, fun _ => rfl, fun _ => rfl, kq E8, kq E9, kq E10⟩
              · obtain rfl := E5.out (by simp [haf])
                obtain rfl := E7.out (by simp [haf])
                go_wp2
                unfold SwI19
                exact ⟨v116, v117, v118, v119, v120, (.int .i64 z), v122, (.int .i64 (m : Int)), (.int .i64 (q : Int)), v25, v26, gfn, by simp only [Act.put, List.setIfInBounds_toArray, List.set_cons_zero, List.set_cons_succ], HT.out.mark 8 (by decide), kq E0, kq E1, kq E2, kq E3, kq E4, fun _ => rfl, kq E6, fun _ => rfl, fun _ => rfl, kq E9, kq E10⟩
              · obtain rfl := E3.out (by simp [haf])
                go_wp2
                unfold SwI19
                exact ⟨v116, v117, v118, (.int .i64 (p : Int)), v120, v121, v122, v123, v124, (.int .i64 (p : Int)), v26, gfn, by simp only [Act.put, List.setIfInBounds_toArray, List.set_cons_zero, List.set_cons_succ], HT.out.mark 9 (by decide), kq E0, kq E1, kq E2, fun _ => rfl, kq E4, kq E5, kq E6, kq E7, kq E8, fun _ => rfl, kq E10⟩
              · obtain rfl := E8.out (by simp [haf])
                go_wp2
                unfold SwI19
                exact ⟨v116, v117, v118, v119, v120, v121, v122, v123, (.int .i64 (q : Int)), v25, (.int .i64 (q : Int)), gfn, by simp only [Act.put, List.setIfInBounds_toArray, List.set_cons_zero, List.set_cons_succ], HT.out.mark 10 (by decide), kq E0, kq E1, kq E2, kq E3, kq E4, kq E5, kq E6, kq E7, fun _ => rfl, kq E9, fun _ => rfl⟩
            case fin =>
              rintro L a1' w11 hall ⟨v116, v117, v118, v119, v120, v121, v122, v123, v124, v25, v26, gfn, rfl, hT, e0, e1, e2, e3, e4, e5, e6, e7, e8, e9, e10⟩
              obtain rfl := e0 (hall 0 (by decide))
              obtain rfl := e1 (hall 1 (by decide))
              obtain rfl := e2 (hall 2 (by decide))
              obtain rfl := e3 (hall 3 (by decide))
              obtain rfl := e4 (hall 4 (by decide))
              obtain rfl := e5 (hall 5 (by decide))
              obtain rfl := e6 (hall 6 (by decide))
              obtain rfl := e7 (hall 7 (by decide))
              obtain rfl := e8 (hall 8 (by decide))
              obtain rfl := e9 (hall 9 (by decide))
              obtain rfl := e10 (hall 10 (by decide))
              have OWN11 := Lib.hid (own_bl OWN.out hT.bl (Nat.le_refl _))
              have XK11 := Lib.hid (XXK.out.trans (Nx.refl _ _) (XK.of_below hT.bl))
              have hz11 := hT.bl.size
              clear hT hall tp tq m0 m1 up uq uz hz hzd
              obtain ⟨cp, hcp⟩ : ∃ x, gci M' p = x := ⟨_, rfl⟩
              obtain ⟨cq, hcq⟩ : ∃ x, gci M' q = x := ⟨_, rfl⟩
              have HCP := Lib.hid hcp
              have HCQ := Lib.hid hcq
              have OP := Lib.hid (swp_perm (M := M') (p := p) (q := q) (by rw [hlen']; exact hpm') (by rw [hlen']; exact hqm'))
              clear hcp hcq
              go_upto_region 20 with (fail)
              refine wp_region_inv3 (by kernel_rfl) (SwI20 g cm m w4.heap.size p q M' w11 (.slice (some ⟨g, 0, none⟩) m cm) (.int .i64 (p : Int)) (.slice (some ⟨g, 0, none⟩) m cm) (.int .i64 (q : Int)) (.slice (some ⟨g, 0, none⟩) m cm) (.int .i64 (q : Int)) (.pointer (some ⟨g, q * 6, none⟩)) (.agg #[.int .i64 cq.1.1, .int .i64 cq.1.2.1, .int .i64 cq.1.2.2.1, .int .i64 cq.1.2.2.2, .int .i64 cq.2.1, .int .i64 cq.2.2]) (.slice (some ⟨g, 0, none⟩) m cm) (.int .i64 (p : Int)) (.pointer (some ⟨g, p * 6, none⟩)) (.agg #[.int .i64 cp.1.1, .int .i64 cp.1.2.1, .int .i64 cp.1.2.2.1, .int .i64 cp.1.2.2.2, .int .i64 cp.2.1, .int .i64 cp.2.2]) (.pointer (some ⟨g, p * 6, none⟩)) (.pointer (some ⟨g, q * 6, none⟩))) (waits_bind (by kernel_rfl)) ?start ?step ?fin
              case start => exact SwI20.start _ OWN11.out
              case step =>
                rintro L io o a1' w' ho hL haf ⟨v125, v126, v127, v128, v129, v130, v131, v132, v133, v134, v135, v136, v137, v138, rfl, hk, h1, h2, h3, h4, h5, e0, e1, e2, e3, e4, e5, e6, e7, e8, e9, e10, e11, e12, e14⟩
                have HK := Lib.hid hk
                have H1 := Lib.hid h1
                have H2 := Lib.hid h2
                have H3 := Lib.hid h3
                have H4 := Lib.hid h4
                have H5 := Lib.hid h5
                have E0 := Lib.hid e0
                have E1 := Lib.hid e1
                have E2 := Lib.hid e2
                have E3 := Lib.hid e3
                have E4 := Lib.hid e4
                have E5 := Lib.hid e5
                have E6 := Lib.hid e6
                have E7 := Lib.hid e7
                have E8 := Lib.hid e8
                have E9 := Lib.hid e9
                have E10 := Lib.hid e10
                have E11 := Lib.hid e11
                have E12 := Lib.hid e12
                have E14 := Lib.hid e14
                clear hk h1 h2 h3 h4 h5 e0 e1 e2 e3 e4 e5 e6 e7 e8 e9 e10 e11 e12 e14
                rcases io with _ | _ | _ | _ | _ | _ | _ | _ | _ | _ | _ | _ | _ | _ | _ | _ | io
                all_goals (simp at ho; try subst ho)
                all_goals (try simp [Region.binds] at haf)
                · go_wp2
                  unfold SwI20
                  exact ⟨(.slice (some ⟨g, 0, none⟩) m cm), v126, v127, v128, v129, v130, v131, v132, v133, v134, v135, v136, v137, v138, by simp only [Act.put, List.setIfInBounds_toArray, List.set_cons_zero, List.set_cons_succ], HK.out, fun h => H1.out (by simpa [mkd] using h), fun h k => H2.out (by simpa [mkd] using h) (by simpa [mkd] using k), fun h => H3.out (by simpa [mkd] using h), fun h => (by have r := H4.out (by simpa [mkd] using h); simpa [mkd] using r), fun h => (by have r := H5.out (by simpa [mkd] using h); simpa [mkd] using r), fun _ => rfl, kq E1, kq E2, kq E3, kq E4, kq E5, kq E6, kq E7, kq E8, kq E9, kq E10, kq E11, kq E12, kq E14⟩
                · go_wp2
                  unfold SwI20
                  exact ⟨v125, (.int .i64 (p : Int)), v127, v128, v129, v130, v131, v132, v133, v134, v135, v136, v137, v138, by simp only [Act.put, List.setIfInBounds_toArray, List.set_cons_zero, List.set_cons_succ], HK.out, fun h => H1.out (by simpa [mkd] using h), fun h k => H2.out (by simpa [mkd] using h) (by simpa [mkd] using k), fun h => H3.out (by simpa [mkd] using h), fun h => (by have r := H4.out (by simpa [mkd] using h); simpa [mkd] using r), fun h => (by have r := H5.out (by simpa [mkd] using h); simpa [mkd] using r), kq E0, fun _ => rfl, kq E2, kq E3, kq E4, kq E5, kq E6, kq E7, kq E8, kq E9, kq E10, kq E11, kq E12, kq E14⟩
                · go_wp2
                  unfold SwI20
                  exact ⟨v125, v126, (.slice (some ⟨g, 0, none⟩) m cm), v128, v129, v130, v131, v132, v133, v134, v135, v136, v137, v138, by simp only [Act.put, List.setIfInBounds_toArray, List.set_cons_zero, List.set_cons_succ], HK.out, fun h => H1.out (by simpa [mkd] using h), fun h k => H2.out (by simpa [mkd] using h) (by simpa [mkd] using k), fun h => H3.out (by simpa [mkd] using h), fun h => (by have r := H4.out (by simpa [mkd] using h); simpa [mkd] using r), fun h => (by have r := H5.out (by simpa [mkd] using h); simpa [mkd] using r), kq E0, kq E1, fun _ => rfl, kq E3, kq E4, kq E5, kq E6, kq E7, kq E8, kq E9, kq E10, kq E11, kq E12, kq E14⟩
                · go_wp2
                  unfold SwI20
                  exact ⟨v125, v126, v127, (.int .i64 (q : Int)), v129, v130, v131, v132, v133, v134, v135, v136, v137, v138, by simp only [Act.put, List.setIfInBounds_toArray, List.set_cons_zero, List.set_cons_succ], HK.out, fun h => H1.out (by simpa [mkd] using h), fun h k => H2.out (by simpa [mkd] using h) (by simpa [mkd] using k), fun h => H3.out (by simpa [mkd] using h), fun h => (by have r := H4.out (by simpa [mkd] using h); simpa [mkd] using r), fun h => (by have r := H5.out (by simpa [mkd] using h); simpa [mkd] using r), kq E0, kq E1, kq E2, fun _ => rfl, kq E4, kq E5, kq E6, kq E7, kq E8, kq E9, kq E10, kq E11, kq E12, kq E14⟩
                · go_wp2
                  unfold SwI20
                  exact ⟨v125, v126, v127, v128, (.slice (some ⟨g, 0, none⟩) m cm), v130, v131, v132, v133, v134, v135, v136, v137, v138, by simp only [Act.put, List.setIfInBounds_toArray, List.set_cons_zero, List.set_cons_succ], HK.out, fun h => H1.out (by simpa [mkd] using h), fun h k => H2.out (by simpa [mkd] using h) (by simpa [mkd] using k), fun h => H3.out (by simpa [mkd] using h), fun h => (by have r := H4.out (by simpa [mkd] using h); simpa [mkd] using r), fun h => (by have r := H5.out (by simpa [mkd] using h); simpa [mkd] using r), kq E0, kq E1, kq E2, kq E3, fun _ => rfl, kq E5, kq E6, kq E7, kq E8, kq E9, kq E10, kq E11, kq E12, kq E14⟩
                · go_wp2
                  unfold SwI20
                  exact ⟨v125, v126, v127, v128, v129, (.int .i64 (q : Int)), v131, v132, v133, v134, v135, v136, v137, v138, by simp only [Act.put, List.setIfInBounds_toArray, List.set_cons_zero, List.set_cons_succ], HK.out, fun h => H1.out (by simpa [mkd] using h), fun h k => H2.out (by simpa [mkd] using h) (by simpa [mkd] using k), fun h => H3.out (by simpa [mkd] using h), fun h => (by have r := H4.out (by simpa [mkd] using h); simpa [mkd] using r), fun h => (by have r := H5.out (by simpa [mkd] using h); simpa [mkd] using r), kq E0, kq E1, kq E2, kq E3, kq E4, fun _ => rfl, kq E6, kq E7, kq E8, kq E9, kq E10, kq E11, kq E12, kq E14⟩
                · obtain rfl := (E4.out (by simp [haf])).symm
                  obtain rfl := (E5.out (by simp [haf])).symm
                  go_wp2
                  unfold SwI20
                  exact ⟨v125, v126, v127, v128, (.slice (some ⟨g, 0, none⟩) m cm), (.int .i64 (q : Int)), (.pointer (some ⟨g, q * 6, none⟩)), v132, v133, v134, v135, v136, v137, v138, by simp only [Act.put, List.setIfInBounds_toArray, List.set_cons_zero, List.set_cons_succ], HK.out, fun h => H1.out (by simpa [mkd] using h), fun h k => H2.out (by simpa [mkd] using h) (by simpa [mkd] using k), fun h => H3.out (by simpa [mkd] using h), fun h => (by have r := H4.out (by simpa [mkd] using h); simpa [mkd] using r), fun h => (by have r := H5.out (by simpa [mkd] using h); simpa [mkd] using r), kq E0, kq E1, kq E2, kq E3, fun _ => rfl, fun _ => rfl, fun _ => rfl, kq E7, kq E8, kq E9, kq E10, kq E11, kq E12, kq E14⟩
                · have hA : L 13 = false := by
                    cases r : L 13 with
                    | false => rfl
                    | true =>
                      have := (H5.out r).1
                      rw [hL] at this
                      cases this
                  have hB : L 15 = false := by
                    cases r : L 15 with
                    | false => rfl
                    | true =>
                      have := H4.out r
                      rw [hA] at this
                      cases this
                  obtain ⟨y0, y1, y2, y3, y4, y5⟩ := own_at (H1.out hA) q hqm'
                  rw [HCQ.out] at y0 y1 y2 y3 y4 y5
                  obtain rfl := (E6.out (by simp [haf])).symm
                  go_wp2
                  unfold SwI20
                  exact ⟨v125, v126, v127, v128, v129, v130, (.pointer (some ⟨g, q * 6, none⟩)), (.agg #[.int .i64 cq.1.1, .int .i64 cq.1.2.1, .int .i64 cq.1.2.2.1, .int .i64 cq.1.2.2.2, .int .i64 cq.2.1, .int .i64 cq.2.2]), v133, v134, v135, v136, v137, v138, by simp only [Act.put, List.setIfInBounds_toArray, List.set_cons_zero, List.set_cons_succ], HK.out, fun h => H1.out (by simpa [mkd] using h), fun h k => H2.out (by simpa [mkd] using h) (by simpa [mkd] using k), fun h => H3.out (by simpa [mkd] using h), fun h => (by have r := H4.out (by simpa [mkd] using h); simpa [mkd] using r), fun h => (by have r := H5.out (by simpa [mkd] using h); simpa [mkd] using r.2), kq E0, kq E1, kq E2, kq E3, kq E4, kq E5, fun _ => rfl, fun _ => rfl, kq E8, kq E9, kq E10, kq E11, kq E12, kq E14⟩
                · go_wp2
                  unfold SwI20
                  exact ⟨v125, v126, v127, v128, v129, v130, v131, v132, (.slice (some ⟨g, 0, none⟩) m cm), v134, v135, v136, v137, v138, by simp only [Act.put, List.setIfInBounds_toArray, List.set_cons_zero, List.set_cons_succ], HK.out, fun h => H1.out (by simpa [mkd] using h), fun h k => H2.out (by simpa [mkd] using h) (by simpa [mkd] using k), fun h => H3.out (by simpa [mkd] using h), fun h => (by have r := H4.out (by simpa [mkd] using h); simpa [mkd] using r), fun h => (by have r := H5.out (by simpa [mkd] using h); simpa [mkd] using r), kq E0, kq E1, kq E2, kq E3, kq E4, kq E5, kq E6, kq E7, fun _ => rfl, kq E9, kq E10, kq E11, kq E12, kq E14⟩
                · go_wp2
                  unfold SwI20
                  exact ⟨v125, v126, v127, v128, v129, v130, v131, v132, v133, (.int .i64 (p : Int)), v135, v136, v137, v138, by simp only [Act.put, List.setIfInBounds_toArray, List.set_cons_zero, List.set_cons_succ], HK.out, fun h => H1.out (by simpa [mkd] using h), fun h k => H2.out (by simpa [mkd] using h) (by simpa [mkd] using k), fun h => H3.out (by simpa [mkd] using h), fun h => (by have r := H4.out (by simpa [mkd] using h); simpa [mkd] using r), fun h => (by have r := H5.out (by simpa [mkd] using h); simpa [mkd] using r), kq E0, kq E1, kq E2, kq E3, kq E4, kq E5, kq E6, kq E7, kq E8, fun _ => rfl, kq E10, kq E11, kq E12, kq E14⟩
                · obtain rfl := (E8.out (by simp [haf])).symm
                  obtain rfl := (E9.out (by simp [haf])).symm
                  go_wp2
                  unfold SwI20
                  exact ⟨v125, v126, v127, v128, v129, v130, v131, v132, (.slice (some ⟨g, 0, none⟩) m cm), (.int .i64 (p : Int)), (.pointer (some ⟨g, p * 6, none⟩)), v136, v137, v138, by simp only [Act.put, List.setIfInBounds_toArray, List.set_cons_zero, List.set_cons_succ], HK.out, fun h => H1.out (by simpa [mkd] using h), fun h k => H2.out (by simpa [mkd] using h) (by simpa [mkd] using k), fun h => H3.out (by simpa [mkd] using h), fun h => (by have r := H4.out (by simpa [mkd] using h); simpa [mkd] using r), fun h => (by have r := H5.out (by simpa [mkd] using h); simpa [mkd] using r), kq E0, kq E1, kq E2, kq E3, kq E4, kq E5, kq E6, kq E7, fun _ => rfl, fun _ => rfl, fun _ => rfl, kq E11, kq E12, kq E14⟩
                · have hA : L 13 = false := by
                    cases r : L 13 with
                    | false => rfl
                    | true =>
                      have := (H5.out r).2
                      rw [hL] at this
                      cases this
                  have hB : L 15 = false := by
                    cases r : L 15 with
                    | false => rfl
                    | true =>
                      have := H4.out r
                      rw [hA] at this
                      cases this
                  obtain ⟨y0, y1, y2, y3, y4, y5⟩ := own_at (H1.out hA) p hpm'
                  rw [HCP.out] at y0 y1 y2 y3 y4 y5
                  obtain rfl := (E10.out (by simp [haf])).symm
                  go_wp2
                  unfold SwI20
                  exact ⟨v125, v126, v127, v128, v129, v130, v131, v132, v133, v134, (.pointer (some ⟨g, p * 6, none⟩)), (.agg #[.int .i64 cp.1.1, .int .i64 cp.1.2.1, .int .i64 cp.1.2.2.1, .int .i64 cp.1.2.2.2, .int .i64 cp.2.1, .int .i64 cp.2.2]), v137, v138, by simp only [Act.put, List.setIfInBounds_toArray, List.set_cons_zero, List.set_cons_succ], HK.out, fun h => H1.out (by simpa [mkd] using h), fun h k => H2.out (by simpa [mkd] using h) (by simpa [mkd] using k), fun h => H3.out (by simpa [mkd] using h), fun h => (by have r := H4.out (by simpa [mkd] using h); simpa [mkd] using r), fun h => (by have r := H5.out (by simpa [mkd] using h); simpa [mkd] using r.1), kq E0, kq E1, kq E2, kq E3, kq E4, kq E5, kq E6, kq E7, kq E8, kq E9, fun _ => rfl, fun _ => rfl, kq E12, kq E14⟩
                · obtain rfl := (E0.out (by simp [haf])).symm
                  obtain rfl := (E1.out (by simp [haf])).symm
                  go_wp2
                  unfold SwI20
                  exact ⟨(.slice (some ⟨g, 0, none⟩) m cm), (.int .i64 (p : Int)), v127, v128, v129, v130, v131, v132, v133, v134, v135, v136, (.pointer (some ⟨g, p * 6, none⟩)), v138, by simp only [Act.put, List.setIfInBounds_toArray, List.set_cons_zero, List.set_cons_succ], HK.out, fun h => H1.out (by simpa [mkd] using h), fun h k => H2.out (by simpa [mkd] using h) (by simpa [mkd] using k), fun h => H3.out (by simpa [mkd] using h), fun h => (by have r := H4.out (by simpa [mkd] using h); simpa [mkd] using r), fun h => (by have r := H5.out (by simpa [mkd] using h); simpa [mkd] using r), fun _ => rfl, fun _ => rfl, kq E2, kq E3, kq E4, kq E5, kq E6, kq E7, kq E8, kq E9, kq E10, kq E11, fun _ => rfl, kq E14⟩
                · obtain rfl := (E12.out (by simp [haf])).symm
                  obtain rfl := (E7.out (by simp [haf])).symm
                  have hA : L 13 = false := hL
                  have hB : L 15 = false := by
                    cases r : L 15 with
                    | false => rfl
                    | true =>
                      have := H4.out r
                      rw [hA] at this
                      cases this
                  have hown := H1.out hA
                  have fz : ∀ j, w'.frozen? ⟨g, j, none⟩ = false := fun j => hown.frozenAt j
                  obtain ⟨y0, y1, y2, y3, y4, y5⟩ := own_at hown p hpm'
                  have HO := Lib.hid (own_put6 hown p (gci M' q) (by rw [hlen']; exact hpm'))
                  rw [HCQ.out] at HO
                  have HX := Lib.hid (xk_put6 HK.out (p * 6) cq)
                  clear hown
                  go_wp2
                  unfold SwI20
                  exact ⟨v125, v126, v127, v128, v129, v130, v131, (.agg #[.int .i64 cq.1.1, .int .i64 cq.1.2.1, .int .i64 cq.1.2.2.1, .int .i64 cq.1.2.2.2, .int .i64 cq.2.1, .int .i64 cq.2.2]), v133, v134, v135, v136, (.pointer (some ⟨g, p * 6, none⟩)), v138, by simp only [Act.put, List.setIfInBounds_toArray, List.set_cons_zero, List.set_cons_succ], HX.out, fun h => (by simp [mkd] at h), fun _ _ => (by rw [HCQ.out]; exact HO.out), fun h => (by have r : L 15 = true := (by simpa [mkd] using h); rw [hB] at r; cases r), fun h => mkd_same _ _, fun _ => (by have r1 : L 7 = true := (by simp [haf]); have r2 : L 11 = true := (by simp [haf]); simpa [mkd] using ⟨r1, r2⟩), kq E0, kq E1, kq E2, kq E3, kq E4, kq E5, kq E6, fun _ => rfl, kq E8, kq E9, kq E10, kq E11, fun _ => rfl, kq E14⟩
                · obtain rfl := (E2.out (by simp [haf])).symm
                  obtain rfl := (E3.out (by simp [haf])).symm
                  go_wp2
                  unfold SwI20
                  exact ⟨v125, v126, (.slice (some ⟨g, 0, none⟩) m cm), (.int .i64 (q : Int)), v129, v130, v131, v132, v133, v134, v135, v136, v137, (.pointer (some ⟨g, q * 6, none⟩)), by simp only [Act.put, List.setIfInBounds_toArray, List.set_cons_zero, List.set_cons_succ], HK.out, fun h => H1.out (by simpa [mkd] using h), fun h k => H2.out (by simpa [mkd] using h) (by simpa [mkd] using k), fun h => H3.out (by simpa [mkd] using h), fun h => (by have r := H4.out (by simpa [mkd] using h); simpa [mkd] using r), fun h => (by have r := H5.out (by simpa [mkd] using h); simpa [mkd] using r), kq E0, kq E1, fun _ => rfl, fun _ => rfl, kq E4, kq E5, kq E6, kq E7, kq E8, kq E9, kq E10, kq E11, kq E12, fun _ => rfl⟩
                · obtain rfl := (E14.out (by simp [haf])).symm
                  obtain rfl := (E11.out (by simp [haf])).symm
                  have hA : L 13 = true := by simp [haf]
                  have hown := H2.out hA hL
                  have fz : ∀ j, w'.frozen? ⟨g, j, none⟩ = false := fun j => hown.frozenAt j
                  obtain ⟨y0, y1, y2, y3, y4, y5⟩ := own_at hown q hqm'
                  have HO := Lib.hid (own_put6 hown q (gci M' p) (by rw [List.length_set, hlen']; exact hqm'))
                  rw [HCP.out] at HO
                  have HX := Lib.hid (xk_put6 HK.out (q * 6) cp)
                  clear hown
                  go_wp2
                  unfold SwI20
                  exact ⟨v125, v126, v127, v128, v129, v130, v131, v132, v133, v134, v135, (.agg #[.int .i64 cp.1.1, .int .i64 cp.1.2.1, .int .i64 cp.1.2.2.1, .int .i64 cp.1.2.2.2, .int .i64 cp.2.1, .int .i64 cp.2.2]), v137, (.pointer (some ⟨g, q * 6, none⟩)), by simp only [Act.put, List.setIfInBounds_toArray, List.set_cons_zero, List.set_cons_succ], HX.out, fun h => (by have r : L 13 = false := (by simpa [mkd] using h); rw [hA] at r; cases r), fun _ h => (by simp [mkd] at h), fun _ => (by unfold swpC; rw [HCP.out]; exact HO.out), fun _ => (by simpa [mkd] using hA), fun h => (by have r := H5.out (by simpa [mkd] using h); simpa [mkd] using r), kq E0, kq E1, kq E2, kq E3, kq E4, kq E5, kq E6, kq E7, kq E8, kq E9, kq E10, fun _ => rfl, kq E12, fun _ => rfl⟩
              case fin =>
                rintro L a1' w12 hall ⟨v125, v126, v127, v128, v129, v130, v131, v132, v133, v134, v135, v136, v137, v138, rfl, hk, h1, h2, h3, h4, h5, e0, e1, e2, e3, e4, e5, e6, e7, e8, e9, e10, e11, e12, e14⟩
                obtain rfl := (e0 (hall 0 (by decide))).symm
                obtain rfl := (e1 (hall 1 (by decide))).symm
                obtain rfl := (e2 (hall 2 (by decide))).symm
                obtain rfl := (e3 (hall 3 (by decide))).symm
                obtain rfl := (e4 (hall 4 (by decide))).symm
                obtain rfl := (e5 (hall 5 (by decide))).symm
                obtain rfl := (e6 (hall 6 (by decide))).symm
                obtain rfl := (e7 (hall 7 (by decide))).symm
                obtain rfl := (e8 (hall 8 (by decide))).symm
                obtain rfl := (e9 (hall 9 (by decide))).symm
                obtain rfl := (e10 (hall 10 (by decide))).symm
                obtain rfl := (e11 (hall 11 (by decide))).symm
                obtain rfl := (e12 (hall 12 (by decide))).symm
                obtain rfl := (e14 (hall 14 (by decide))).symm
                have OWN12 := Lib.hid (h3 (hall 15 (by decide)))
                have XK12 := Lib.hid hk
                clear hk h1 h2 h3 h4 h5 hall
                have XF := Lib.hid (XK11.out.trans (Nx.refl _ _) XK12.out)
                have OPF := Lib.hid (OP.out.trans HPM.out)
                go_wp2
                go_roundg (no - (i + 1))
                case measure => exact meas9 hlt hgz
                case rel => exact ⟨i + 1, swpC M' p q, hlt, Nat.le_refl _, by go_num, OPF.out, OWN12.out, XF.out⟩
          · have OMr := Reads.of_own hown
            have hdis : ∀ {base : Nat} {v : Value} {n' : Nat} {xs : List Value}, w10.ownsRow base 58 3 v n' xs → w7.heap.size ≤ base → wr.ownsRow base 58 3 v n' xs := fun h hb => own_xk h hxk (fun k hk => by
              have := own_base h k hk
              exact ⟨by omega, by simp [Value.ownBlock]; omega⟩)
            have ONr := Lib.hid (hdis ON10.out (Nat.le_refl _))
            have OAr := Lib.hid (hdis OA10.out (by omega))
            have OBr := Lib.hid (hdis OB10.out (by omega))
            have K42 := Lib.hid (KK2.out wr BR.out M' HPM.out (some ⟨g, 0, none⟩) cm OMr)
            clear hdis OMr hown hxk hpm hbr OWN XXK ON10 OA10 OB10 OM10 KK2
            go_wp2_with fail
            (with_reducible refine (K42.out).mono ?_)
            rintro e w13 ⟨v13, rfl, ho13, hb13⟩
            have B13 := Lib.hid (BR.out.trans (hb13.mono BR.out.size))
            have ON13 := Lib.hid (own_bl ONr.out hb13 (Nat.le_refl _))
            have OA13 := Lib.hid (own_bl OAr.out hb13 (Nat.le_refl _))
            have OB13 := Lib.hid (own_bl OBr.out hb13 (Nat.le_refl _))
            obtain ⟨Ac, cc, rfl, hrcc, -, -⟩ := own_form ho13
            have RC13 := Lib.hid hrcc
            clear ho13 hb13 hrcc K42 ONr OAr OBr
            have KE := Equal_any An Al L.length nl cn cl L L w13 _ _ (Reads.of_own ON13.out) (RL.out w13 B13.out) (by simp only [maxLen]; omega) (by simp only [maxLen]; omega)
            rw [decide_eq_true (rfl : L = L)] at KE
            have KE := Lib.hid KE
            go_wp2_with fail
            (with_reducible refine (KE.out).mono ?_)
            rintro e w14 ⟨rfl, q14, rfl⟩
            have B14 := Lib.hid (bl_drewN B13.out q14)
            have RB14 := (Reads.of_own OB13.out).drewN q14
            have KE2 := Equal_any Ab Ac b.length b.length cb cc b b (w13.drewN q14) _ _ RB14 (RC13.out.drewN q14) (by simp only [maxLen]; omega) (by simp only [maxLen]; omega)
            rw [decide_eq_true (rfl : b = b)] at KE2
            have KE2 := Lib.hid KE2
            clear KE RB14
            go_wp2_with fail
            (with_reducible refine (KE2.out).mono ?_)
            rintro e w15 ⟨rfl, q15, rfl⟩
            have B15 := Lib.hid (bl_drewN B13.out (q14 + q15))
            have RA15 := Lib.hid ((Reads.of_own OA13.out).drewN (q14 + q15))
            have RB15 := Lib.hid ((Reads.of_own OB13.out).drewN (q14 + q15))
            have KI := Inside_any Ab Aa b.length a.length cb ca b a (w13.drewN (q14 + q15)) RB15.out RA15.out (by simp only [maxLen]; omega) (by simp only [maxLen]; omega) HRB.out HRA.out
            rw [HI1.out] at KI
            have KI := Lib.hid KI
            clear KE2 B14 B13
            go_wp2_with fail
            (with_reducible refine (KI.out).mono ?_)
            rintro e w16 ⟨rfl, hb16⟩
            have B16 := Lib.hid (B15.out.trans (hb16.mono B15.out.size))
            have RA16 := Lib.hid ((RA15.out.below hb16).more hb16.size)
            have KI2 := Inside_any Aa Al a.length nl ca cl a L w16 RA16.out (RL.out w16 B16.out) (by simp only [maxLen]; omega) (by simp only [maxLen]; omega) HRA.out HV.out
            rw [HI2.out] at KI2
            have KI2 := Lib.hid KI2
            clear KI hb16 RA15 RB15 B15
            go_wp2_with fail
            (with_reducible refine (KI2.out).mono ?_)
            rintro e w17 ⟨rfl, hb17⟩
            have B17 := Lib.hid (B16.out.trans (hb17.mono B16.out.size))
            clear hb17
            go_wp2
            go_ret
            exact ⟨rfl, B17.out⟩
      · have hbe : (E7 != 0) = true := by simpa using hE7
        clear hE7 he7
        go_wp2
        go_ret
        exact ⟨rfl, B7.out⟩
    · have hbe : (E6 != 0) = true := by simpa using hE6
      clear hE6 he6
      go_wp2
      go_ret
      exact ⟨rfl, B6.out⟩
end Go.Proofs.YtpemohoibeipfaaGreat
namespace Go.Proofs.YtpemohoibeipfaaGreat
open Go.ChangeShapes Go.WideShapes Go.ChangeAt Go.RowKit Go.Joins Go.Deep
section
variable {H : Type} {enc : TypeId × Value → H} {P : Program} {w : World} {base : Nat} {spare : Nat → Bool} {held : Bool}
end
theorem array6 {α : Type} {cs : Array α} (h : cs.size = 6) : ∃ a b c d e f, cs = #[a, b, c, d, e, f] := by
  obtain ⟨l⟩ := cs
  obtain ⟨a, b, c, d, e, f, rfl⟩ := list6 h
  exact ⟨a, b, c, d, e, f, rfl⟩
section
variable {H : Type} {enc : TypeId × Value → H} {w : World} {base : Nat} {spare : Nat → Bool} {held : Bool}
set_option maxRecDepth 100000 in
theorem open_circle {r : Reach} {b0 : Nat} {v : Value} {d : DataW H} {ps : List MemPlace} (hv : Value.okWide Tryz.prog w r b0 36 v) (h : DataW.Trod enc Tryz.prog w base spare held 36 v d ps) :
    ∃ k : Ci, v = civ k := by
  obtain ⟨cs, rfl, hsz⟩ := okWide_struct Tryz.underlying36 hv
  obtain ⟨c0, c1, c2, c3, c4, c5, rfl⟩ := array6 (hsz.trans Tryz.cellsCi9)
  obtain ⟨fuel, hf⟩ := h
  obtain ⟨k, hk⟩ := circ_ints (show DataW.trod enc Tryz.prog w base spare held fuel 36 [c0, c1, c2, c3, c4, c5] = _ by simpa [Value.cells] using hf)
  refine ⟨k, ?_⟩
  unfold civl at hk
  simp only [List.cons.injEq, and_true] at hk
  obtain ⟨rfl, rfl, rfl, rfl, rfl, rfl⟩ := hk
  rfl
end
theorem Tryz.readCircle : Tryz.prog.readableRec 36 = true := by kernel_rfl
theorem Tryz.rowCircle : 36 < Tryz.prog.types.size := of_decide_eq_true (by kernel_rfl)
section
variable {H : Type} {enc : TypeId × Value → H} {W W' : World} {sp : Nat → Bool} {v : Value} {d : DataW H} {ps : List MemPlace}
theorem circle_stay (h : DataW.Trod enc Tryz.prog W 0 (fun _ => true) true 36 v d ps) (hb : Below W.heap.size W W') (hlt : ∀ x ∈ ps, x.block < W.heap.size) (hsp : ∀ p ∈ ps, sp p.block = true) : DataW.Trod enc Tryz.prog W' 0 sp true 36 v d ps :=
  WideElems.Trod_stays Tryz.laidOutB Tryz.readCircle Tryz.rowCircle h (fun x hx => hb.same (hlt x hx)) hsp
end
end Go.Proofs.YtpemohoibeipfaaGreat
namespace Go.Proofs.YtpemohoibeipfaaGreat
open Go.ChangeShapes Go.WideShapes Go.ChangeAt Go.RowKit Go.Joins Go.Deep
section
variable {H : Type} {enc : TypeId × Value → H} {P : Program} {w : World} {base : Nat} {spare : Nat → Bool} {held : Bool}
theorem trod5 {t0 t1 t2 t3 t4 : TypeId} {args : Array Value} {ds : List (DataW H)} {ps : List MemPlace} (h : DataW.TrodAll enc P w base spare held [t0, t1, t2, t3, t4] args.toList ds ps) :
    ∃ v0 v1 v2 v3 v4 d0 d1 d2 d3 d4 p0 p1 p2 p3 p4, args = #[v0, v1, v2, v3, v4] ∧ ds = [d0, d1, d2, d3, d4] ∧ ps = p0 ++ (p1 ++ (p2 ++ (p3 ++ p4))) ∧ DataW.Trod enc P w base spare held t0 v0 d0 p0 ∧ DataW.Trod enc P w base spare held t1 v1 d1 p1 ∧ DataW.Trod enc P w base spare held t2 v2 d2 p2 ∧ DataW.Trod enc P w base spare held t3 v3 d3 p3 ∧ DataW.Trod enc P w base spare held t4 v4 d4 p4 := by
  obtain ⟨v0, vs, d0, ds', p0, q, hargs, rfl, rfl, h0, hr⟩ := trodAll_cons h
  obtain ⟨v1, vs', d1, ds'', p1, q1, rfl, rfl, rfl, h1, hr1⟩ := trodAll_cons hr
  obtain ⟨v2, vs', d2, ds'', p2, q2, rfl, rfl, rfl, h2, hr2⟩ := trodAll_cons hr1
  obtain ⟨v3, vs', d3, ds'', p3, q3, rfl, rfl, rfl, h3, hr3⟩ := trodAll_cons hr2
  obtain ⟨v4, vs', d4, ds'', p4, q4, rfl, rfl, rfl, h4, hr4⟩ := trodAll_cons hr3
  obtain ⟨rfl, rfl, rfl⟩ := trodAll_nil hr4
  exact ⟨v0, v1, v2, v3, v4, d0, d1, d2, d3, d4, p0, p1, p2, p3, p4, by cases args; simp_all, rfl, by simp, h0, h1, h2, h3, h4⟩
theorem trod5_mk {t0 t1 t2 t3 t4 : TypeId} {v0 v1 v2 v3 v4 : Value} {d0 d1 d2 d3 d4 : DataW H} {p0 p1 p2 p4 : List MemPlace} (h0 : DataW.Trod enc P w base spare held t0 v0 d0 p0) (h1 : DataW.Trod enc P w base spare held t1 v1 d1 p1) (h2 : DataW.Trod enc P w base spare held t2 v2 d2 p2) (h3 : DataW.Trod enc P w base spare held t3 v3 d3 []) (h4 : DataW.Trod enc P w base spare held t4 v4 d4 p4) :
    DataW.TrodAll enc P w base spare held [t0, t1, t2, t3, t4] [v0, v1, v2, v3, v4] [d0, d1, d2, d3, d4] (p0 ++ (p1 ++ (p2 ++ p4))) := by
  have := (show DataW.TrodAll enc P w base spare held [t0, t1, t2, t3, t4] [v0, v1, v2, v3, v4] [d0, d1, d2, d3, d4] (p0 ++ (p1 ++ (p2 ++ ([] ++ p4)))) from ⟨p0, _, h0, trodAll_mk4 h1 h2 h3 h4, rfl⟩)
  simpa using this
end
set_option maxRecDepth 100000 in
theorem open_bytes {H : Type} {enc : TypeId × Value → H} {W : World} {v : Value} {d : DataW H} {ps : List MemPlace} {r : Reach} {b0 : Nat} (hv : Value.okWide Tryz.prog W r b0 52 v)
    (h : DataW.Trod enc Tryz.prog W 0 (fun _ => true) true 52 v d ps) :
    ∃ A n ca L, v = .slice A n ca ∧ Reads W W.heap.size 1 A n (bys L) ∧ n ≤ ca ∧ ca ≤ maxLen ∧ ∀ z ∈ L, 0 ≤ z ∧ z ≤ 255 := by
  obtain ⟨a, len, cap, rfl⟩ := okWide_slice Tryz.underlying52 hv
  obtain ⟨fu, hf⟩ := h
  have hf' : DataW.trod enc Tryz.prog W 0 (fun _ => true) true fu 52 [.slice a len cap] = some (d, ps) := by simpa [Value.cells] using hf
  rcases open_ints Tryz.underlying52 Tryz.underlying5 (by kernel_rfl) hf' with ⟨h0, -⟩ | ⟨a', len', cap', zs, hcs, -, hl, hm, hzl, -, hat, hwf⟩
  · cases h0
    exact ⟨none, 0, 0, [], rfl, Reads.none_, Nat.le_refl _, by simp [maxLen], fun z hz => by cases hz⟩
  · cases hcs
    simp only [if_true] at hzl
    refine ⟨some a', len, _, zs.take len, rfl, ⟨by simp [bys]; omega, fun h0 => ⟨a', rfl, ?_, fun j u hu => ?_⟩⟩, hl, hm, fun z hz => ?_⟩
    · have h1 := hat 0 (by omega)
      have h2 := World.block_lt_of_cell? W _ h1
      exact h2
    · have hj : j < len := by
        have := (List.getElem?_eq_some_iff.1 hu).1
        simp [bys] at this
        omega
      have hjz : j < zs.length := by omega
      rw [hat j hjz, ← hu]
      simp [bys, List.getElem?_take, hj, hjz]
    · have := (Lit.wf_int_iff _ _).1 (hwf z (List.mem_of_mem_take hz))
      rw [show IntKind.u8.min = 0 from rfl, show IntKind.u8.max = 255 from rfl] at this
      exact this
theorem Tryz.readBytes : Tryz.prog.readableRec 52 = true := by kernel_rfl
theorem Tryz.rowBytes : 52 < Tryz.prog.types.size := of_decide_eq_true (by kernel_rfl)
theorem bytes_stay {H : Type} {enc : TypeId × Value → H} {W W' : World} {sp : Nat → Bool} {v : Value} {d : DataW H} {ps : List MemPlace} (h : DataW.Trod enc Tryz.prog W 0 (fun _ => true) true 52 v d ps) (hb : Below W.heap.size W W') (hlt : ∀ x ∈ ps, x.block < W.heap.size) (hsp : ∀ p ∈ ps, sp p.block = true) : DataW.Trod enc Tryz.prog W' 0 sp true 52 v d ps :=
  WideElems.Trod_stays Tryz.laidOutB Tryz.readBytes Tryz.rowBytes h (fun x hx => hb.same (hlt x hx)) hsp
set_option maxRecDepth 100000 in
theorem regionShrinks_lifted (os : Os) (started : os.Started) (H : Type) (enc : TypeId × Value → H) :
    ReturnsInHanded {} Tryz.checked os 4 .any (Rows.regionShrinksSpec.pre6 enc Tryz.prog Tryz.f4 Rows.regionShrinksRow.domain false) (Rows.regionShrinksSpec.post enc Tryz.prog Tryz.f4 false true false false) := by
  refine returnsInHanded_of_change (C := Tryz.checked) Tryz.own started (by kernel_rfl) Tryz.func4
    (ChangeSpec.witness6 (enc := enc) (C := Tryz.checked) false ⟨#[], #[.slice none 0 0, .agg #[.int .i64 0, .int .i64 0, .int .i64 0, .int .i64 0, .int .i64 0, .int .i64 0], .slice none 0 0, .int .u8 0, .slice none 0 0], []⟩ 8 (by kernel_rfl) (by kernel_rfl) (by kernel_rfl) (by kernel_rfl)) ?_
  intro W base args ds gs before hval0 hW _ _
  have hval : ∀ (j : Nat) t v, Tryz.f4.params[j]? = some t → args[j]? = some v → Value.okWide Tryz.prog W .any base t v := hval0
  have hW' := hW
  obtain ⟨p, q, hA0, hV, rfl, _, _⟩ := hW
  have hA : DataW.TrodAll enc Tryz.prog W 0 (fun _ => true) true Tryz.f4.params.toList args.toList ds p := hA0
  rw [Tryz.params4] at hA hval
  obtain ⟨v0, v1, v2, v3, v4, d0, d1, d2, d3, d4, p0, p1, p2, p3, p4, rfl, rfl, rfl, h0, h1, h2, h3, h4⟩ := trod5 hA
  obtain ⟨rfl, rfl⟩ := trodVars_none hV
  obtain ⟨A, n, ca, K, rfl, ra, hn, hca⟩ := open_circles (hval 0 30 v0 rfl rfl) h0
  obtain ⟨kk, rfl⟩ := open_circle (hval 1 36 v1 rfl rfl) h1
  obtain ⟨B, m, cb, L, rfl, rb, hm, hcb⟩ := open_cells (hval 2 26 v2 rfl rfl) h2
  obtain ⟨lev, rfl, rfl, rfl, wlev⟩ := open_int Tryz.underlying5 (hval 3 5 v3 rfl rfl) h3
  have blev : 0 ≤ lev ∧ lev ≤ 255 := by have := (Lit.wf_int_iff _ _).1 wlev; rw [show IntKind.u8.min = 0 from rfl, show IntKind.u8.max = 255 from rfl] at this; exact this
  obtain ⟨Ao, no, co, Od, rfl, ro, hno, hco, hod⟩ := open_bytes (hval 4 52 v4 rfl rfl) h4
  clear hA0 hval0
  simp only [List.append_nil, List.nil_append] at hW'
  have hlt : ∀ x ∈ p0 ++ (p1 ++ (p2 ++ p4)), x.block < W.heap.size := fun x hx => hW'.lt x hx
  refine (regionShrinks_any A n ca K kk B m cb L lev Ao no co Od W ra hn hca rb hm hcb blev.1 blev.2 ro (Nat.le_trans hno hco) hod).mono fun e W' ⟨he, hb⟩ => ?_
  subst he
  exact ⟨_, rfl, post_of_below (pa := p0 ++ (p1 ++ (p2 ++ p4))) (pv := []) hW' (fun _ _ _ => trodAll_mk1 (shut_bool Tryz.underlying4 true)) (fun sp hsp =>
    trod5_mk (circles_stay h0 hb (fun x hx => hlt x (by simp [hx])) (fun p hp => hsp p (by simp [hp]))) (circle_stay h1 hb (fun x hx => hlt x (by simp [hx])) (fun p hp => hsp p (by simp [hp]))) (cells_stay h2 hb (fun x hx => hlt x (by simp [hx])) (fun p hp => hsp p (by simp [hp]))) (shut_int (enc := enc) (w := W') (base := 0) (spare := sp) (held := true) Tryz.underlying5 wlev) (bytes_stay h4 hb (fun x hx => hlt x (by simp [hx])) (fun p hp => hsp p (by simp [hp])))) (fun _ _ => rfl) (by simp) hb (ok_one (by kernel_rfl) rfl (okWide_bool_mk Tryz.underlying4 true))⟩
theorem regionShrinks_named : Tryz.pinned.checked.prog.funcNamed Rows.regionShrinksRow.func = some 4 := by kernel_rfl
theorem regionShrinks_facts : joinedFacts Tryz.pinned.checked.prog 4 Tryz.f4 Rows.regionShrinksSpec Rows.regionShrinksRow = true := by kernel_rfl
theorem regionShrinks_holds : Rows.RegionShrinksSaid :=
  OpenClaim.holds_of_wide 4 Tryz.f4 rfl rfl rfl rfl rfl rfl rfl ⟨rfl, rfl, rfl, rfl, rfl⟩ rfl rfl rfl rfl rfl regionShrinks_named Tryz.func4 regionShrinks_facts
    (of_decide_eq_true (by kernel_rfl)) (by unfold Func.isWrapper; first | (rw [if_pos (by decide +kernel)]; kernel_rfl) | (rw [if_neg (by decide +kernel)]; exact ⟨rfl, rfl⟩))
    (fun os started H enc _ => regionShrinks_lifted os started H enc)
#print axioms regionShrinks_holds
end Go.Proofs.YtpemohoibeipfaaGreat
