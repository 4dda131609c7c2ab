/- Which records are equal: the walk of logbook.same. -/
import Derived.Test.YthfndnmfnijpeaaGreatProg
import Derived.Shelf.Lay
import Derived.Shelf.LaySoft
import Derived.Shelf.Slices.Equal
import Derived.Shelf.Slices.Empties2
import Derived.Ground.NamesProg
import Derived.Shelf.Bytes.SlEqualAll
import Derived.Shelf.Slices.Turned
import Derived.Shelf.Slices.In.SortNone
import Derived.Shelf.Slices.CompactS
import Derived.Shelf.Slices.Clone
import Derived.Ground.Names2Prog
import Derived.Test.YthfndnmfnijpeaaGreatHLp
set_option linter.unusedVariables false
set_option linter.unusedSimpArgs false
namespace Go.Proofs.YthfndnmfnijpeaaGreat
open Go.RowKit
open LB (Bs Rec)
/-- a slice of numbers -/
def IntsAt (w : World) (A : Option Addr) (l : List Int) : Prop := l = [] ∨ ∃ b off, A = some ⟨b, off, none⟩ ∧ b < w.heap.size ∧ ∀ j x, l[j]? = some x → w.cell? ⟨b, off + j, none⟩ = some (.int .i64 x)
theorem IntsAt.bl {w w' : World} {A : Option Addr} {l : List Int} (h : IntsAt w A l) (hb : Below w.heap.size w w') : IntsAt w' A l := by
  rcases h with h | ⟨b, off, e, hlt, hc⟩
  · exact .inl h
  · exact .inr ⟨b, off, e, Nat.lt_of_lt_of_le hlt hb.size, fun j x hx => (hb.cell (p := ⟨b, off + j, none⟩) hlt).trans (hc j x hx)⟩
theorem IntsAt.of_reads {w : World} {A : Option Addr} {n : Nat} {l : List Int} (h : Reads w w.heap.size 1 A n (l.map (Value.int .i64))) : IntsAt w A l := by
  cases l with
  | nil => exact .inl rfl
  | cons x0 l =>
    have hl := h.1
    simp at hl
    obtain ⟨ad, rfl, hb, hc⟩ := h.2 (by omega)
    obtain ⟨b, off, spot⟩ := ad
    have hspot : spot = none := by simpa [Addr.add] using World.cell?_spot (hc 0 (.int .i64 x0) (by simp))
    subst hspot
    refine .inr ⟨b, off, rfl, hb, fun j x hx => ?_⟩
    have := hc j (.int .i64 x) (by rw [List.getElem?_map, hx]; rfl)
    rwa [Go.WideShapes.add_plain] at this
def goB (l : List Int) (k : Nat) : Bool := !(decide (l.getD (k + 1) 0 < 0) || decide (1000 ≤ l.getD (k + 1) 0) || (decide (0 < k) && decide (l.getD (k + 1) 0 ≤ l.getD k 0)))
def liB (l : List Int) : Bool := decide (2 ≤ l.length ∧ l.length ≤ 41) && decide (0 ≤ l.getD 0 0 ∧ l.getD 0 0 ≤ 12) && (List.range (l.length - 1)).all (goB l)
theorem getD_some {l : List Int} {j : Nat} (h : j < l.length) : l[j]? = some (l.getD j 0) := by
  rw [List.getD_eq_getElem?_getD, List.getElem?_eq_getElem h]; rfl
theorem all_range_false {m k : Nat} {f : Nat → Bool} (h : k < m) (hf : f k = false) : (List.range m).all f = false := by
  cases e : (List.range m).all f with
  | false => rfl
  | true =>
    rw [List.all_eq_true] at e
    rw [e k (List.mem_range.2 h)] at hf
    cases hf
theorem all_next {k : Nat} {f : Nat → Bool} (h : ∀ j, j < k → f j = true) (hf : f k = true) : ∀ j, j < k + 1 → f j = true := fun j hj => by
  rcases Nat.lt_or_ge j k with h' | h'
  · exact h j h'
  · obtain rfl : j = k := by omega
    exact hf
set_option maxHeartbeats 4000000 in
set_option maxRecDepth 100000 in
theorem list_any (A : Option Addr) (c n : Nat) (l : List Int) (w : World) (hn : l.length = n) (hA : IntsAt w A l) (hc : n ≤ c) (hcm : c ≤ maxLen) : Calls Tryz.prog 24 #[.slice A n c] w fun e w' => e = .returned (.bool (liB l)) ∧ Below w.heap.size w w' := by
  by_cases h2 : n < 2
  · have d : decide ((n : Int) < 2) = true := decide_eq_true (by omega)
    have e : liB l = false := by unfold liB; rw [decide_eq_false (by omega)]; rfl
    rw [e]
    clear e
    go_enter Tryz.func24, Tryz.ntmps24
    go_wp2
    go_ret
    refine ⟨rfl, ?_⟩
    repeat (first | exact Below.refl _ _ | assumption | refine bl_drew ?_ | refine bl_drewN ?_ _ | refine Below.setCell ?_ (by first | assumption | omega | (simp; done) | (simp; omega)) _ | refine Below.alloc ?_ (by first | assumption | omega | (simp; done) | (simp; omega)) _)
  have d2 : decide ((n : Int) < 2) = false := decide_eq_false (by omega)
  by_cases h41 : 41 < n
  · have d : decide ((41 : Int) < (n : Int)) = true := decide_eq_true (by omega)
    have e : liB l = false := by unfold liB; rw [decide_eq_false (by omega)]; rfl
    rw [e]
    clear e
    go_enter Tryz.func24, Tryz.ntmps24
    go_wp2
    go_ret
    refine ⟨rfl, ?_⟩
    repeat (first | exact Below.refl _ _ | assumption | refine bl_drew ?_ | refine bl_drewN ?_ _ | refine Below.setCell ?_ (by first | assumption | omega | (simp; done) | (simp; omega)) _ | refine Below.alloc ?_ (by first | assumption | omega | (simp; done) | (simp; omega)) _)
  have d41 : decide ((41 : Int) < (n : Int)) = false := decide_eq_false (by omega)
  obtain ⟨b, off, rfl, hlt, hcell⟩ : ∃ b off, A = some ⟨b, off, none⟩ ∧ b < w.heap.size ∧ ∀ j x, l[j]? = some x → w.cell? ⟨b, off + j, none⟩ = some (.int .i64 x) := by
    rcases hA with h | h
    · subst h; simp at hn; omega
    · exact h
  clear hA
  have x0 : w.cell? ⟨b, off, none⟩ = some (.int .i64 (l.getD 0 0)) := by simpa using hcell 0 _ (getD_some (by omega))
  obtain ⟨R, hR⟩ : ∃ R, liB l = R := ⟨_, rfl⟩
  have HR0 := Lib.hid hR
  rw [hR]
  clear hR
  unfold liB at HR0
  rw [decide_eq_true (show 2 ≤ l.length ∧ l.length ≤ 41 by omega)] at HR0
  obtain ⟨f, hf⟩ : ∃ f, l.getD 0 0 = f := ⟨_, rfl⟩
  rw [hf] at x0 HR0
  by_cases hf0 : f < 0
  · have d : decide (f < 0) = true := decide_eq_true hf0
    obtain rfl : R = false := by rw [← HR0.out, decide_eq_false (show ¬ (0 ≤ f ∧ f ≤ 12) by omega)]; rfl
    clear HR0
    go_enter Tryz.func24, Tryz.ntmps24
    go_wp2
    go_ret
    refine ⟨rfl, ?_⟩
    repeat (first | exact Below.refl _ _ | assumption | refine bl_drew ?_ | refine bl_drewN ?_ _ | refine Below.setCell ?_ (by first | assumption | omega | (simp; done) | (simp; omega)) _ | refine Below.alloc ?_ (by first | assumption | omega | (simp; done) | (simp; omega)) _)
  have df0 : decide (f < 0) = false := decide_eq_false hf0
  by_cases hf1 : 12 < f
  · have d : decide (12 < f) = true := decide_eq_true hf1
    obtain rfl : R = false := by rw [← HR0.out, decide_eq_false (show ¬ (0 ≤ f ∧ f ≤ 12) by omega)]; rfl
    clear HR0
    go_enter Tryz.func24, Tryz.ntmps24
    go_wp2
    go_ret
    refine ⟨rfl, ?_⟩
    repeat (first | exact Below.refl _ _ | assumption | refine bl_drew ?_ | refine bl_drewN ?_ _ | refine Below.setCell ?_ (by first | assumption | omega | (simp; done) | (simp; omega)) _ | refine Below.alloc ?_ (by first | assumption | omega | (simp; done) | (simp; omega)) _)
  have df1 : decide (12 < f) = false := decide_eq_false hf1
  rw [decide_eq_true (show 0 ≤ f ∧ f ≤ 12 by omega), hn] at HR0
  simp only [Bool.true_and] at HR0
  have HN := Lib.hid hn
  have HC := Lib.hid (fun j (hj : j < n) => hcell j _ (getD_some (by omega)))
  obtain ⟨m, hm⟩ : ∃ m, n = m + 1 := ⟨n - 1, by omega⟩
  subst hm
  have hne : c ≠ 1 := by omega
  have hm1 : m + 1 - 1 = m := by omega
  rw [hm1] at HR0
  clear hcell hf hn hf0 hf1
  have hc1 : (1 : Nat) ≤ c := by omega
  go_enter Tryz.func24, Tryz.ntmps24
  go_wp2
  go_loopg [3, 4, 28] m (fun gz _ _ s28 wr => ∃ k : Nat, k ≤ m ∧ m - k ≤ gz ∧ s28 = .int .i64 (k : Int) ∧ (∀ j, j < k → goB l j = true) ∧ wr = w)
  case atStart => exact ⟨0, Nat.zero_le _, by omega, rfl, fun j h => by omega, rfl⟩
  case round =>
    obtain ⟨k, hk, hg, rfl, hall, rfl⟩ := hrel
    have HA := Lib.hid hall
    clear hall
    by_cases hlt2 : k < m
    · have y0 := HC.out k (by omega)
      have y1 := HC.out (k + 1) (by omega)
      rw [show off + (k + 1) = off + 1 + k by omega] at y1
      obtain ⟨q, hq⟩ : ∃ q, goB l k = q := ⟨_, rfl⟩
      have HQ := Lib.hid hq
      have HQ0 := Lib.hid hq
      clear hq
      unfold goB at HQ
      obtain ⟨u, hu⟩ : ∃ u, l.getD k 0 = u := ⟨_, rfl⟩
      obtain ⟨v, hv⟩ : ∃ v, l.getD (k + 1) 0 = v := ⟨_, rfl⟩
      rw [hu] at y0 HQ
      rw [hv] at y1 HQ
      clear hu hv
      have HF := Lib.hid (fun (h : goB l k = false) => (all_range_false hlt2 h : (List.range m).all (goB l) = false))
      by_cases hv0 : v < 0
      · have d0 : decide (v < 0) = true := decide_eq_true hv0
        obtain rfl : q = false := by rw [← HQ.out, d0]; simp
        clear HQ hv0
        go_wp2
        go_ret
        exact ⟨ret_boo (by rw [← HR0.out, HF.out HQ0.out]), Below.refl _ _⟩
      · have d0 : decide (v < 0) = false := decide_eq_false hv0
        by_cases hv1 : 1000 ≤ v
        · have d1 : decide (1000 ≤ v) = true := decide_eq_true hv1
          obtain rfl : q = false := by rw [← HQ.out, d1]; simp
          clear HQ hv0 hv1
          go_wp2
          go_ret
          exact ⟨ret_boo (by rw [← HR0.out, HF.out HQ0.out]), Below.refl _ _⟩
        · have d1 : decide (1000 ≤ v) = false := decide_eq_false hv1
          by_cases hk0 : 0 < k
          · by_cases hvu : v ≤ u
            · have d3 : decide (v ≤ u) = true := decide_eq_true hvu
              obtain rfl : q = false := by rw [← HQ.out, decide_eq_true hk0, d3]; simp
              clear HQ hv0 hv1 hvu
              go_wp2
              go_ret
              exact ⟨ret_boo (by rw [← HR0.out, HF.out HQ0.out]), Below.refl _ _⟩
            · have d3 : decide (v ≤ u) = false := decide_eq_false hvu
              obtain rfl : q = true := by rw [← HQ.out, d0, d1, d3]; simp
              clear HQ hv0 hv1 hvu
              go_wp2
              go_roundg (m - (k + 1))
              case measure => omega
              case rel => exact ⟨k + 1, by omega, by omega, by go_num, all_next HA.out HQ0.out, rfl⟩
          · obtain rfl : q = true := by rw [← HQ.out, d0, d1, decide_eq_false hk0]; simp
            clear HQ hv0 hv1
            go_wp2
            go_roundg (m - (k + 1))
            case measure => omega
            case rel => exact ⟨k + 1, by omega, by omega, by go_num, all_next HA.out HQ0.out, rfl⟩
    · obtain rfl : k = m := by omega
      have hR : R = true := by
        rw [← HR0.out, List.all_eq_true]
        intro j hj
        exact HA.out j (List.mem_range.1 hj)
      subst hR
      go_wp2
      go_ret
      exact ⟨rfl, Below.refl _ _⟩
def teB (s : Bs) : Bool := (s.all fun c => decide (32 ≤ c.toNat ∧ c.toNat ≤ 126)) && decide (1 ≤ s.length ∧ s.length ≤ 500)
theorem teB_bad {s : Bs} {k : Nat} {c : UInt8} (h : s[k]? = some c) (hb : ¬ (32 ≤ c.toNat ∧ c.toNat ≤ 126)) : teB s = false := by
  unfold teB
  cases e : s.all fun c => decide (32 ≤ c.toNat ∧ c.toNat ≤ 126) with
  | false => rfl
  | true =>
    rw [List.all_eq_true] at e
    have := e c (List.mem_of_getElem? h)
    simp at this
    exact absurd this hb
set_option maxHeartbeats 2000000 in
theorem text_any (s : Bs) (w : World) (hl : s.length ≤ 100000) : Calls Tryz.prog 25 #[txb s] w fun e w' => e = .returned (.bool (teB s)) ∧ w' = w := by
  have hz := txb_size s
  obtain ⟨n, hn⟩ : ∃ n, s.length = n := ⟨_, rfl⟩
  have HN := Lib.hid hn
  rw [hn] at hz hl
  clear hn
  go_enter Tryz.func25, Tryz.ntmps25
  go_wp2
  go_loopg [3, 6] n (fun gz _ s6 wr => ∃ k : Nat, k ≤ n ∧ n - k ≤ gz ∧ s6 = .int .i64 (k : Int) ∧ (∀ j c, j < k → s[j]? = some c → 32 ≤ c.toNat ∧ c.toNat ≤ 126) ∧ wr = w)
  case atStart => exact ⟨0, Nat.zero_le _, by omega, rfl, fun j c h => by omega, rfl⟩
  case round =>
    obtain ⟨k, hk, hg, rfl, hall, rfl⟩ := hrel
    have HA := Lib.hid hall
    clear hall
    by_cases hlt : k < n
    · obtain ⟨c, hc⟩ : ∃ c, s[k]? = some c := ⟨_, List.getElem?_eq_getElem (by rw [HN.out]; exact hlt)⟩
      have g0 := getBL hc
      have HC := Lib.hid hc
      clear hc
      by_cases h1 : c.toNat < 32
      · have d1 : decide ((c.toNat : Int) < 32) = true := decide_eq_true (by omega)
        have HR := Lib.hid (teB_bad HC.out (by omega))
        clear h1
        go_wp2
        go_ret
        exact ⟨ret_boo (by rw [HR.out]), rfl⟩
      · have d1 : decide ((c.toNat : Int) < 32) = false := decide_eq_false (by omega)
        by_cases h2 : 126 < c.toNat
        · have d2 : decide (126 < (c.toNat : Int)) = true := decide_eq_true (by omega)
          have HR := Lib.hid (teB_bad HC.out (by omega))
          clear h1 h2
          go_wp2
          go_ret
          exact ⟨ret_boo (by rw [HR.out]), rfl⟩
        · have d2 : decide (126 < (c.toNat : Int)) = false := decide_eq_false (by omega)
          have HB := Lib.hid (show 32 ≤ c.toNat ∧ c.toNat ≤ 126 by omega)
          clear h1 h2
          go_wp2
          go_roundg (n - (k + 1))
          case measure => omega
          case rel =>
            refine ⟨k + 1, by omega, by omega, by go_num, fun j d hj hd => ?_, rfl⟩
            rcases Nat.lt_or_ge j k with h | h
            · exact HA.out j d h hd
            · obtain rfl : j = k := by omega
              obtain rfl : c = d := Option.some.inj (HC.out.symm.trans hd)
              exact HB.out
    · obtain rfl : k = n := by omega
      have hall : (s.all fun c => decide (32 ≤ c.toNat ∧ c.toNat ≤ 126)) = true := List.all_eq_true.2 fun c hc => by
        obtain ⟨j, hj⟩ := List.mem_iff_getElem?.1 hc
        exact decide_eq_true (HA.out j c (by have := (List.getElem?_eq_some_iff.1 hj).1; rw [HN.out] at this; exact this) hj)
      have HL := Lib.hid (show teB s = decide (1 ≤ k ∧ k ≤ 500) by unfold teB; rw [hall, HN.out]; rfl)
      clear hall
      by_cases h1 : 1 ≤ k
      · by_cases h2 : k ≤ 500
        · have h3 := Lib.hid (decide_eq_true (show 1 ≤ k ∧ k ≤ 500 from ⟨h1, h2⟩))
          go_wp2
          go_ret
          exact ⟨ret_boo (by rw [HL.out, h3.out] <;> first | rfl | (simp; done) | (simp; omega) | (symm; exact decide_eq_true (by omega)) | (symm; exact decide_eq_false (by omega))), rfl⟩
        · have h3 := Lib.hid (decide_eq_false (show ¬ (1 ≤ k ∧ k ≤ 500) from fun h => h2 h.2))
          go_wp2
          go_ret
          exact ⟨ret_boo (by rw [HL.out, h3.out] <;> first | rfl | (simp; done) | (simp; omega) | (symm; exact decide_eq_true (by omega)) | (symm; exact decide_eq_false (by omega))), rfl⟩
      · have h3 := Lib.hid (decide_eq_false (show ¬ (1 ≤ k ∧ k ≤ 500) from fun h => h1 h.1))
        go_wp2
        go_ret
        exact ⟨ret_boo (by rw [HL.out, h3.out] <;> first | rfl | (simp; done) | (simp; omega) | (symm; exact decide_eq_true (by omega)) | (symm; exact decide_eq_false (by omega))), rfl⟩
end Go.Proofs.YthfndnmfnijpeaaGreat
namespace Go.Proofs
open Go.Shelf
shelf_try shelf_lay Lays.n111 Nm 111 at Tryz as Tryz.lays111
shelf_try shelf_lay Lays.nb115 Nm 115 at Tryz as Tryz.lays115
shelf_try shelf_lay Lays.n110 Nm 110 at Tryz as Tryz.lays110
shelf_try shelf_lay Lays.n190 Nm 190 at Tryz as Tryz.lays190
shelf_try shelf_lay Lays.n194 Nm 194 at Tryz as Tryz.lays194
shelf_try shelf_lay Lays2.n15 Nm2 15 at Tryz as Tryz.lays15
shelf_tried
end Go.Proofs
namespace Go.Proofs.YthfndnmfnijpeaaGreat
open Go.RowKit Go.Shelf
open LB (Bs Rec)
/-- a record as a value, its list being in a slice -/
abbrev recV (r : Rec) (v : Value) : Value := .agg #[.int .i64 r.kind, .int .i64 r.at0, .int .i64 r.at1, .int .i64 r.p0, .int .i64 r.p1, .int .i64 r.p2, .int .i64 r.p3, .int .i64 r.m0, .int .i64 r.m1, .int .i64 r.m2, .int .i64 r.m3, txb r.body, .int .i64 r.limb, .int .i64 r.sa0, .int .i64 r.sa1, .int .i64 r.hs, .int .i64 r.within, .int .i64 r.horizon, .int .i64 r.eye, .int .i64 r.shore, .int .i64 r.temp, .int .i64 r.pres, v, txb r.text]
theorem equalInts_any (A1 A2 : Option Addr) (n1 c1 n2 c2 : Nat) (l1 l2 : List Int) (w : World) (h1 : IntsAt w A1 l1) (h2 : IntsAt w A2 l2) (e1 : l1.length = n1) (e2 : l2.length = n2) (b1 : n1 ≤ 100000) (b2 : n2 ≤ 100000) :
    Calls Tryz.prog 56 #[.slice A1 n1 c1, .slice A2 n2 c2] w fun e w' => e = .returned (.bool (decide (l1 = l2))) ∧ Below w.heap.size w w' := by
  by_cases hn : n1 = n2
  · rcases h1 with h1 | ⟨g1, o1, rfl, q1, hc1⟩
    · subst h1
      have hn2 : n2 = 0 := by simp at e1; omega
      have hl2 : l2 = [] := List.eq_nil_of_length_eq_zero (by omega)
      subst e1 hl2
      refine (Any.slices_Equal_int_empty Tryz.lays111 A1 A2 c1 n2 c2 w (by omega)).mono fun e w' ⟨he, hw⟩ => ⟨?_, by rw [hw]; exact Below.refl _ _⟩
      rw [he, hn2]; rfl
    · rcases h2 with h2 | ⟨g2, o2, rfl, q2, hc2⟩
      · subst h2
        have hn1 : n1 = 0 := by simp at e2; omega
        have hl1 : l1 = [] := List.eq_nil_of_length_eq_zero (by omega)
        subst hl1
        subst hn1
        refine (Any.slices_Equal_int_empty Tryz.lays111 (some ⟨g1, o1, none⟩) A2 c1 n2 c2 w (by omega)).mono fun e w' ⟨he, hw⟩ => ⟨?_, by rw [hw]; exact Below.refl _ _⟩
        have : n2 = 0 := by simpa using e2.symm
        rw [he, this]; rfl
      · refine (Any.slices_Equal_int Tryz.lays111 g1 o1 n1 c1 g2 o2 n2 c2 l1 l2 w (by omega) (by omega) (by omega) (by omega) (fun j hj => hc1 j _ (getD_some hj)) (fun j hj => hc2 j _ (getD_some hj))).mono fun e w' ⟨he, q, hq⟩ => ⟨?_, by rw [hq]; exact bl_drewN (Below.refl _ _) q⟩
        rw [he, List.take_of_length_le (by omega), List.take_of_length_le (by omega)]
        exact ret_boo (by by_cases h : l1 = l2 <;> simp [h])
  · refine (Any.slices_Equal_int_lens Tryz.lays111 A1 A2 n1 c1 n2 c2 w hn).mono fun e w' ⟨he, hw⟩ => ⟨?_, by rw [hw]; exact Below.refl _ _⟩
    rw [he]
    exact ret_boo (by symm; apply decide_eq_false; intro h; subst h; omega)
def atE (x y : Rec) : Bool := decide (x.at0 = y.at0 ∧ x.at1 = y.at1)
def plE (x y : Rec) : Bool := decide (x.p0 = y.p0 ∧ x.p1 = y.p1 ∧ x.p2 = y.p2 ∧ x.p3 = y.p3)
def moE (x y : Rec) : Bool := decide (x.m0 = y.m0 ∧ x.m1 = y.m1 ∧ x.m2 = y.m2 ∧ x.m3 = y.m3)
def siE (x y : Rec) : Bool := sgE x.body x.limb x.sa0 x.sa1 x.hs x.within x.horizon x.eye x.shore x.temp x.pres y.body y.limb y.sa0 y.sa1 y.hs y.within y.horizon y.eye y.shore y.temp y.pres
theorem rec_ext (x y : Rec) : decide (x = y) = (decide (x.kind = y.kind) && atE x y && plE x y && moE x y && siE x y && decide (x.text = y.text) && decide (x.list = y.list)) := by
  rw [Bool.eq_iff_iff]
  simp only [Bool.and_eq_true, decide_eq_true_eq, atE, plE, moE, siE, sgE]
  cases x; cases y
  simp only [Rec.mk.injEq]
  constructor
  · rintro ⟨rfl, rfl, rfl, rfl, rfl, rfl, rfl, rfl, rfl, rfl, rfl, rfl, rfl, rfl, rfl, rfl, rfl, rfl, rfl, rfl, rfl, rfl, rfl, rfl⟩
    simp
  · rintro ⟨⟨⟨⟨⟨⟨rfl, rfl, rfl⟩, rfl, rfl, rfl, rfl⟩, rfl, rfl, rfl, rfl⟩, rfl, rfl, rfl, rfl, rfl, rfl, rfl, rfl, rfl, rfl, rfl⟩, rfl⟩, rfl⟩
    simp
set_option maxHeartbeats 8000000 in
set_option maxRecDepth 100000 in
theorem same_any (x y : Rec) (A1 A2 : Option Addr) (n1 c1 n2 c2 : Nat) (w : World) (h1 : IntsAt w A1 x.list) (h2 : IntsAt w A2 y.list) (e1 : x.list.length = n1) (e2 : y.list.length = n2) (b1 : n1 ≤ 100000) (b2 : n2 ≤ 100000) :
    Calls Tryz.prog 26 #[recV x (.slice A1 n1 c1), recV y (.slice A2 n2 c2)] w fun e w' => e = .returned (.bool (decide (x = y))) ∧ Below w.heap.size w w' := by
  have KE' := fun (W : World) (hb : Below w.heap.size w W) => equalInts_any A1 A2 n1 c1 n2 c2 x.list y.list W (h1.bl hb) (h2.bl hb) e1 e2 b1 b2
  have hA : ∀ W, (binOp .eql 23 (tiv x.at0 x.at1) (tiv y.at0 y.at1)).run Tryz.prog W = .ok (.bool (atE x y)) W := fun W => by rw [run_eql_struct, show (10000 : Nat) = 9998 + 1 + 1 from rfl, eqInTime]; rfl
  have hP : ∀ W, (binOp .eql 26 (plv x.p0 x.p1 x.p2 x.p3) (plv y.p0 y.p1 y.p2 y.p3)).run Tryz.prog W = .ok (.bool (plE x y)) W := fun W => by rw [run_eql_struct, eqInPlace]; rfl
  have hM : ∀ W, (binOp .eql 28 (plv x.m0 x.m1 x.m2 x.m3) (plv y.m0 y.m1 y.m2 y.m3)).run Tryz.prog W = .ok (.bool (moE x y)) W := fun W => by rw [run_eql_struct, eqInMotion]; rfl
  have hS : ∀ W, (binOp .eql 30 (sgv x.body x.limb x.sa0 x.sa1 x.hs x.within x.horizon x.eye x.shore x.temp x.pres) (sgv y.body y.limb y.sa0 y.sa1 y.hs y.within y.horizon y.eye y.shore y.temp y.pres)).run Tryz.prog W = .ok (.bool (siE x y)) W := fun W => by rw [run_eql_struct, eqInSight]; rfl
  have hr := rec_ext x y
  obtain ⟨R, hR⟩ : ∃ R, decide (x = y) = R := ⟨_, rfl⟩
  rw [hR] at hr ⊢
  generalize atE x y = q1 at *
  generalize plE x y = q2 at *
  generalize moE x y = q3 at *
  generalize siE x y = q4 at *
  generalize decide (x.list = y.list) = q6 at *
  have KE := Lib.hid KE'
  clear KE' hR h1 h2 e1 e2 b1 b2
  obtain ⟨k, a0, a1, p0, p1, p2, p3, m0, m1, m2, m3, bo, s0, s1, s2, s3, s4, s5, s6, s7, s8, s9, li, te⟩ := x
  obtain ⟨k', a0', a1', p0', p1', p2', p3', m0', m1', m2', m3', bo', s0', s1', s2', s3', s4', s5', s6', s7', s8', s9', li', te'⟩ := y
  simp only [] at *
  by_cases hk : k = k'
  · have dk : (k == k') = true := by simp [hk]
    rw [decide_eq_true hk] at hr
    clear hk
    cases q1
    · obtain rfl : R = false := by simpa using hr
      clear hr
      go_enter Tryz.func26, Tryz.ntmps26
      go_wp2
      go_ret
      refine ⟨rfl, ?_⟩
      repeat (first | exact Below.refl _ _ | assumption | refine bl_drew ?_ | refine bl_drewN ?_ _ | refine Below.setCell ?_ (by first | assumption | omega | (simp; done) | (simp; omega)) _ | refine Below.alloc ?_ (by first | assumption | omega | (simp; done) | (simp; omega)) _)
    cases q2
    · obtain rfl : R = false := by simpa using hr
      clear hr
      go_enter Tryz.func26, Tryz.ntmps26
      go_wp2
      go_ret
      refine ⟨rfl, ?_⟩
      repeat (first | exact Below.refl _ _ | assumption | refine bl_drew ?_ | refine bl_drewN ?_ _ | refine Below.setCell ?_ (by first | assumption | omega | (simp; done) | (simp; omega)) _ | refine Below.alloc ?_ (by first | assumption | omega | (simp; done) | (simp; omega)) _)
    cases q3
    · obtain rfl : R = false := by simpa using hr
      clear hr
      go_enter Tryz.func26, Tryz.ntmps26
      go_wp2
      go_ret
      refine ⟨rfl, ?_⟩
      repeat (first | exact Below.refl _ _ | assumption | refine bl_drew ?_ | refine bl_drewN ?_ _ | refine Below.setCell ?_ (by first | assumption | omega | (simp; done) | (simp; omega)) _ | refine Below.alloc ?_ (by first | assumption | omega | (simp; done) | (simp; omega)) _)
    cases q4
    · obtain rfl : R = false := by simpa using hr
      clear hr
      go_enter Tryz.func26, Tryz.ntmps26
      go_wp2
      go_ret
      refine ⟨rfl, ?_⟩
      repeat (first | exact Below.refl _ _ | assumption | refine bl_drew ?_ | refine bl_drewN ?_ _ | refine Below.setCell ?_ (by first | assumption | omega | (simp; done) | (simp; omega)) _ | refine Below.alloc ?_ (by first | assumption | omega | (simp; done) | (simp; omega)) _)
    by_cases ht : te = te'
    case neg =>
      obtain rfl : R = false := by simpa [ht] using hr
      clear hr
      go_enter Tryz.func26, Tryz.ntmps26
      go_wp2
      go_ret
      refine ⟨rfl, ?_⟩
      repeat (first | exact Below.refl _ _ | assumption | refine bl_drew ?_ | refine bl_drewN ?_ _ | refine Below.setCell ?_ (by first | assumption | omega | (simp; done) | (simp; omega)) _ | refine Below.alloc ?_ (by first | assumption | omega | (simp; done) | (simp; omega)) _)
    subst ht
    obtain rfl : R = q6 := by simpa using hr
    clear hr
    go_enter Tryz.func26, Tryz.ntmps26
    go_wp2_with (go_at_call 56; (with_reducible refine (KE.out _ ?_).mono ?_); (repeat (first | exact Below.refl _ _ | assumption | refine bl_drew ?_ | refine bl_drewN ?_ _ | refine Below.setCell ?_ (by first | assumption | omega | (simp; done) | (simp; omega)) _ | refine Below.alloc ?_ (by first | assumption | omega | (simp; done) | (simp; omega)) _)); rintro e w1 ⟨rfl, hb1⟩)
    go_ret
    refine ⟨rfl, Below.trans ?_ (hb1.mono (by simp; omega))⟩
    repeat (first | exact Below.refl _ _ | assumption | refine bl_drew ?_ | refine bl_drewN ?_ _ | refine Below.setCell ?_ (by first | assumption | omega | (simp; done) | (simp; omega)) _ | refine Below.alloc ?_ (by first | assumption | omega | (simp; done) | (simp; omega)) _)
  · have dk : (k == k') = false := by simp [hk]
    rw [decide_eq_false hk] at hr
    obtain rfl : R = false := by simpa using hr
    clear hk hr
    go_enter Tryz.func26, Tryz.ntmps26
    go_wp2
    go_ret
    refine ⟨rfl, ?_⟩
    repeat (first | exact Below.refl _ _ | assumption | refine bl_drew ?_ | refine bl_drewN ?_ _ | refine Below.setCell ?_ (by first | assumption | omega | (simp; done) | (simp; omega)) _ | refine Below.alloc ?_ (by first | assumption | omega | (simp; done) | (simp; omega)) _)
end Go.Proofs.YthfndnmfnijpeaaGreat
