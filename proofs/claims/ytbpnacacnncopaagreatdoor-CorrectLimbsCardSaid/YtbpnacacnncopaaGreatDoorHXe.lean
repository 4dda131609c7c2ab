/- The calendar: DateOf. -/
import Derived.Laws.StructEq
import Derived.BigQuiet
import Derived.Deep.Cut
import Derived.Laws.BytesArg
import Derived.Test.YtbpnacacnncopaaGreatDoorHTo
import Derived.Test.YtbpnacacnncopaaGreatDoorHXf
import Derived.Test.YtbpnacacnncopaaGreatDoorHIa
set_option linter.unusedVariables false
set_option linter.unusedSimpArgs false
namespace Go.Proofs.YtbpnacacnncopaaGreatDoor
open Go.RowKit Go.Shelf Frm
open Lib (decDigits)
theorem drop_step (l : Bs) {k : Nat} {c : UInt8} (h : l[k]? = some c) : l.drop k = c :: l.drop (k + 1) := by
  obtain ⟨hk, rfl⟩ := List.getElem?_eq_some_iff.1 h
  exact List.drop_eq_getElem_cons hk
set_option maxHeartbeats 2000000 in
set_option maxRecDepth 100000 in
theorem numB_any (l : Bs) (c lim : Nat) (w : World) (hl : l.length ≤ 1000000) (h1 : c ≤ 10) (h2 : lim ≤ 1000) :
    Calls Tryz.prog 176 #[tx l, .int .i64 c, .int .i64 lim] w fun e w' => e = .returned (.tuple #[.int .i64 ((CT.numb l c lim).1 : Nat), .bool (CT.numb l c lim).2]) ∧ w' = w := by
  obtain ⟨p, hp⟩ : ∃ p, CT.numb l c lim = p := ⟨_, rfl⟩
  rw [hp]
  have HP := Lib.hid hp
  have hsz := tx_size l
  obtain ⟨n, hn⟩ : ∃ n, l.length = n := ⟨_, rfl⟩
  rw [hn] at hsz hl
  have HN := Lib.hid hn
  clear hp hn
  go_enter Tryz.func176, Tryz.ntmps176
  go_wp2
  go_loopg [8, 12] n (fun gz s8 s12 wr => ∃ k v : Nat, k ≤ n ∧ n - k ≤ gz ∧ v ≤ 1000 ∧ s12 = .int .i64 (k : Int) ∧ s8 = .int .i64 (v : Int) ∧ CT.goN l 0 = CT.goN (l.drop k) v ∧ wr = w)
  case atStart => exact ⟨0, 0, Nat.zero_le _, by omega, by omega, rfl, rfl, rfl, rfl⟩
  case round =>
    obtain ⟨k, v, hk, hg, hv, rfl, rfl, hgo, rfl⟩ := hrel
    have HG := Lib.hid hgo
    clear hgo
    by_cases hlt : k < n
    · have d9 : decide ((k : Int) < (n : Int)) = true := decide_eq_true (by omega)
      obtain ⟨z8, hz8⟩ : ∃ z, l[k]? = some z := ⟨_, List.getElem?_eq_getElem (by rw [HN.out]; exact hlt)⟩
      have g0 := getB hz8
      have hst := drop_step l hz8
      have hG2 := HG.out
      rw [hst] at hG2
      unfold CT.goN at hG2
      obtain ⟨z, hz⟩ : ∃ z, z8.toNat = z := ⟨_, rfl⟩
      have hz2 : z < 256 := by have := z8.toNat_lt; omega
      rw [hz] at hG2
      by_cases hd : 48 ≤ z ∧ z ≤ 57
      · have hdc : isD z8 = true := by unfold isD; rw [hz]; simp; omega
        rw [if_pos hdc] at hG2
        have d0 : decide ((z : Int) < 48) = false := decide_eq_false (by omega)
        have d1 : decide ((57 : Int) < (z : Int)) = false := decide_eq_false (by omega)
        have hz3 : ((z8.toNat : Nat) : Int) = (z : Int) := by omega
        by_cases hbig : 1000 < 10 * v + (z - 48)
        · rw [if_pos hbig] at hG2
          have d2 : decide ((1000 : Int) < 10 * (v : Int) + ((z : Int) - 48)) = true := decide_eq_true (by omega)
          have hr : p = (0, false) := by
            rw [← HP.out]; unfold CT.numb
            have q : CT.goN l 0 = none := by
              have := HG.out
              rw [this, hst]; unfold CT.goN; rw [if_pos hdc, hz, if_pos hbig]
            rw [q]
          subst hr
          clear hG2 hbig hst HG HP hz8 hz hdc
          go_wp2
          go_ret2
          exact ⟨rfl, rfl⟩
        · rw [if_neg hbig] at hG2
          have d2 : decide ((1000 : Int) < 10 * (v : Int) + ((z : Int) - 48)) = false := decide_eq_false (by omega)
          have HG3 : Hid (CT.goN l 0 = CT.goN (l.drop (k + 1)) (10 * v + (z - 48))) := Lib.hid (by
            have := HG.out
            rw [hst] at this
            unfold CT.goN at this
            rw [if_pos hdc, hz, if_neg hbig] at this
            cases l with
            | nil => simp at hz8
            | cons a r => exact this)
          clear hG2 hst HG hz8 hz hdc
          go_wp2
          go_roundg (n - (k + 1))
          case measure => omega
          case rel => exact ⟨k + 1, 10 * v + (z - 48), by omega, by omega, by omega, by go_num, by go_num, HG3.out, rfl⟩
      · have hdc : isD z8 = false := by unfold isD; rw [hz]; simp; omega
        have hr : p = (0, false) := by
          rw [← HP.out]; unfold CT.numb
          have q : CT.goN l 0 = none := by
            have := HG.out
            rw [this, hst]; unfold CT.goN; rw [if_neg (by rw [hdc]; simp)]
          rw [q]
        subst hr
        have hz3 : ((z8.toNat : Nat) : Int) = (z : Int) := by omega
        rcases Nat.lt_or_ge z 48 with h1 | h1
        · have d0 : decide ((z : Int) < 48) = true := decide_eq_true (by omega)
          clear hG2 hst HG HP hz8 hz hdc hd
          go_wp2
          go_ret2
          exact ⟨rfl, rfl⟩
        · have d0 : decide ((z : Int) < 48) = false := decide_eq_false (by omega)
          have d1 : decide ((57 : Int) < (z : Int)) = true := decide_eq_true (by omega)
          clear hG2 hst HG HP hz8 hz hdc hd
          go_wp2
          go_ret2
          exact ⟨rfl, rfl⟩
    · obtain rfl : k = n := by omega
      have d9 : decide ((k : Int) < (k : Int)) = false := decide_eq_false (by omega)
      have hdr : l.drop k = [] := List.drop_eq_nil_of_le (by rw [HN.out]; exact Nat.le_refl _)
      have hp := HP.out
      unfold CT.numb at hp
      rw [HG.out, hdr] at hp
      simp only [CT.goN] at hp
      rw [HN.out] at hp
      subst hp
      clear HG HP hdr
      have e1 : ((k : Int) == (c : Int)) = decide (k = c) := by
        by_cases h : k = c
        · subst h; simp
        · rw [decide_eq_false h]; simp; omega
      have e2 : decide ((v : Int) < (lim : Int)) = decide (v < lim) := by
        by_cases h : v < lim
        · rw [decide_eq_true h, decide_eq_true (by omega)]
        · rw [decide_eq_false h, decide_eq_false (by omega)]
      obtain ⟨b1, hb1⟩ : ∃ b, decide (k = c) = b := ⟨_, rfl⟩
      obtain ⟨b2, hb2⟩ : ∃ b, decide (v < lim) = b := ⟨_, rfl⟩
      rw [hb1] at e1
      rw [hb2] at e2
      have HB := Lib.hid (show (decide (k = c) && decide (v < lim)) = (b1 && b2) by rw [hb1, hb2])
      clear hb1
      cases b1 <;> cases b2
      all_goals
        go_wp2
        go_ret2
        refine ⟨?_, rfl⟩
        have hq := HB.out
        first | (rw [hq]; rfl) | (simp_all; done)
end Go.Proofs.YtbpnacacnncopaaGreatDoor
namespace Go.Proofs.YtbpnacacnncopaaGreatDoor.LB
def w64 (x : Int) : Int := (x + 9223372036854775808) % 18446744073709551616 - 9223372036854775808
/-- one round of the reader's loop: n << 8 | c -/
def stp (n c : Int) : Int := w64 (n * 256) + c
abbrev Bs := List UInt8
structure Rec where
  kind : Int
  at0 : Int
  at1 : Int
  p0 : Int
  p1 : Int
  p2 : Int
  p3 : Int
  m0 : Int
  m1 : Int
  m2 : Int
  m3 : Int
  body : Bs
  limb : Int
  sa0 : Int
  sa1 : Int
  hs : Int
  within : Int
  horizon : Int
  eye : Int
  shore : Int
  temp : Int
  pres : Int
  list : List Int
  text : Bs
deriving DecidableEq
def Rec.zero : Rec := ⟨0, 0, 0, 0, 0, 0, 0, 0, 0, 0, 0, [], 0, 0, 0, 0, 0, 0, 0, 0, 0, 0, [], []⟩
def b8 (n : Int) : UInt8 := UInt8.ofNat (n % 256).toNat
def num (n : Int) : Bs := [b8 (n / 72057594037927936), b8 (n / 281474976710656), b8 (n / 1099511627776), b8 (n / 4294967296), b8 (n / 16777216), b8 (n / 65536), b8 (n / 256), b8 n]
def nums : List Int → Bs
  | [] => []
  | n :: l => num n ++ nums l
def un (l : Bs) : Int := l.foldl (fun n c => stp n (c.toNat : Int)) 0
/-- a length of two bytes -/
def siz (n : Nat) : Bs := [b8 ((n : Int) / 256), b8 (n : Int)]
def str (s : Bs) : Bs := siz s.length ++ s
def sightL (r : Rec) : List Int := [r.limb, r.sa0, r.sa1, r.hs, r.within, r.horizon, r.eye, r.shore, r.temp, r.pres]
def enc (r : Rec) : Bs :=
  b8 r.kind :: (if r.kind = 3 then str r.body ++ nums (sightL r)
  else nums [r.at0, r.at1] ++ ((if r.kind = 1 ∨ r.kind = 4 then nums [r.p0, r.p1, r.p2, r.p3] else if r.kind = 2 then nums [r.m0, r.m1, r.m2, r.m3] else if r.kind = 5 then str r.text else []) ++
    (if r.kind = 4 then siz r.list.length ++ nums r.list else [])))
/-- the reader: what is left, and whether something was wrong -/
abbrev St := Bs × Bool
def take (n : Nat) (s : St) : Bs × St := if s.2 = true ∨ s.1.length < n then ([], (s.1, true)) else (s.1.take n, (s.1.drop n, s.2))
def one (s : St) : Int × St := (un (take 8 s).1, (take 8 s).2)
def ints : Nat → St → List Int × St
  | 0, s => ([], s)
  | k + 1, s => ((one s).1 :: (ints k (one s).2).1, (ints k (one s).2).2)
def size (s : St) : Nat × St := match take 2 s with
  | ([a, b], s') => (a.toNat * 256 + b.toNat, s')
  | (_, s') => (0, s')
def text (s : St) : Bs × St := take (size s).1 (size s).2
/-- the list of a fix: the loop stops where something is wrong -/
def loop : Nat → St → List Int × St
  | 0, s => ([], s)
  | k + 1, s => if (one s).2.2 = true then ([], (one s).2) else ((one s).1 :: (loop k (one s).2).1, (loop k (one s).2).2)
def at' (l : List Int) (i : Nat) : Int := l.getD i 0
def body (kind : Int) (s0 : St) : Rec × St :=
  if kind = 3 then
    let b := text s0
    let n := ints 10 b.2
    ({ Rec.zero with kind := 3, body := b.1, limb := at' n.1 0, sa0 := at' n.1 1, sa1 := at' n.1 2, hs := at' n.1 3, within := at' n.1 4, horizon := at' n.1 5, eye := at' n.1 6, shore := at' n.1 7, temp := at' n.1 8, pres := at' n.1 9 }, n.2)
  else
    let t := ints 2 s0
    let x := { Rec.zero with kind := kind, at0 := at' t.1 0, at1 := at' t.1 1 }
    if kind = 1 then
      let p := ints 4 t.2
      ({ x with p0 := at' p.1 0, p1 := at' p.1 1, p2 := at' p.1 2, p3 := at' p.1 3 }, p.2)
    else if kind = 2 then
      let p := ints 4 t.2
      ({ x with m0 := at' p.1 0, m1 := at' p.1 1, m2 := at' p.1 2, m3 := at' p.1 3 }, p.2)
    else if kind = 5 then
      let b := text t.2
      ({ x with text := b.1 }, b.2)
    else
      let p := ints 4 t.2
      let n := size p.2
      let l := loop n.1 n.2
      ({ x with p0 := at' p.1 0, p1 := at' p.1 1, p2 := at' p.1 2, p3 := at' p.1 3, list := l.1 }, l.2)
end Go.Proofs.YtbpnacacnncopaaGreatDoor.LB
namespace Go.Proofs.YtbpnacacnncopaaGreatDoor
open Go.RowKit
open LB (Bs Rec)
/-- a text of these bytes -/
abbrev txb (l : Bs) : Value := .string ⟨l.toArray⟩
abbrev tiv (a b : Int) : Value := .agg #[.int .i64 a, .int .i64 b]
abbrev sgv (x : Bs) (a b c d e f g h i j : Int) : Value := .agg #[txb x, .int .i64 a, .int .i64 b, .int .i64 c, .int .i64 d, .int .i64 e, .int .i64 f, .int .i64 g, .int .i64 h, .int .i64 i, .int .i64 j]
theorem eqInTime (d : Nat) (x y x' y' : Int) (w : World) : (Op.equalIn (d + 1 + 1) 23 (tiv x y) (tiv x' y')).run Tryz.prog w = .ok (decide (x = x' ∧ y = y')) w := by
  have u3 := Tryz.underlying3
  have hS : Tryz.prog.underlying 23 = some (.struct (Tryz.prog.fieldsOf 23)) := by kernel_rfl
  have hp : Tryz.prog.stoodInHeld 23 = false := by kernel_rfl
  have a3 := Tryz.isAgg3
  have z3 := Tryz.sizeOf3
  rw [run_equalIn_agg w (d + 1) 23 _ _ hS hp]
  simp only [Program.fieldsOf, Tryz.underlying23]
  go_simp
  by_cases h1 : x = x' <;> by_cases h2 : y = y' <;> simp [h1, h2]
theorem eqInArc (d : Nat) (x y x' y' : Int) (w : World) : (Op.equalIn (d + 1 + 1) 41 (tiv x y) (tiv x' y')).run Tryz.prog w = .ok (decide (x = x' ∧ y = y')) w := by
  have u3 := Tryz.underlying3
  have hS : Tryz.prog.underlying 41 = some (.struct (Tryz.prog.fieldsOf 41)) := by kernel_rfl
  have hp : Tryz.prog.stoodInHeld 41 = false := by kernel_rfl
  have a3 := Tryz.isAgg3
  have z3 := Tryz.sizeOf3
  rw [run_equalIn_agg w (d + 1) 41 _ _ hS hp]
  simp only [Program.fieldsOf, Tryz.underlying41]
  go_simp
  by_cases h1 : x = x' <;> by_cases h2 : y = y' <;> simp [h1, h2]
def sgE (x : Bs) (a b c d e f g h i j : Int) (x' : Bs) (a' b' c' d' e' f' g' h' i' j' : Int) : Bool := decide (x = x' ∧ a = a' ∧ b = b' ∧ c = c' ∧ d = d' ∧ e = e' ∧ f = f' ∧ g = g' ∧ h = h' ∧ i = i' ∧ j = j')
set_option maxHeartbeats 4000000 in
theorem eqInSight (x : Bs) (a b c d e f g h i j : Int) (x' : Bs) (a' b' c' d' e' f' g' h' i' j' : Int) (w : World) :
    (Op.equalIn 10000 25 (sgv x a b c d e f g h i j) (sgv x' a' b' c' d' e' f' g' h' i' j')).run Tryz.prog w = .ok (sgE x a b c d e f g h i j x' a' b' c' d' e' f' g' h' i' j') w := by
  have hS : Tryz.prog.underlying 25 = some (.struct (Tryz.prog.fieldsOf 25)) := by kernel_rfl
  have hp : Tryz.prog.stoodInHeld 25 = false := by kernel_rfl
  have a1 := Tryz.isAgg23
  have z1 := Tryz.sizeOf23
  have u3 := Tryz.underlying3
  have a3 := Tryz.isAgg3
  have z3 := Tryz.sizeOf3
  have u4 := Tryz.underlying9
  have a4 := Tryz.isAgg9
  have z4 := Tryz.sizeOf9
  have hA := fun (x y x' y' : Int) (w : World) => eqInTime 9997 x y x' y' w
  rw [show (10000 : Nat) = 9999 + 1 from rfl, run_equalIn_agg w 9999 25 _ _ hS hp]
  simp only [Program.fieldsOf, Tryz.underlying25]
  simp only [Nat.reduceAdd] at hA
  go_simp
  unfold sgE
  by_cases h1 : x = x'
  · by_cases h2 : a = a'
    · by_cases h3 : b = b' ∧ c = c'
      · by_cases h4 : d = d'
        · by_cases h5 : e = e'
          · by_cases h6 : f = f'
            · by_cases h7 : g = g'
              · by_cases h8 : h = h'
                · by_cases h9 : i = i' <;> by_cases h10 : j = j' <;> simp [h1, h2, h3, h4, h5, h6, h7, h8, h9, h10]
                · simp [h1, h2, h3, h4, h5, h6, h7, h8]
              · simp [h1, h2, h3, h4, h5, h6, h7]
            · simp [h1, h2, h3, h4, h5, h6]
          · simp [h1, h2, h3, h4, h5]
        · simp [h1, h2, h3, h4]
      · have : ∀ p : Prop, ¬ (b = b' ∧ c = c' ∧ p) := fun p ⟨q, r, _⟩ => h3 ⟨q, r⟩
        simp [h1, h2, h3, this]
    · simp [h1, h2]
  · simp [h1]
end Go.Proofs.YtbpnacacnncopaaGreatDoor
namespace Go.Proofs.YtbpnacacnncopaaGreatDoor
open Go.RowKit
open LB (Bs Rec)
theorem ret_boo {a b : Bool} (h : a = b) : Ending.returned (.bool a) = .returned (.bool b) := by rw [h]
def insB (n : Int) : Bool := decide (-70368744177664 ≤ n ∧ n ≤ 70368744177664)
theorem instant_any (n : Int) (w : World) : Calls Tryz.prog 91 #[.int .i64 n] w fun e w' => e = .returned (.bool (insB n)) ∧ w' = w := by
  unfold insB
  go_enter Tryz.func91, Tryz.ntmps91
  go_wp2
  all_goals
    go_ret
    exact ⟨ret_boo (by first | rfl | (simp_all; done) | (simp_all; omega)), rfl⟩
def clkB (a b : Int) : Bool := decide (a ≤ b) && insB a && insB b
set_option maxHeartbeats 400000 in
theorem clock_any (lo hi : Int) (w : World) : Calls Tryz.prog 49 #[tiv lo hi] w fun e w' => e = .returned (.bool (clkB lo hi)) ∧ Below w.heap.size w w' := by
  have KL := Lib.hid (fun W => instant_any lo W)
  have KH := Lib.hid (fun W => instant_any hi W)
  unfold clkB
  generalize insB lo = s at *
  generalize insB hi = t at *
  by_cases h : lo ≤ hi
  · have d : decide (lo ≤ hi) = true := decide_eq_true h
    rw [d]
    cases s
    · go_enter Tryz.func49, Tryz.ntmps49
      go_wp2_with (go_at_call 91; (with_reducible refine (KL.out _).mono ?_); rintro e w9 ⟨rfl, rfl⟩)
      go_ret
      refine ⟨rfl, ?_⟩
      repeat (first | exact Below.refl _ _ | assumption | refine bl_drew ?_ | refine bl_drewN ?_ _ | refine Below.setCell ?_ (by first | assumption | omega | (simp; done) | (simp; omega)) _ | refine Below.alloc ?_ (by first | assumption | omega | (simp; done) | (simp; omega)) _)
    · cases t
      all_goals
        go_enter Tryz.func49, Tryz.ntmps49
        go_wp2_with (go_at_call 91; (first | (with_reducible refine (KL.out _).mono ?_) | (with_reducible refine (KH.out _).mono ?_)); rintro e w9 ⟨rfl, rfl⟩)
        go_ret
        refine ⟨rfl, ?_⟩
        repeat (first | exact Below.refl _ _ | assumption | refine bl_drew ?_ | refine bl_drewN ?_ _ | refine Below.setCell ?_ (by first | assumption | omega | (simp; done) | (simp; omega)) _ | refine Below.alloc ?_ (by first | assumption | omega | (simp; done) | (simp; omega)) _)
  · have d : decide (lo ≤ hi) = false := decide_eq_false h
    rw [d]
    go_enter Tryz.func49, Tryz.ntmps49
    go_wp2
    go_ret
    refine ⟨rfl, ?_⟩
    repeat (first | exact Below.refl _ _ | assumption | refine bl_drew ?_ | refine bl_drewN ?_ _ | refine Below.setCell ?_ (by first | assumption | omega | (simp; done) | (simp; omega)) _ | refine Below.alloc ?_ (by first | assumption | omega | (simp; done) | (simp; omega)) _)
/-- a world that left what was there alone -/
structure BVl (w0 : World) where
  w : World
  hb : Below w0.heap.size w0 w
instance bvlSome (w0 : World) : Nonempty (BVl w0) := ⟨⟨w0, Below.refl _ _⟩⟩
end Go.Proofs.YtbpnacacnncopaaGreatDoor
namespace Go.Proofs.YtbpnacacnncopaaGreatDoor
open Go.RowKit Go.Shelf Frm
open Lib (decDigits)
theorem goN_le : ∀ (l : Bs) (n k : Nat), n ≤ 1000 → CT.goN l n = some k → k ≤ 1000
  | [], n, k, h, e => by unfold CT.goN at e; injection e with e; omega
  | c :: l, n, k, h, e => by
    unfold CT.goN at e
    split at e
    · split at e
      · cases e
      · exact goN_le l _ k (by omega) e
    · cases e
theorem numb_le (l : Bs) (c lim : Nat) : (CT.numb l c lim).1 ≤ 1000 := by
  unfold CT.numb
  cases h : CT.goN l 0 with
  | none => simp
  | some k => exact goN_le l 0 k (by omega) h
theorem cut_true {s a r : Bs} {x : UInt8} (h : Lib.cut s [x] = (a, r, true)) : s = a ++ x :: r := by
  by_cases hx : x ∈ s
  · obtain ⟨D, R, rfl, hD⟩ : ∃ D R, s = D ++ x :: R ∧ x ∉ D := by
      clear h
      induction s with
      | nil => simp at hx
      | cons c t iht =>
        by_cases hc : c = x
        · exact ⟨[], t, by rw [hc]; rfl, by simp⟩
        · rcases List.mem_cons.1 hx with e | e
          · exact absurd e.symm hc
          · obtain ⟨D, R, rfl, hD⟩ := iht e
            exact ⟨c :: D, R, rfl, fun e => by rcases List.mem_cons.1 e with e | e; exact hc e.symm; exact hD e⟩
    rw [cut_one (fun c hc (e : c = x) => hD (e ▸ hc))] at h
    cases h
    rfl
  · have : Lib.cut s [x] = (s, [], false) := by unfold Lib.cut; rw [SW.index_none x _ hx]; rfl
    rw [this] at h
    cases h
theorem splitk_any (s : Bs) (w : World) (hl : s.length ≤ 1000000) (he : En w) :
    Calls Tryz.prog 36 #[tx s, .string ⟨#[58]⟩] w fun e w' => e = .returned (.slice (some ⟨w.heap.size, 0, none⟩) (SW.wrd 58 s).length (SW.wrd 58 s).length) ∧ w' = w.alloc (.cells ((SW.wrd 58 s).map tx).toArray 9) := split_any s 58 w hl he
theorem wrd_len (x : UInt8) (s : Bs) : ∀ z ∈ SW.wrd x s, z.length ≤ s.length := by
  have key : ∀ (L : List Bs), ∀ z ∈ L, z.length ≤ (SW.jn x L).length := by
    intro L
    induction L with
    | nil => intro z hz; simp at hz
    | cons a L ih =>
      intro z hz
      cases L with
      | nil => simp at hz; subst hz; exact Nat.le_refl _
      | cons b L =>
        rw [SW.jn_cons x a (by simp)]
        rcases List.mem_cons.1 hz with rfl | hz
        · simp
        · have := ih z hz
          simp
          omega
  intro z hz
  have := key _ z hz
  rwa [SW.jn_wrd] at this
theorem clockV_no {a p : Bs} {has : Bool} (h : ¬ (SW.wrd 58 a).length = 3) : CT.clockV a p has = (0, false) := by
  unfold CT.clockV
  split
  · rename_i x y z he
    rw [he] at h
    exact absurd rfl h
  · rfl
theorem clockV_yes {a p x y z : Bs} {has : Bool} (h : SW.wrd 58 a = [x, y, z]) : CT.clockV a p has = ((((CT.numb x 2 24).1 * 60 + (CT.numb y 2 60).1) * 60 + (CT.numb z 2 60).1) * 1000 + (if has = true then (CT.numb p 3 1000).1 else 0),
      (CT.numb x 2 24).2 && (CT.numb y 2 60).2 && (CT.numb z 2 60).2 && (if has = true then (CT.numb p 3 1000).2 && decide (0 < (CT.numb p 3 1000).1) else true)) := by
  unfold CT.clockV
  rw [h]
set_option maxHeartbeats 4000000 in
set_option maxRecDepth 100000 in
theorem clockC_any (s : Bs) (w : World) (hl : s.length ≤ 1000) (he : En w) :
    Calls Tryz.prog 124 #[tx s] w fun e w' => e = .returned (.tuple #[.int .i64 ((CT.clockP s).1 : Nat), .bool (CT.clockP s).2]) ∧ Below w.heap.size w w' := by
  have K0 := cutx_any s 46 w (by omega) he
  have hcl := cut_len s [46]
  unfold CT.clockP
  obtain ⟨⟨a, p, has⟩, hc⟩ : ∃ z, Lib.cut s [46] = z := ⟨_, rfl⟩
  rw [hc] at K0 hcl ⊢
  simp only [] at K0 hcl ⊢
  have KC := Lib.hid K0
  have KS := Lib.hid (fun (W : World) (h : En W) => splitk_any a W (by omega) h)
  have hwl := wrd_len 58 a
  have cno := clockV_no (a := a) (p := p) (has := has)
  have cyes := fun x y z => clockV_yes (a := a) (p := p) (x := x) (y := y) (z := z) (has := has)
  obtain ⟨V, hV⟩ : ∃ V, CT.clockV a p has = V := ⟨_, rfl⟩
  obtain ⟨L, hL⟩ : ∃ L, SW.wrd 58 a = L := ⟨_, rfl⟩
  rw [hL, hV] at cno
  simp only [hL, hV] at cyes
  rw [hL] at KS hwl
  rw [hV]
  have HE := Lib.hid he
  clear K0 hc hL he hV
  by_cases h3 : L.length = 3
  case neg =>
    obtain ⟨m, hm⟩ : ∃ m, L.length = m := ⟨_, rfl⟩
    have d0 : ((m : Int) != 3) = true := by simp; omega
    obtain rfl := cno h3
    rw [hm] at KS
    clear h3 hm hwl hcl cno cyes
    go_enter Tryz.func124, Tryz.ntmps124
    go_wp2_with fail
    (with_reducible refine (KC.out).mono ?_)
    rintro e w1 ⟨rfl, hb⟩
    have E1 := Lib.hid (HE.out.bl hb)
    have b1 := Lib.hid hb
    clear hb
    go_wp2_with fail
    (with_reducible refine (KS.out _ E1.out).mono ?_)
    rintro e w2 ⟨rfl, rfl⟩
    go_wp2
    go_ret2
    exact ⟨rfl, b1.out.trans ((bl_alloc w1 _).mono b1.out.size)⟩
  case pos =>
    obtain ⟨x, y, z, rfl⟩ : ∃ x y z, L = [x, y, z] := by
      match L, h3 with
      | [x, y, z], _ => exact ⟨x, y, z, rfl⟩
    have lx := hwl x (by simp)
    have ly := hwl y (by simp)
    have lz := hwl z (by simp)
    have K1 := Lib.hid (fun (W : World) => numB_any x 2 24 W (by omega) (by omega) (by omega))
    have K2 := Lib.hid (fun (W : World) => numB_any y 2 60 W (by omega) (by omega) (by omega))
    have K3 := Lib.hid (fun (W : World) => numB_any z 2 60 W (by omega) (by omega) (by omega))
    have K4 := Lib.hid (fun (W : World) => numB_any p 3 1000 W (by omega) (by omega) (by omega))
    have n1 := numb_le x 2 24
    have n2 := numb_le y 2 60
    have n3 := numb_le z 2 60
    have n4 := numb_le p 3 1000
    have hcy := cyes x y z rfl
    clear cno cyes
    obtain ⟨⟨v1, b1⟩, e1⟩ : ∃ q, CT.numb x 2 24 = q := ⟨_, rfl⟩
    obtain ⟨⟨v2, b2⟩, e2⟩ : ∃ q, CT.numb y 2 60 = q := ⟨_, rfl⟩
    obtain ⟨⟨v3, b3⟩, e3⟩ : ∃ q, CT.numb z 2 60 = q := ⟨_, rfl⟩
    obtain ⟨⟨v4, b4⟩, e4⟩ : ∃ q, CT.numb p 3 1000 = q := ⟨_, rfl⟩
    rw [e1] at K1 n1 hcy
    rw [e2] at K2 n2 hcy
    rw [e3] at K3 n3 hcy
    rw [e4] at K4 n4 hcy
    simp only [] at K1 K2 K3 K4 n1 n2 n3 n4 hcy
    subst hcy
    clear e1 e2 e3 e4 lx ly lz hwl h3 hcl
    change Hid (∀ W, Calls Tryz.prog 176 #[tx x, .int .i64 2, .int .i64 24] W _) at K1
    change Hid (∀ W, Calls Tryz.prog 176 #[tx y, .int .i64 2, .int .i64 60] W _) at K2
    change Hid (∀ W, Calls Tryz.prog 176 #[tx z, .int .i64 2, .int .i64 60] W _) at K3
    change Hid (∀ W, Calls Tryz.prog 176 #[tx p, .int .i64 3, .int .i64 1000] W _) at K4
    go_enter Tryz.func124, Tryz.ntmps124
    go_wp2_with fail
    (with_reducible refine (KC.out).mono ?_)
    rintro e w1 ⟨rfl, hb⟩
    have E1 := Lib.hid (HE.out.bl hb)
    have b01 := Lib.hid hb
    clear hb
    have S2 := Lib.hid (Blk.new w1 9 #[tx x, tx y, tx z])
    have b02 := Lib.hid (b01.out.trans ((bl_alloc w1 (.cells #[tx x, tx y, tx z] 9)).mono b01.out.size))
    go_wp2_with fail
    (with_reducible refine (KS.out _ E1.out).mono ?_)
    rintro e w2 ⟨rfl, rfl⟩
    simp only [List.map_cons, List.map_nil]
    generalize w1.alloc (.cells #[tx x, tx y, tx z] 9) = w2 at *
    clear KC KS HE E1 b01
    have y0 : ∀ i, w2.cell? ⟨w1.heap.size, i, none⟩ = (#[tx x, tx y, tx z] : Array Value)[i]? := fun i => S2.out.cell i
    go_wp2_with fail
    (with_reducible refine (K1.out _).mono ?_)
    rintro e w3 ⟨rfl, rfl⟩
    go_wp2_with fail
    (with_reducible refine (K2.out _).mono ?_)
    rintro e w4 ⟨rfl, rfl⟩
    go_wp2_with fail
    (with_reducible refine (K3.out _).mono ?_)
    rintro e w5 ⟨rfl, rfl⟩
    clear K1 K2 K3
    cases has with
    | false =>
      simp only [Bool.false_eq_true, if_false, Nat.add_zero, Bool.and_true]
      generalize hN : ((v1 * 60 + v2) * 60 + v3) * 1000 = N
      have HN := Lib.hid hN
      clear hN
      cases b1 with
      | false =>
        go_wp2
        go_ret2
        refine ⟨?_, b02.out⟩
        have hq := HN.out
        exact congrArg (fun v : Int => Ending.returned (.tuple #[.int .i64 v, .bool false])) (by omega)
      | true =>
        cases b2 with
        | false =>
          go_wp2
          go_ret2
          refine ⟨?_, b02.out⟩
          have hq := HN.out
          exact congrArg (fun v : Int => Ending.returned (.tuple #[.int .i64 v, .bool false])) (by omega)
        | true =>
          cases b3 with
          | false =>
            go_wp2
            go_ret2
            refine ⟨?_, b02.out⟩
            have hq := HN.out
            exact congrArg (fun v : Int => Ending.returned (.tuple #[.int .i64 v, .bool false])) (by omega)
          | true =>
            go_wp2
            go_ret2
            refine ⟨?_, b02.out⟩
            have hq := HN.out
            exact congrArg (fun v : Int => Ending.returned (.tuple #[.int .i64 v, .bool true])) (by omega)
    | true =>
      simp only [if_true]
      generalize hN : ((v1 * 60 + v2) * 60 + v3) * 1000 + v4 = N
      have HN := Lib.hid hN
      clear hN
      go_wp2_with fail
      (with_reducible refine (K4.out _).mono ?_)
      rintro e w6 ⟨rfl, rfl⟩
      clear K4
      cases b1 with
      | false =>
        cases b4 with
        | false =>
          go_wp2
          go_ret2
          refine ⟨?_, b02.out⟩
          have hq := HN.out
          exact congrArg (fun v : Int => Ending.returned (.tuple #[.int .i64 v, .bool false])) (by omega)
        | true =>
          by_cases h0 : 0 < v4
          · have dd : decide (0 < v4) = true := decide_eq_true h0
            go_wp2
            go_ret2
            refine ⟨?_, b02.out⟩
            have hq := HN.out
            exact congrArg (fun v : Int => Ending.returned (.tuple #[.int .i64 v, .bool false])) (by omega)
          · have dd : decide (0 < v4) = false := decide_eq_false h0
            go_wp2
            go_ret2
            refine ⟨?_, b02.out⟩
            have hq := HN.out
            exact congrArg (fun v : Int => Ending.returned (.tuple #[.int .i64 v, .bool false])) (by omega)
      | true =>
        cases b2 with
        | false =>
          cases b4 with
          | false =>
            go_wp2
            go_ret2
            refine ⟨?_, b02.out⟩
            have hq := HN.out
            exact congrArg (fun v : Int => Ending.returned (.tuple #[.int .i64 v, .bool false])) (by omega)
          | true =>
            by_cases h0 : 0 < v4
            · have dd : decide (0 < v4) = true := decide_eq_true h0
              go_wp2
              go_ret2
              refine ⟨?_, b02.out⟩
              have hq := HN.out
              exact congrArg (fun v : Int => Ending.returned (.tuple #[.int .i64 v, .bool false])) (by omega)
            · have dd : decide (0 < v4) = false := decide_eq_false h0
              go_wp2
              go_ret2
              refine ⟨?_, b02.out⟩
              have hq := HN.out
              exact congrArg (fun v : Int => Ending.returned (.tuple #[.int .i64 v, .bool false])) (by omega)
        | true =>
          cases b3 with
          | false =>
            cases b4 with
            | false =>
              go_wp2
              go_ret2
              refine ⟨?_, b02.out⟩
              have hq := HN.out
              exact congrArg (fun v : Int => Ending.returned (.tuple #[.int .i64 v, .bool false])) (by omega)
            | true =>
              by_cases h0 : 0 < v4
              · have dd : decide (0 < v4) = true := decide_eq_true h0
                go_wp2
                go_ret2
                refine ⟨?_, b02.out⟩
                have hq := HN.out
                exact congrArg (fun v : Int => Ending.returned (.tuple #[.int .i64 v, .bool false])) (by omega)
              · have dd : decide (0 < v4) = false := decide_eq_false h0
                go_wp2
                go_ret2
                refine ⟨?_, b02.out⟩
                have hq := HN.out
                exact congrArg (fun v : Int => Ending.returned (.tuple #[.int .i64 v, .bool false])) (by omega)
          | true =>
            cases b4 with
            | false =>
              go_wp2
              go_ret2
              refine ⟨?_, b02.out⟩
              have hq := HN.out
              exact congrArg (fun v : Int => Ending.returned (.tuple #[.int .i64 v, .bool false])) (by omega)
            | true =>
              by_cases h0 : 0 < v4
              · have dd : decide (0 < v4) = true := decide_eq_true h0
                go_wp2
                go_ret2
                refine ⟨?_, b02.out⟩
                have hq := HN.out
                exact congrArg (fun v : Int => Ending.returned (.tuple #[.int .i64 v, .bool true])) (by omega)
              · have dd : decide (0 < v4) = false := decide_eq_false h0
                go_wp2
                go_ret2
                refine ⟨?_, b02.out⟩
                have hq := HN.out
                exact congrArg (fun v : Int => Ending.returned (.tuple #[.int .i64 v, .bool false])) (by omega)
end Go.Proofs.YtbpnacacnncopaaGreatDoor
namespace Go.Proofs.YtbpnacacnncopaaGreatDoor
open Go.RowKit Go.Shelf Frm
theorem strOf (l : Bs) : strOfNums (l.map fun c => (c.toNat : Int)) = ⟨l.toArray⟩ := by
  unfold strOfNums
  congr 2
  rw [List.map_map]
  refine (List.map_congr_left fun c _ => ?_).trans (List.map_id l)
  show UInt8.ofNat ((c.toNat : Int)).toNat = id c
  simp
theorem conv_at {w : World} {b n : Nat} {l : Bs} (hc : ∀ (j : Nat) (x : UInt8), l[j]? = some x → w.cell? ⟨b, 0 + j, none⟩ = some (.int .u8 (x.toNat : Int))) (hn : l.length = n) (c : Nat) : (convert 106 9 (.slice (some ⟨b, 0, none⟩) n c)).run Tryz.prog w = .ok (tx l) w := by
  have := run_convert_bytes_arg (P := Tryz.prog) w 106 5 Tryz.underlying106 Tryz.underlying5 b 0 n c (l.map fun c => (c.toNat : Int)) (by simpa using hn) (fun i hi => by
    have hi' : i < l.length := by omega
    rw [hc i l[i] (List.getElem?_eq_getElem hi')]
    simp [List.getD_eq_getElem?_getD, List.getElem?_eq_getElem hi']) 9 Tryz.underlying9
  rw [this, strOf]
theorem infoU8c : (Tryz.prog.info? 5).map (fun i => (i.zero, i.size, i.bytes)) = some (some (.int .u8 0), 1, 1) := by kernel_rfl
theorem make_bytes (n : Nat) (hn : n ≤ 1000) (W : World) : (Instr.makeSlice 106 (.int .i64 (n : Int)) (.int .i64 (n : Int))).run Tryz.prog W = .ok (.slice (some ⟨W.heap.size, 0, none⟩) n n) (W.alloc (.cells (madeCells #[.int .u8 0] n) 5)) := by
  obtain ⟨iI, hiI, hzI, hz1I, hzbI⟩ := info_parts infoU8c
  have h := run_make (P := Tryz.prog) W 106 5 iI _ Tryz.underlying106 hiI hzI .i64 .i64 n n (by omega) (Int.le_refl _) (by rw [hzbI]; omega) (by omega)
  rw [hz1I, Int.toNat_natCast, Nat.mul_one] at h
  exact h
theorem dB_val {n : Nat} (h : n < 10) : (dB n).toNat = 48 + n := by
  have := isD_dB h
  unfold dB
  simp
  omega
set_option maxHeartbeats 2000000 in
set_option maxRecDepth 100000 in
theorem dig2_any (n : Nat) (w : World) (h : n < 100) : Calls Tryz.prog 66 #[.int .i64 n, .int .i64 2] w fun e w' => e = .returned (tx (dgs n 2)) ∧ Below w.heap.size w w' := by
  obtain ⟨d0, hd0⟩ : ∃ d, n % 10 = d := ⟨_, rfl⟩
  obtain ⟨d1, hd1⟩ : ∃ d, n / 10 % 10 = d := ⟨_, rfl⟩
  obtain ⟨q1, hq1⟩ : ∃ q, n / 10 = q := ⟨_, rfl⟩
  obtain ⟨q2, hq2⟩ : ∃ q, n / 100 = q := ⟨_, rfl⟩
  have l0 : d0 < 10 := by omega
  have l1 : d1 < 10 := by omega
  have hL : dgs n 2 = [dB d1, dB d0] := by
    rw [dgs_step (.inr (by omega)), dgs_step (.inr (by omega))]
    rw [show n / 10 / 10 = 0 by omega, show 2 - 1 - 1 = 0 from rfl, dgs_zero, show n % 10 = d0 by omega, show n / 10 % 10 = d1 by omega]
    rfl
  rw [hL]
  clear hL
  have tq0 : ((n : Nat) : Int).tdiv 10 = (q1 : Int) := by rw [Int.tdiv_eq_ediv_of_nonneg (by omega)]; omega
  have tr0 : ((n : Nat) : Int).tmod 10 = (d0 : Int) := by rw [Int.tmod_eq_emod_of_nonneg (by omega)]; omega
  have bq1 : q1 < 1000 := by omega
  have u0 : some (Value.int .u8 (48 + (d0 : Int))) = some (.int .u8 ((dB d0).toNat : Int)) := by rw [dB_val l0]; rfl
  have tq1 : ((q1 : Nat) : Int).tdiv 10 = (q2 : Int) := by rw [Int.tdiv_eq_ediv_of_nonneg (by omega)]; omega
  have tr1 : ((q1 : Nat) : Int).tmod 10 = (d1 : Int) := by rw [Int.tmod_eq_emod_of_nonneg (by omega)]; omega
  have bq2 : q2 < 1000 := by omega
  have u1 : some (Value.int .u8 (48 + (d1 : Int))) = some (.int .u8 ((dB d1).toNat : Int)) := by rw [dB_val l1]; rfl
  clear hd0 hd1 hq1 hq2
  have hmk : ∀ W, (Instr.makeSlice 106 (.int .i64 2) (.int .i64 2)).run Tryz.prog W = .ok (.slice (some ⟨W.heap.size, 0, none⟩) 2 2) (W.alloc (.cells #[.int .u8 0, .int .u8 0] 5)) := fun W => by
    have h := make_bytes 2 (by omega) W
    rw [show ((2 : Nat) : Int) = 2 from rfl, show madeCells #[Value.int .u8 0] 2 = #[.int .u8 0, .int .u8 0] from Array.ext' (by rw [toList_madeCells_one]; rfl)] at h
    exact h
  have b0 := Lib.hid (bl_alloc w (.cells #[.int .u8 0, .int .u8 0] 5))
  have G0 := Lib.hid (Blk.new w 5 #[.int .u8 0, .int .u8 0])
  go_enter Tryz.func66, Tryz.ntmps66
  go_wp2_with fail
  go_loopw [0, 6] (fun s0 s6 wr => Below w.heap.size w wr ∧ ((s6 = .int .i64 (1) ∧ s0 = .int .i64 (n : Nat) ∧ Blk wr w.heap.size 5 #[.int .u8 0, .int .u8 0]) ∨ (s6 = .int .i64 (0) ∧ s0 = .int .i64 (q1 : Nat) ∧ Blk wr w.heap.size 5 #[.int .u8 0, .int .u8 (48 + (d0 : Int))]) ∨ (s6 = .int .i64 (-1) ∧ s0 = .int .i64 (q2 : Nat) ∧ Blk wr w.heap.size 5 #[.int .u8 (48 + (d1 : Int)), .int .u8 (48 + (d0 : Int))]))) (fun _ s6 _ => (intOf s6 + 1).toNat)
  case atStart => exact ⟨b0.out, .inl ⟨rfl, rfl, G0.out⟩⟩
  case round =>
    obtain ⟨hB, hC⟩ := hrel
    have BB := Lib.hid hB
    clear hB b0 G0
    rcases hC with ⟨rfl, rfl, hG⟩ | ⟨rfl, rfl, hG⟩ | ⟨rfl, rfl, hG⟩
    · have f0 := hG.frozen 1
      have y0 : wr.cell? ⟨w.heap.size, 1, none⟩ = some (.int .u8 0) := hG.cell 1
      have GG := Lib.hid hG
      clear hG
      go_wp2
      go_roundw
      case rel => exact ⟨BB.out.setCell (p := ⟨w.heap.size, 1, none⟩) (Nat.le_refl _) _, .inr (.inl ⟨by go_num, by go_num, GG.out.set_ 1 _⟩)⟩
      case measure => simp [intOf]
    · have f0 := hG.frozen 0
      have y0 : wr.cell? ⟨w.heap.size, 0, none⟩ = some (.int .u8 0) := hG.cell 0
      have GG := Lib.hid hG
      clear hG
      go_wp2
      go_roundw
      case rel => exact ⟨BB.out.setCell (p := ⟨w.heap.size, 0, none⟩) (Nat.le_refl _) _, .inr (.inr (⟨by go_num, by go_num, GG.out.set_ 0 _⟩))⟩
      case measure => simp [intOf]
    · have hcv := conv_at (w := wr) (b := w.heap.size) (n := 2) (l := [dB d1, dB d0]) (fun j x hx => by
        match j, hx with
        | 0, hx => simp at hx; subst hx; exact (hG.cell 0).trans u1
        | 1, hx => simp at hx; subst hx; exact (hG.cell 1).trans u0
        | j + 2, hx => simp at hx) rfl 2
      clear hG
      go_wp2
      go_ret
      exact ⟨rfl, BB.out⟩
set_option maxHeartbeats 2000000 in
set_option maxRecDepth 100000 in
theorem dig3_any (n : Nat) (w : World) (h : n < 1000) : Calls Tryz.prog 66 #[.int .i64 n, .int .i64 3] w fun e w' => e = .returned (tx (dgs n 3)) ∧ Below w.heap.size w w' := by
  obtain ⟨d0, hd0⟩ : ∃ d, n % 10 = d := ⟨_, rfl⟩
  obtain ⟨d1, hd1⟩ : ∃ d, n / 10 % 10 = d := ⟨_, rfl⟩
  obtain ⟨d2, hd2⟩ : ∃ d, n / 100 % 10 = d := ⟨_, rfl⟩
  obtain ⟨q1, hq1⟩ : ∃ q, n / 10 = q := ⟨_, rfl⟩
  obtain ⟨q2, hq2⟩ : ∃ q, n / 100 = q := ⟨_, rfl⟩
  obtain ⟨q3, hq3⟩ : ∃ q, n / 1000 = q := ⟨_, rfl⟩
  have l0 : d0 < 10 := by omega
  have l1 : d1 < 10 := by omega
  have l2 : d2 < 10 := by omega
  have hL : dgs n 3 = [dB d2, dB d1, dB d0] := by
    rw [dgs_step (.inr (by omega)), dgs_step (.inr (by omega)), dgs_step (.inr (by omega))]
    rw [show n / 10 / 10 / 10 = 0 by omega, show 3 - 1 - 1 - 1 = 0 from rfl, dgs_zero, show n % 10 = d0 by omega, show n / 10 % 10 = d1 by omega, show n / 10 / 10 % 10 = d2 by omega]
    rfl
  rw [hL]
  clear hL
  have tq0 : ((n : Nat) : Int).tdiv 10 = (q1 : Int) := by rw [Int.tdiv_eq_ediv_of_nonneg (by omega)]; omega
  have tr0 : ((n : Nat) : Int).tmod 10 = (d0 : Int) := by rw [Int.tmod_eq_emod_of_nonneg (by omega)]; omega
  have bq1 : q1 < 1000 := by omega
  have u0 : some (Value.int .u8 (48 + (d0 : Int))) = some (.int .u8 ((dB d0).toNat : Int)) := by rw [dB_val l0]; rfl
  have tq1 : ((q1 : Nat) : Int).tdiv 10 = (q2 : Int) := by rw [Int.tdiv_eq_ediv_of_nonneg (by omega)]; omega
  have tr1 : ((q1 : Nat) : Int).tmod 10 = (d1 : Int) := by rw [Int.tmod_eq_emod_of_nonneg (by omega)]; omega
  have bq2 : q2 < 1000 := by omega
  have u1 : some (Value.int .u8 (48 + (d1 : Int))) = some (.int .u8 ((dB d1).toNat : Int)) := by rw [dB_val l1]; rfl
  have tq2 : ((q2 : Nat) : Int).tdiv 10 = (q3 : Int) := by rw [Int.tdiv_eq_ediv_of_nonneg (by omega)]; omega
  have tr2 : ((q2 : Nat) : Int).tmod 10 = (d2 : Int) := by rw [Int.tmod_eq_emod_of_nonneg (by omega)]; omega
  have bq3 : q3 < 1000 := by omega
  have u2 : some (Value.int .u8 (48 + (d2 : Int))) = some (.int .u8 ((dB d2).toNat : Int)) := by rw [dB_val l2]; rfl
  clear hd0 hd1 hd2 hq1 hq2 hq3
  have hmk : ∀ W, (Instr.makeSlice 106 (.int .i64 3) (.int .i64 3)).run Tryz.prog W = .ok (.slice (some ⟨W.heap.size, 0, none⟩) 3 3) (W.alloc (.cells #[.int .u8 0, .int .u8 0, .int .u8 0] 5)) := fun W => by
    have h := make_bytes 3 (by omega) W
    rw [show ((3 : Nat) : Int) = 3 from rfl, show madeCells #[Value.int .u8 0] 3 = #[.int .u8 0, .int .u8 0, .int .u8 0] from Array.ext' (by rw [toList_madeCells_one]; rfl)] at h
    exact h
  have b0 := Lib.hid (bl_alloc w (.cells #[.int .u8 0, .int .u8 0, .int .u8 0] 5))
  have G0 := Lib.hid (Blk.new w 5 #[.int .u8 0, .int .u8 0, .int .u8 0])
  go_enter Tryz.func66, Tryz.ntmps66
  go_wp2_with fail
  go_loopw [0, 6] (fun s0 s6 wr => Below w.heap.size w wr ∧ ((s6 = .int .i64 (2) ∧ s0 = .int .i64 (n : Nat) ∧ Blk wr w.heap.size 5 #[.int .u8 0, .int .u8 0, .int .u8 0]) ∨ (s6 = .int .i64 (1) ∧ s0 = .int .i64 (q1 : Nat) ∧ Blk wr w.heap.size 5 #[.int .u8 0, .int .u8 0, .int .u8 (48 + (d0 : Int))]) ∨ (s6 = .int .i64 (0) ∧ s0 = .int .i64 (q2 : Nat) ∧ Blk wr w.heap.size 5 #[.int .u8 0, .int .u8 (48 + (d1 : Int)), .int .u8 (48 + (d0 : Int))]) ∨ (s6 = .int .i64 (-1) ∧ s0 = .int .i64 (q3 : Nat) ∧ Blk wr w.heap.size 5 #[.int .u8 (48 + (d2 : Int)), .int .u8 (48 + (d1 : Int)), .int .u8 (48 + (d0 : Int))]))) (fun _ s6 _ => (intOf s6 + 1).toNat)
  case atStart => exact ⟨b0.out, .inl ⟨rfl, rfl, G0.out⟩⟩
  case round =>
    obtain ⟨hB, hC⟩ := hrel
    have BB := Lib.hid hB
    clear hB b0 G0
    rcases hC with ⟨rfl, rfl, hG⟩ | ⟨rfl, rfl, hG⟩ | ⟨rfl, rfl, hG⟩ | ⟨rfl, rfl, hG⟩
    · have f0 := hG.frozen 2
      have y0 : wr.cell? ⟨w.heap.size, 2, none⟩ = some (.int .u8 0) := hG.cell 2
      have GG := Lib.hid hG
      clear hG
      go_wp2
      go_roundw
      case rel => exact ⟨BB.out.setCell (p := ⟨w.heap.size, 2, none⟩) (Nat.le_refl _) _, .inr (.inl ⟨by go_num, by go_num, GG.out.set_ 2 _⟩)⟩
      case measure => simp [intOf]
    · have f0 := hG.frozen 1
      have y0 : wr.cell? ⟨w.heap.size, 1, none⟩ = some (.int .u8 0) := hG.cell 1
      have GG := Lib.hid hG
      clear hG
      go_wp2
      go_roundw
      case rel => exact ⟨BB.out.setCell (p := ⟨w.heap.size, 1, none⟩) (Nat.le_refl _) _, .inr (.inr (.inl ⟨by go_num, by go_num, GG.out.set_ 1 _⟩))⟩
      case measure => simp [intOf]
    · have f0 := hG.frozen 0
      have y0 : wr.cell? ⟨w.heap.size, 0, none⟩ = some (.int .u8 0) := hG.cell 0
      have GG := Lib.hid hG
      clear hG
      go_wp2
      go_roundw
      case rel => exact ⟨BB.out.setCell (p := ⟨w.heap.size, 0, none⟩) (Nat.le_refl _) _, .inr (.inr (.inr (⟨by go_num, by go_num, GG.out.set_ 0 _⟩)))⟩
      case measure => simp [intOf]
    · have hcv := conv_at (w := wr) (b := w.heap.size) (n := 3) (l := [dB d2, dB d1, dB d0]) (fun j x hx => by
        match j, hx with
        | 0, hx => simp at hx; subst hx; exact (hG.cell 0).trans u2
        | 1, hx => simp at hx; subst hx; exact (hG.cell 1).trans u1
        | 2, hx => simp at hx; subst hx; exact (hG.cell 2).trans u0
        | j + 3, hx => simp at hx) rfl 3
      clear hG
      go_wp2
      go_ret
      exact ⟨rfl, BB.out⟩
end Go.Proofs.YtbpnacacnncopaaGreatDoor
namespace Go.Proofs.YtbpnacacnncopaaGreatDoor
open Go.RowKit
set_option maxHeartbeats 1000000 in
set_option maxRecDepth 100000 in
theorem DateOf1_any (i g : Nat) (n : Int) (w : World) (hi : i ≤ 9998) (hG : Blk w g 3 #[.int .i64 n]) : Calls Tryz.prog 157 #[.int .i64 (i : Int), .pointer (some ⟨g, 0, none⟩)] w fun e w' => e = .returned (.bool (decide (n < CA.bef (2 + i)))) ∧ Below w.heap.size w w' := by
  have KB := Lib.hid (fun W => before_any (2 + i) W (by omega) (by omega))
  generalize CA.bef (2 + i) = B at *
  have y : ∀ s : BQ w, s.w.cell? ⟨g, 0, none⟩ = some (.int .i64 n) := fun s => (hG.below s.hb hG.lt).cell 0
  clear hG
  go_enter Tryz.func157, Tryz.ntmps157
  go_upto_region 1 with fail
  refine wp_region_bq w (by kernel_rfl) (by kernel_rfl) (Below.refl _ _) ?_
  repeat (go_big_quiet_step (first | (go_at_call 155; exact quiet_bq0 (KB.out _)) | fail))
  refine wpQuiet_nil ?_
  intro w9 hb9
  go_wp2
  go_ret
  exact ⟨ret_bo (by first | rfl | (simp; done)), hb9⟩
set_option maxHeartbeats 1000000 in
set_option maxRecDepth 100000 in
theorem Search_year (g : Nat) (n : Int) (w : World) (hG : Blk w g 3 #[.int .i64 n]) (h0 : 0 ≤ n) (h1 : n < 3652059) :
    Calls Tryz.prog 156 #[.int .i64 9998, .func (.func 157) #[] #[.pointer (some ⟨g, 0, none⟩)]] w fun e w' => (∃ r : Nat, r ≤ 9998 ∧ e = .returned (.int .i64 (r : Int)) ∧ CA.bef (1 + r) ≤ n ∧ n < CA.bef (1 + r + 1)) ∧ Below w.heap.size w w' := by
  have KD := Lib.hid (fun (i : Nat) (W : World) (hi : i ≤ 9998) (hb : Below w.heap.size w W) => DateOf1_any i g n W hi (hG.below hb hG.lt))
  clear hG
  go_enter Tryz.func156, Tryz.ntmps156
  go_wp2_with fail
  go_loopw [5, 6] (fun s5 s6 wr => ∃ i j : Nat, i ≤ j ∧ j ≤ 9998 ∧ s5 = .int .i64 i ∧ s6 = .int .i64 j ∧ CA.bef (1 + i) ≤ n ∧ n < CA.bef (1 + j + 1) ∧ Below w.heap.size w wr) (fun s5 s6 _ => (intOf s6).toNat - (intOf s5).toNat)
  case atStart => exact ⟨0, 9998, by omega, by omega, rfl, rfl, by rw [show (1 : Int) + (0 : Nat) = 1 by omega, CA.bef_1]; exact h0, by rw [show (1 : Int) + (9998 : Nat) + 1 = 10000 - 1 + 1 by omega, show (10000 : Int) - 1 + 1 = 10000 by omega, CA.bef_10000]; exact h1, Below.refl _ _⟩
  case round =>
    obtain ⟨i, j, hij, hj, rfl, rfl, ha, hb, hB⟩ := hrel
    have BB := Lib.hid hB
    clear hB
    by_cases hlt : i < j
    · have dl : decide ((i : Int) < (j : Int)) = true := decide_eq_true (by omega)
      go_wp2_with fail
      have hm : ((i : Int) + (j : Int)) / 2 = (((i + j) / 2 : Nat) : Int) := by omega
      rw [hm]
      have K := Lib.hid (KD.out ((i + j) / 2) wr (by omega) BB.out)
      have hmi : i ≤ (i + j) / 2 := by omega
      have hmj : (i + j) / 2 < j := by omega
      generalize (i + j) / 2 = m at *
      clear hm
      by_cases hc : n < CA.bef (2 + m)
      · rw [decide_eq_true hc] at K
        (with_reducible refine (K.out).mono ?_)
        rintro e w1 ⟨rfl, hb1⟩
        have B1 := Lib.hid (BB.out.trans (hb1.mono BB.out.size))
        have hc' : n < CA.bef (1 + m + 1) := by rw [show (1 : Int) + m + 1 = 2 + m by omega]; exact hc
        clear hb1 BB hc
        go_wp2
        go_roundw
        case rel => exact ⟨i, m, hmi, by omega, rfl, rfl, ha, hc', B1.out⟩
        case measure => simp [intOf]; omega
      · rw [decide_eq_false hc] at K
        (with_reducible refine (K.out).mono ?_)
        rintro e w1 ⟨rfl, hb1⟩
        have B1 := Lib.hid (BB.out.trans (hb1.mono BB.out.size))
        have hc' : CA.bef (1 + ((m + 1 : Nat) : Int)) ≤ n := by rw [show (1 : Int) + ((m + 1 : Nat) : Int) = 2 + m by omega]; omega
        clear hb1 BB hc
        go_wp2
        go_roundw
        case rel => exact ⟨m + 1, j, by omega, hj, by go_num, rfl, hc', hb, B1.out⟩
        case measure => simp [intOf]; omega
    · have dl : decide ((i : Int) < (j : Int)) = false := decide_eq_false (by omega)
      obtain rfl : i = j := by omega
      go_wp2
      go_ret
      exact ⟨⟨i, hj, rfl, ha, hb⟩, BB.out⟩
end Go.Proofs.YtbpnacacnncopaaGreatDoor
