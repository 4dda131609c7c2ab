/- Plain: parts of things that touch, by putting together pairs and by searching. No program in sight. -/
import Derived.Test.YthfndnmfnijpeaaGreatProg
import Derived.WalkKit
import Derived.WalkSpells
import Derived.WalkLawsBesides
import Derived.Deep.QuietTactic
import Derived.BigQuiet
import Derived.Lib.Hide
import Derived.IntWalk
import Derived.Deep.AppendLies
import Derived.Maps.AppendAt
import Derived.RegionTactic
import Derived.OwnWalk
import Derived.Laws.OwnMore
import Derived.Deep.Draws
import Derived.Laws.BitsAllLaws
import Derived.Laws.BitsLemmas
import Derived.StillTailTactics
import Derived.Deep.LoopGhost
import Derived.Laws.StructEq
set_option linter.unusedVariables false
set_option linter.unusedSimpArgs false
namespace Go.Proofs.YthfndnmfnijpeaaGreat.LB
def w64 (x : Int) : Int := (x + 9223372036854775808) % 18446744073709551616 - 9223372036854775808
/-- one round of the reader's loop: n << 8 | c -/
def stp (n c : Int) : Int := w64 (n * 256) + c
def by8 (n : Int) : List Int := [n / 72057594037927936 % 256, n / 281474976710656 % 256, n / 1099511627776 % 256, n / 4294967296 % 256, n / 16777216 % 256, n / 65536 % 256, n / 256 % 256, n % 256]
def un8 (l : List Int) : Int := l.foldl stp 0
theorem stp_small {n c : Int} (h0 : 0 ≤ n) (h1 : n < 36028797018963968) : stp n c = n * 256 + c := by
  unfold stp w64; omega
theorem un_val {a b c d e f g h : Int} (ha : 0 ≤ a ∧ a < 256) (hb : 0 ≤ b ∧ b < 256) (hc : 0 ≤ c ∧ c < 256) (hd : 0 ≤ d ∧ d < 256) (he : 0 ≤ e ∧ e < 256) (hf : 0 ≤ f ∧ f < 256) (_hg : 0 ≤ g ∧ g < 256) (hh : 0 ≤ h ∧ h < 256) :
    un8 [a, b, c, d, e, f, g, h] = w64 (a * 72057594037927936 + b * 281474976710656 + c * 1099511627776 + d * 4294967296 + e * 16777216 + f * 65536 + g * 256 + h) := by
  show stp (stp (stp (stp (stp (stp (stp (stp 0 a) b) c) d) e) f) g) h = _
  rw [stp_small (n := 0) (by omega) (by omega)]
  rw [stp_small (n := 0 * 256 + a) (by omega) (by omega)]
  rw [stp_small (n := (0 * 256 + a) * 256 + b) (by omega) (by omega)]
  rw [stp_small (n := ((0 * 256 + a) * 256 + b) * 256 + c) (by omega) (by omega)]
  rw [stp_small (n := (((0 * 256 + a) * 256 + b) * 256 + c) * 256 + d) (by omega) (by omega)]
  rw [stp_small (n := ((((0 * 256 + a) * 256 + b) * 256 + c) * 256 + d) * 256 + e) (by omega) (by omega)]
  rw [stp_small (n := (((((0 * 256 + a) * 256 + b) * 256 + c) * 256 + d) * 256 + e) * 256 + f) (by omega) (by omega)]
  unfold stp w64; omega
theorem un_by {n : Int} (h0 : -9223372036854775808 ≤ n) (h1 : n < 9223372036854775808) : un8 (by8 n) = n := by
  unfold by8
  rw [un_val (by omega) (by omega) (by omega) (by omega) (by omega) (by omega) (by omega) (by omega)]
  have q1 : n / 256 = n / 65536 * 256 + n / 256 % 256 := by omega
  have q2 : n / 65536 = n / 16777216 * 256 + n / 65536 % 256 := by omega
  have q3 : n / 16777216 = n / 4294967296 * 256 + n / 16777216 % 256 := by omega
  have q4 : n / 4294967296 = n / 1099511627776 * 256 + n / 4294967296 % 256 := by omega
  have q5 : n / 1099511627776 = n / 281474976710656 * 256 + n / 1099511627776 % 256 := by omega
  have q6 : n / 281474976710656 = n / 72057594037927936 * 256 + n / 281474976710656 % 256 := by omega
  have q0 : n = n / 256 * 256 + n % 256 := by omega
  have q7 : n / 72057594037927936 = n / 72057594037927936 % 256 ∨ n / 72057594037927936 = n / 72057594037927936 % 256 - 256 := by omega
  generalize n / 72057594037927936 % 256 = a at *
  generalize n / 281474976710656 % 256 = b at *
  generalize n / 1099511627776 % 256 = c at *
  generalize n / 4294967296 % 256 = d at *
  generalize n / 16777216 % 256 = e at *
  generalize n / 65536 % 256 = f at *
  generalize n / 256 % 256 = g at *
  generalize n % 256 = h at *
  unfold w64
  have : a * 72057594037927936 + b * 281474976710656 + c * 1099511627776 + d * 4294967296 + e * 16777216 + f * 65536 + g * 256 + h = n ∨ a * 72057594037927936 + b * 281474976710656 + c * 1099511627776 + d * 4294967296 + e * 16777216 + f * 65536 + g * 256 + h = n + 18446744073709551616 := by
    rcases q7 with q7 | q7
    · left; omega
    · right; omega
  rcases this with t | t <;> rw [t] <;> omega
theorem by_un {a b c d e f g h : Int} (ha : 0 ≤ a ∧ a < 256) (hb : 0 ≤ b ∧ b < 256) (hc : 0 ≤ c ∧ c < 256) (hd : 0 ≤ d ∧ d < 256) (he : 0 ≤ e ∧ e < 256) (hf : 0 ≤ f ∧ f < 256) (hg : 0 ≤ g ∧ g < 256) (hh : 0 ≤ h ∧ h < 256) :
    by8 (un8 [a, b, c, d, e, f, g, h]) = [a, b, c, d, e, f, g, h] := by
  rw [un_val ha hb hc hd he hf hg hh]
  have k : w64 (a * 72057594037927936 + b * 281474976710656 + c * 1099511627776 + d * 4294967296 + e * 16777216 + f * 65536 + g * 256 + h) = (if a < 128 then a else a - 256) * 72057594037927936 + b * 281474976710656 + c * 1099511627776 + d * 4294967296 + e * 16777216 + f * 65536 + g * 256 + h := by
    unfold w64; split <;> omega
  rw [k]; unfold by8
  have s0 : (if a < 128 then a else a - 256) % 256 = a := by split <;> omega
  generalize (if a < 128 then a else a - 256) = A at *
  have e1 : (A * 72057594037927936 + b * 281474976710656 + c * 1099511627776 + d * 4294967296 + e * 16777216 + f * 65536 + g * 256 + h) / 72057594037927936 = A := by omega
  have e2 : (A * 72057594037927936 + b * 281474976710656 + c * 1099511627776 + d * 4294967296 + e * 16777216 + f * 65536 + g * 256 + h) / 281474976710656 = A * 256 + b := by omega
  have e3 : (A * 72057594037927936 + b * 281474976710656 + c * 1099511627776 + d * 4294967296 + e * 16777216 + f * 65536 + g * 256 + h) / 1099511627776 = (A * 256 + b) * 256 + c := by omega
  have e4 : (A * 72057594037927936 + b * 281474976710656 + c * 1099511627776 + d * 4294967296 + e * 16777216 + f * 65536 + g * 256 + h) / 4294967296 = ((A * 256 + b) * 256 + c) * 256 + d := by omega
  have e5 : (A * 72057594037927936 + b * 281474976710656 + c * 1099511627776 + d * 4294967296 + e * 16777216 + f * 65536 + g * 256 + h) / 16777216 = (((A * 256 + b) * 256 + c) * 256 + d) * 256 + e := by omega
  have e6 : (A * 72057594037927936 + b * 281474976710656 + c * 1099511627776 + d * 4294967296 + e * 16777216 + f * 65536 + g * 256 + h) / 65536 = ((((A * 256 + b) * 256 + c) * 256 + d) * 256 + e) * 256 + f := by omega
  have e7 : (A * 72057594037927936 + b * 281474976710656 + c * 1099511627776 + d * 4294967296 + e * 16777216 + f * 65536 + g * 256 + h) / 256 = (((((A * 256 + b) * 256 + c) * 256 + d) * 256 + e) * 256 + f) * 256 + g := by omega
  rw [e1, e2, e3, e4, e5, e6, e7, s0]
  have t2 : (A * 256 + b) % 256 = b := by omega
  have t3 : ((A * 256 + b) * 256 + c) % 256 = c := by omega
  have t4 : (((A * 256 + b) * 256 + c) * 256 + d) % 256 = d := by omega
  have t5 : ((((A * 256 + b) * 256 + c) * 256 + d) * 256 + e) % 256 = e := by omega
  have t6 : (((((A * 256 + b) * 256 + c) * 256 + d) * 256 + e) * 256 + f) % 256 = f := by omega
  have t7 : ((((((A * 256 + b) * 256 + c) * 256 + d) * 256 + e) * 256 + f) * 256 + g) % 256 = g := by omega
  have t8 : (A * 72057594037927936 + b * 281474976710656 + c * 1099511627776 + d * 4294967296 + e * 16777216 + f * 65536 + g * 256 + h) % 256 = h := by omega
  rw [t2, t3, t4, t5, t6, t7, t8]
abbrev Bs := List UInt8
structure Rec where
  kind : Int
  at0 : Int
  at1 : Int
  p0 : Int
  p1 : Int
  p2 : Int
  p3 : Int
  m0 : Int
  m1 : Int
  m2 : Int
  m3 : Int
  body : Bs
  limb : Int
  sa0 : Int
  sa1 : Int
  hs : Int
  within : Int
  horizon : Int
  eye : Int
  shore : Int
  temp : Int
  pres : Int
  list : List Int
  text : Bs
deriving DecidableEq
def Rec.zero : Rec := ⟨0, 0, 0, 0, 0, 0, 0, 0, 0, 0, 0, [], 0, 0, 0, 0, 0, 0, 0, 0, 0, 0, [], []⟩
def b8 (n : Int) : UInt8 := UInt8.ofNat (n % 256).toNat
theorem b8_val (n : Int) : ((b8 n).toNat : Int) = n % 256 := by
  unfold b8
  rw [UInt8.toNat_ofNat']
  omega
theorem b8_of (c : UInt8) : b8 (c.toNat : Int) = c := by
  unfold b8
  apply UInt8.toNat_inj.1
  rw [UInt8.toNat_ofNat']
  have := c.toNat_lt
  omega
theorem u8_ext {a b : UInt8} (h : (a.toNat : Int) = (b.toNat : Int)) : a = b := UInt8.toNat_inj.1 (by omega)
def num (n : Int) : Bs := [b8 (n / 72057594037927936), b8 (n / 281474976710656), b8 (n / 1099511627776), b8 (n / 4294967296), b8 (n / 16777216), b8 (n / 65536), b8 (n / 256), b8 n]
def nums : List Int → Bs
  | [] => []
  | n :: l => num n ++ nums l
theorem nums_append (l m : List Int) : nums (l ++ m) = nums l ++ nums m := by
  induction l with
  | nil => rfl
  | cons a l ih => simp [nums, ih]
theorem num_length (n : Int) : (num n).length = 8 := rfl
theorem nums_length (l : List Int) : (nums l).length = 8 * l.length := by
  induction l with
  | nil => rfl
  | cons a l ih => simp [nums, ih, num_length]; omega
def un (l : Bs) : Int := l.foldl (fun n c => stp n (c.toNat : Int)) 0
theorem un_eq (l : Bs) : un l = un8 (l.map fun c => (c.toNat : Int)) := by
  unfold un un8
  rw [List.foldl_map]
theorem num_vals (n : Int) : (num n).map (fun c => (c.toNat : Int)) = by8 n := by
  simp only [num, List.map_cons, List.map_nil, b8_val]
  rfl
def I64 (n : Int) : Prop := -9223372036854775808 ≤ n ∧ n < 9223372036854775808
theorem un_num {n : Int} (h : I64 n) : un (num n) = n := by
  rw [un_eq, num_vals, un_by h.1 h.2]
theorem c_bd (c : UInt8) : 0 ≤ (c.toNat : Int) ∧ (c.toNat : Int) < 256 := by have := c.toNat_lt; omega
theorem map_inj : ∀ {l m : Bs}, l.map (fun c => (c.toNat : Int)) = m.map (fun c => (c.toNat : Int)) → l = m
  | [], [], _ => rfl
  | [], _ :: _, h => by simp at h
  | _ :: _, [], h => by simp at h
  | a :: l, b :: m, h => by
    rw [List.map_cons, List.map_cons] at h
    injection h with h1 h2
    rw [u8_ext h1, map_inj h2]
theorem num_un : ∀ {l : Bs}, l.length = 8 → num (un l) = l
  | [a, b, c, d, e, f, g, h], _ => by
    apply map_inj
    rw [num_vals, un_eq]
    exact by_un (c_bd a) (c_bd b) (c_bd c) (c_bd d) (c_bd e) (c_bd f) (c_bd g) (c_bd h)
/-- a length of two bytes -/
def siz (n : Nat) : Bs := [b8 ((n : Int) / 256), b8 (n : Int)]
def str (s : Bs) : Bs := siz s.length ++ s
def sightL (r : Rec) : List Int := [r.limb, r.sa0, r.sa1, r.hs, r.within, r.horizon, r.eye, r.shore, r.temp, r.pres]
def enc (r : Rec) : Bs :=
  b8 r.kind :: (if r.kind = 3 then str r.body ++ nums (sightL r)
  else nums [r.at0, r.at1] ++ ((if r.kind = 1 ∨ r.kind = 4 then nums [r.p0, r.p1, r.p2, r.p3] else if r.kind = 2 then nums [r.m0, r.m1, r.m2, r.m3] else if r.kind = 5 then str r.text else []) ++
    (if r.kind = 4 then siz r.list.length ++ nums r.list else [])))
/-- the reader: what is left, and whether something was wrong -/
abbrev St := Bs × Bool
def take (n : Nat) (s : St) : Bs × St := if s.2 = true ∨ s.1.length < n then ([], (s.1, true)) else (s.1.take n, (s.1.drop n, s.2))
def one (s : St) : Int × St := (un (take 8 s).1, (take 8 s).2)
def ints : Nat → St → List Int × St
  | 0, s => ([], s)
  | k + 1, s => ((one s).1 :: (ints k (one s).2).1, (ints k (one s).2).2)
def size (s : St) : Nat × St := match take 2 s with
  | ([a, b], s') => (a.toNat * 256 + b.toNat, s')
  | (_, s') => (0, s')
def text (s : St) : Bs × St := take (size s).1 (size s).2
/-- the list of a fix: the loop stops where something is wrong -/
def loop : Nat → St → List Int × St
  | 0, s => ([], s)
  | k + 1, s => if (one s).2.2 = true then ([], (one s).2) else ((one s).1 :: (loop k (one s).2).1, (loop k (one s).2).2)
theorem ints_length : ∀ (k : Nat) (s : St), (ints k s).1.length = k
  | 0, _ => rfl
  | k + 1, s => by simp [ints, ints_length k]
def at' (l : List Int) (i : Nat) : Int := l.getD i 0
def body (kind : Int) (s0 : St) : Rec × St :=
  if kind = 3 then
    let b := text s0
    let n := ints 10 b.2
    ({ Rec.zero with kind := 3, body := b.1, limb := at' n.1 0, sa0 := at' n.1 1, sa1 := at' n.1 2, hs := at' n.1 3, within := at' n.1 4, horizon := at' n.1 5, eye := at' n.1 6, shore := at' n.1 7, temp := at' n.1 8, pres := at' n.1 9 }, n.2)
  else
    let t := ints 2 s0
    let x := { Rec.zero with kind := kind, at0 := at' t.1 0, at1 := at' t.1 1 }
    if kind = 1 then
      let p := ints 4 t.2
      ({ x with p0 := at' p.1 0, p1 := at' p.1 1, p2 := at' p.1 2, p3 := at' p.1 3 }, p.2)
    else if kind = 2 then
      let p := ints 4 t.2
      ({ x with m0 := at' p.1 0, m1 := at' p.1 1, m2 := at' p.1 2, m3 := at' p.1 3 }, p.2)
    else if kind = 5 then
      let b := text t.2
      ({ x with text := b.1 }, b.2)
    else
      let p := ints 4 t.2
      let n := size p.2
      let l := loop n.1 n.2
      ({ x with p0 := at' p.1 0, p1 := at' p.1 1, p2 := at' p.1 2, p3 := at' p.1 3, list := l.1 }, l.2)
/-- what Decode returns, ok being which records are right -/
def dec (ok : Rec → Bool) (b : Bs) : Rec × Int := match b with
  | [] => (Rec.zero, 7)
  | k :: t =>
    if k.toNat < 1 ∨ 5 < k.toNat then (Rec.zero, 7)
    else if (body k.toNat (t, false)).2.2 = true ∨ (body k.toNat (t, false)).2.1 ≠ [] then (Rec.zero, 7)
    else if ok (body k.toNat (t, false)).1 = false then (Rec.zero, 1)
    else ((body k.toNat (t, false)).1, 0)
/-- what was read is put before what is left -/
theorem take_ok {n : Nat} {s : St} (h : (take n s).2.2 = false) : s.2 = false ∧ s.1 = (take n s).1 ++ (take n s).2.1 ∧ (take n s).1.length = n := by
  unfold take at h ⊢
  split at h
  · cases h
  · rename_i hc
    rw [if_neg hc]
    refine ⟨h, by simp, ?_⟩
    have : ¬ (s.1.length < n) := fun e => hc (.inr e)
    rw [List.length_take]; omega
theorem one_ok {s : St} (h : (one s).2.2 = false) : s.2 = false ∧ s.1 = num (one s).1 ++ (one s).2.1 := by
  obtain ⟨h1, h2, h3⟩ := take_ok (n := 8) (s := s) h
  refine ⟨h1, ?_⟩
  show s.1 = num (un (take 8 s).1) ++ _
  rw [num_un h3]; exact h2
theorem ints_ok : ∀ {k : Nat} {s : St}, (ints k s).2.2 = false → s.2 = false ∧ s.1 = nums (ints k s).1 ++ (ints k s).2.1
  | 0, s, h => ⟨h, rfl⟩
  | k + 1, s, h => by
    obtain ⟨h1, h2⟩ := ints_ok (k := k) (s := (one s).2) h
    obtain ⟨h3, h4⟩ := one_ok h1
    refine ⟨h3, ?_⟩
    show s.1 = nums ((one s).1 :: (ints k (one s).2).1) ++ (ints k (one s).2).2.1
    rw [nums, List.append_assoc, ← h2]
    exact h4
theorem loop_ok : ∀ {k : Nat} {s : St}, (loop k s).2.2 = false → s.2 = false ∧ s.1 = nums (loop k s).1 ++ (loop k s).2.1 ∧ (loop k s).1.length = k
  | 0, s, h => ⟨h, rfl, rfl⟩
  | k + 1, s, h => by
    unfold loop at h ⊢
    by_cases e : (one s).2.2 = true
    · rw [if_pos e] at h; rw [e] at h; cases h
    · rw [if_neg e] at h ⊢
      obtain ⟨h1, h2, h5⟩ := loop_ok (k := k) (s := (one s).2) h
      obtain ⟨h3, h4⟩ := one_ok h1
      refine ⟨h3, ?_, by simp [h5]⟩
      show s.1 = nums ((one s).1 :: (loop k (one s).2).1) ++ (loop k (one s).2).2.1
      rw [nums, List.append_assoc, ← h2]
      exact h4
theorem siz_of (a b : UInt8) : siz (a.toNat * 256 + b.toNat) = [a, b] := by
  have h1 := a.toNat_lt
  have h2 := b.toNat_lt
  unfold siz
  have e1 : (((a.toNat * 256 + b.toNat : Nat) : Int)) / 256 = (a.toNat : Int) := by omega
  rw [e1, b8_of]
  congr 2
  apply u8_ext
  rw [b8_val]
  omega
theorem size_ok {s : St} (h : (size s).2.2 = false) : s.2 = false ∧ s.1 = siz (size s).1 ++ (size s).2.1 := by
  have hs : (take 2 s).2.2 = false := by
    unfold size at h
    split at h
    · rename_i e; rw [e]; exact h
    · rename_i e; rw [e]; exact h
  obtain ⟨h1, h2, h3⟩ := take_ok hs
  refine ⟨h1, ?_⟩
  unfold size
  generalize take 2 s = q at *
  obtain ⟨l, s'⟩ := q
  match l, h3 with
  | [a, b], _ =>
    show s.1 = siz (a.toNat * 256 + b.toNat) ++ s'.1
    rw [siz_of]; exact h2
theorem text_ok {s : St} (h : (text s).2.2 = false) : s.2 = false ∧ s.1 = str (text s).1 ++ (text s).2.1 := by
  obtain ⟨h1, h2, h3⟩ := take_ok (n := (size s).1) (s := (size s).2) h
  obtain ⟨h4, h5⟩ := size_ok h1
  refine ⟨h4, ?_⟩
  show s.1 = (siz (take (size s).1 (size s).2).1.length ++ (take (size s).1 (size s).2).1) ++ _
  rw [h3, List.append_assoc]
  rw [h5]
  congr 1
/-- reading what was written -/
theorem take_app (x y : Bs) : take x.length (x ++ y, false) = (x, (y, false)) := by
  unfold take
  rw [if_neg (by simp)]
  simp
theorem one_app {n : Int} (h : I64 n) (y : Bs) : one (num n ++ y, false) = (n, (y, false)) := by
  unfold one
  have := take_app (num n) y
  rw [num_length] at this
  rw [this]
  simp only [un_num h]
theorem ints_app : ∀ {l : List Int} (_ : ∀ x ∈ l, I64 x) (y : Bs), ints l.length (nums l ++ y, false) = (l, (y, false))
  | [], _, _ => rfl
  | n :: l, h, y => by
    show ((one (num n ++ nums l ++ y, false)).1 :: (ints l.length (one (num n ++ nums l ++ y, false)).2).1, (ints l.length (one (num n ++ nums l ++ y, false)).2).2) = _
    rw [List.append_assoc, one_app (h n (by simp)), ints_app (fun x hx => h x (by simp [hx])) y]
theorem loop_app : ∀ {l : List Int} (_ : ∀ x ∈ l, I64 x) (y : Bs), loop l.length (nums l ++ y, false) = (l, (y, false))
  | [], _, _ => rfl
  | n :: l, h, y => by
    show (if (one (num n ++ nums l ++ y, false)).2.2 = true then ([], (one (num n ++ nums l ++ y, false)).2) else ((one (num n ++ nums l ++ y, false)).1 :: (loop l.length (one (num n ++ nums l ++ y, false)).2).1, (loop l.length (one (num n ++ nums l ++ y, false)).2).2)) = _
    rw [List.append_assoc, one_app (h n (by simp))]
    rw [if_neg (by simp), loop_app (fun x hx => h x (by simp [hx])) y]
theorem size_app {n : Nat} (h : n < 65536) (y : Bs) : size (siz n ++ y, false) = (n, (y, false)) := by
  unfold size
  have := take_app (siz n) y
  rw [show (siz n).length = 2 from rfl] at this
  rw [this]
  show ((b8 ((n : Int) / 256)).toNat * 256 + (b8 (n : Int)).toNat, (y, false)) = _
  have h1 := b8_val ((n : Int) / 256)
  have h2 := b8_val (n : Int)
  congr 1
  omega
theorem text_app {x : Bs} (h : x.length < 65536) (y : Bs) : text (str x ++ y, false) = (x, (y, false)) := by
  unfold text str
  rw [List.append_assoc, size_app h, take_app]
theorem range_at : ∀ {l : List Int} {n : Nat}, l.length = n → l = (List.range n).map (at' l)
  | l, n, h => by
    subst h
    apply List.ext_getElem
    · simp
    · intro i h1 h2
      simp [at', List.getElem_range, List.getD_eq_getElem?_getD, List.getElem?_eq_getElem h1]
theorem at10 {l : List Int} (h : l.length = 10) : [at' l 0, at' l 1, at' l 2, at' l 3, at' l 4, at' l 5, at' l 6, at' l 7, at' l 8, at' l 9] = l := by
  rw [range_at h]; rfl
theorem at4 {l : List Int} (h : l.length = 4) : [at' l 0, at' l 1, at' l 2, at' l 3] = l := by rw [range_at h]; rfl
theorem at2 {l : List Int} (h : l.length = 2) : [at' l 0, at' l 1] = l := by rw [range_at h]; rfl
/-- what is read from all bytes has these bytes -/
theorem body_enc {k : UInt8} (h1 : 1 ≤ k.toNat) (h5 : k.toNat ≤ 5) {t : Bs} (hw : (body k.toNat (t, false)).2.2 = false) (hr : (body k.toNat (t, false)).2.1 = []) :
    enc (body k.toNat (t, false)).1 = k :: t := by
  have hk : k.toNat = 1 ∨ k.toNat = 2 ∨ k.toNat = 3 ∨ k.toNat = 4 ∨ k.toNat = 5 := by omega
  rcases hk with e | e | e | e | e
  · have e' : ((k.toNat : Nat) : Int) = 1 := by omega
    have hb := b8_of k
    rw [e'] at hw hr hb ⊢
    unfold body at hw hr ⊢
    simp only [Int.reduceEq, ite_true, ite_false] at hw hr ⊢
    obtain ⟨a1, a2⟩ := ints_ok hw
    obtain ⟨a3, a4⟩ := ints_ok a1
    simp only [enc, Rec.zero, Int.reduceEq, ite_true, ite_false, true_or, List.append_nil]
    rw [at2 (ints_length 2 _), at4 (ints_length 4 _)]
    refine congr (congrArg List.cons hb) (a4.trans ?_).symm
    rw [a2, hr]
    simp
  · have e' : ((k.toNat : Nat) : Int) = 2 := by omega
    have hb := b8_of k
    rw [e'] at hw hr hb ⊢
    unfold body at hw hr ⊢
    simp only [Int.reduceEq, ite_true, ite_false] at hw hr ⊢
    obtain ⟨a1, a2⟩ := ints_ok hw
    obtain ⟨a3, a4⟩ := ints_ok a1
    simp only [enc, Rec.zero, Int.reduceEq, ite_true, ite_false, or_self, List.append_nil]
    rw [at2 (ints_length 2 _), at4 (ints_length 4 _)]
    refine congr (congrArg List.cons hb) (a4.trans ?_).symm
    rw [a2, hr]
    simp
  · have e' : ((k.toNat : Nat) : Int) = 3 := by omega
    have hb := b8_of k
    rw [e'] at hw hr hb ⊢
    unfold body at hw hr ⊢
    simp only [Int.reduceEq, ite_true, ite_false] at hw hr ⊢
    obtain ⟨a1, a2⟩ := ints_ok hw
    obtain ⟨a3, a4⟩ := text_ok a1
    simp only [enc, sightL, Rec.zero, Int.reduceEq, ite_true, ite_false]
    rw [at10 (ints_length 10 _)]
    refine congr (congrArg List.cons hb) (a4.trans ?_).symm
    rw [a2, hr]
    simp
  · have e' : ((k.toNat : Nat) : Int) = 4 := by omega
    have hb := b8_of k
    rw [e'] at hw hr hb ⊢
    unfold body at hw hr ⊢
    simp only [Int.reduceEq, ite_false] at hw hr ⊢
    obtain ⟨a1, a2, a5⟩ := loop_ok hw
    obtain ⟨a3, a4⟩ := size_ok a1
    obtain ⟨a6, a7⟩ := ints_ok a3
    obtain ⟨a8, a9⟩ := ints_ok a6
    simp only [enc, Rec.zero, Int.reduceEq, ite_true, ite_false, or_true]
    rw [at2 (ints_length 2 _), at4 (ints_length 4 _), a5]
    refine congr (congrArg List.cons hb) (a9.trans ?_).symm
    rw [a7, a4, a2, hr]
    simp
  · have e' : ((k.toNat : Nat) : Int) = 5 := by omega
    have hb := b8_of k
    rw [e'] at hw hr hb ⊢
    unfold body at hw hr ⊢
    simp only [Int.reduceEq, ite_true, ite_false] at hw hr ⊢
    obtain ⟨a1, a2⟩ := text_ok hw
    obtain ⟨a3, a4⟩ := ints_ok a1
    simp only [enc, Rec.zero, Int.reduceEq, ite_true, ite_false, or_self, List.append_nil]
    rw [at2 (ints_length 2 _)]
    refine congr (congrArg List.cons hb) (a4.trans ?_).symm
    rw [a2, hr]
    simp
theorem dec_enc {ok : Rec → Bool} {b : Bs} (h : (dec ok b).2 = 0) : enc (dec ok b).1 = b ∧ ok (dec ok b).1 = true := by
  unfold dec at h ⊢
  match b, h with
  | [], h => cases h
  | k :: t, h =>
    simp only [] at h ⊢
    by_cases c1 : k.toNat < 1 ∨ 5 < k.toNat
    · rw [if_pos c1] at h; cases h
    rw [if_neg c1] at h ⊢
    by_cases c2 : (body k.toNat (t, false)).2.2 = true ∨ (body k.toNat (t, false)).2.1 ≠ []
    · rw [if_pos c2] at h; cases h
    rw [if_neg c2] at h ⊢
    by_cases c3 : ok (body k.toNat (t, false)).1 = false
    · rw [if_pos c3] at h; cases h
    rw [if_neg c3] at h ⊢
    refine ⟨body_enc (by omega) (by omega) ?_ ?_, by simpa using c3⟩
    · cases e : (body k.toNat (t, false)).2.2 with
      | false => rfl
      | true => exact absurd (.inl e) c2
    · rcases Classical.em ((body k.toNat (t, false)).2.1 = []) with e | e
      · exact e
      · exact absurd (.inr e) c2
/-- which records hold no more than their kind says -/
structure Only (r : Rec) : Prop where
  kind : 1 ≤ r.kind ∧ r.kind ≤ 5
  at_ : r.kind = 3 → r.at0 = 0 ∧ r.at1 = 0
  place : r.kind ≠ 1 → r.kind ≠ 4 → r.p0 = 0 ∧ r.p1 = 0 ∧ r.p2 = 0 ∧ r.p3 = 0
  motion : r.kind ≠ 2 → r.m0 = 0 ∧ r.m1 = 0 ∧ r.m2 = 0 ∧ r.m3 = 0
  sight : r.kind ≠ 3 → r.body = [] ∧ r.limb = 0 ∧ r.sa0 = 0 ∧ r.sa1 = 0 ∧ r.hs = 0 ∧ r.within = 0 ∧ r.horizon = 0 ∧ r.eye = 0 ∧ r.shore = 0 ∧ r.temp = 0 ∧ r.pres = 0
  list : r.kind ≠ 4 → r.list = []
  text : r.kind ≠ 5 → r.text = []
structure Fits (r : Rec) : Prop where
  at_ : I64 r.at0 ∧ I64 r.at1
  place : I64 r.p0 ∧ I64 r.p1 ∧ I64 r.p2 ∧ I64 r.p3
  motion : I64 r.m0 ∧ I64 r.m1 ∧ I64 r.m2 ∧ I64 r.m3
  sight : ∀ x ∈ sightL r, I64 x
  list : ∀ x ∈ r.list, I64 x
  body : r.body.length < 65536
  ll : r.list.length < 65536
  text : r.text.length < 65536
theorem ints_app' {l : List Int} {n : Nat} (hn : l.length = n) (h : ∀ x ∈ l, I64 x) (y : Bs) : ints n (nums l ++ y, false) = (l, (y, false)) := by subst hn; exact ints_app h y
theorem body_of {r : Rec} (h : Only r) (hf : Fits r) : ∃ t, enc r = b8 r.kind :: t ∧ body r.kind (t, false) = (r, ([], false)) := by
  obtain ⟨⟨k1, k5⟩, ha, hp, hm, hs, hl, ht⟩ := h
  obtain ⟨fa, fp, fm, fs, fl, fb, fll, ft⟩ := hf
  refine ⟨_, rfl, ?_⟩
  have ha2 : ∀ x ∈ [r.at0, r.at1], I64 x := by simpa using fa
  have hp4 : ∀ x ∈ [r.p0, r.p1, r.p2, r.p3], I64 x := by simpa using fp
  have hm4 : ∀ x ∈ [r.m0, r.m1, r.m2, r.m3], I64 x := by simpa using fm
  obtain ⟨kind, at0, at1, p0, p1, p2, p3, m0, m1, m2, m3, bod, limb, sa0, sa1, hsx, within, horizon, eye, shore, temp, pres, list, text⟩ := r
  have hk : kind = 1 ∨ kind = 2 ∨ kind = 3 ∨ kind = 4 ∨ kind = 5 := by simp only [] at k1 k5; omega
  simp only [] at *
  rcases hk with rfl | rfl | rfl | rfl | rfl
  · obtain ⟨rfl, rfl, rfl, rfl⟩ := hm (by decide)
    obtain ⟨rfl, rfl, rfl, rfl, rfl, rfl, rfl, rfl, rfl, rfl, rfl⟩ := hs (by decide)
    obtain rfl := hl (by decide)
    obtain rfl := ht (by decide)
    simp only [body, Int.reduceEq, ite_true, ite_false, true_or]
    rw [ints_app' (n := 2) rfl ha2, ints_app' (n := 4) rfl hp4]
    rfl
  · obtain ⟨rfl, rfl, rfl, rfl⟩ := hp (by decide) (by decide)
    obtain ⟨rfl, rfl, rfl, rfl, rfl, rfl, rfl, rfl, rfl, rfl, rfl⟩ := hs (by decide)
    obtain rfl := hl (by decide)
    obtain rfl := ht (by decide)
    simp only [body, Int.reduceEq, ite_true, ite_false, or_self]
    rw [ints_app' (n := 2) rfl ha2, ints_app' (n := 4) rfl hm4]
    rfl
  · obtain ⟨rfl, rfl⟩ := ha (by decide)
    obtain ⟨rfl, rfl, rfl, rfl⟩ := hp (by decide) (by decide)
    obtain ⟨rfl, rfl, rfl, rfl⟩ := hm (by decide)
    obtain rfl := hl (by decide)
    obtain rfl := ht (by decide)
    simp only [body, Int.reduceEq, ite_true, ite_false]
    rw [text_app fb]
    have := ints_app' (n := 10) rfl fs []
    rw [List.append_nil] at this
    simp only [] at this ⊢
    rw [this]
    rfl
  · obtain ⟨rfl, rfl, rfl, rfl⟩ := hm (by decide)
    obtain ⟨rfl, rfl, rfl, rfl, rfl, rfl, rfl, rfl, rfl, rfl, rfl⟩ := hs (by decide)
    obtain rfl := ht (by decide)
    simp only [body, Int.reduceEq, ite_true, ite_false, or_true]
    rw [ints_app' (n := 2) rfl ha2, ints_app' (n := 4) rfl hp4]
    simp only []
    rw [size_app fll]
    have := loop_app fl []
    rw [List.append_nil] at this
    simp only []
    rw [this]
    rfl
  · obtain ⟨rfl, rfl, rfl, rfl⟩ := hp (by decide) (by decide)
    obtain ⟨rfl, rfl, rfl, rfl⟩ := hm (by decide)
    obtain ⟨rfl, rfl, rfl, rfl, rfl, rfl, rfl, rfl, rfl, rfl, rfl⟩ := hs (by decide)
    obtain rfl := hl (by decide)
    simp only [body, Int.reduceEq, ite_true, ite_false, or_self]
    rw [ints_app' (n := 2) rfl ha2]
    simp only []
    rw [text_app ft]
    rfl
theorem enc_dec {ok : Rec → Bool} {r : Rec} (h : Only r) (hf : Fits r) (hk : ok r = true) : dec ok (enc r) = (r, 0) := by
  obtain ⟨t, e, hb⟩ := body_of h hf
  have hk1 := h.kind.1
  have hk5 := h.kind.2
  have hv := b8_val r.kind
  have e0 : (((b8 r.kind).toNat : Nat) : Int) = r.kind := by omega
  rw [e]
  show (if (b8 r.kind).toNat < 1 ∨ 5 < (b8 r.kind).toNat then (Rec.zero, 7)
    else if (body (b8 r.kind).toNat (t, false)).2.2 = true ∨ (body (b8 r.kind).toNat (t, false)).2.1 ≠ [] then (Rec.zero, 7)
    else if ok (body (b8 r.kind).toNat (t, false)).1 = false then (Rec.zero, 1)
    else ((body (b8 r.kind).toNat (t, false)).1, 0)) = _
  rw [e0, hb, if_neg (by omega), if_neg (by simp), if_neg (by simp [hk])]
end Go.Proofs.YthfndnmfnijpeaaGreat.LB
namespace Go.Proofs.YthfndnmfnijpeaaGreat
open Go.RowKit
theorem bl_drewN {B : Nat} {a w : World} (h : Below B a w) (n : Nat) : Below B a (w.drewN n) := ⟨h.os, h.tape, h.output, h.size, h.block⟩
theorem bl_drew {B : Nat} {a w : World} (h : Below B a w) : Below B a w.drew := ⟨h.os, h.tape, h.output, h.size, h.block⟩
theorem bl_alloc (w : World) (o : Obj) : Below w.heap.size w (w.alloc o) := (Below.refl _ _).alloc (Nat.le_refl _) _

end Go.Proofs.YthfndnmfnijpeaaGreat
namespace Go.Proofs.YthfndnmfnijpeaaGreat
open Go.RowKit
def Reads (w : World) (B size : Nat) (A : Option Addr) (n : Nat) (xs : List Value) : Prop :=
  xs.length = n * size ∧ (0 < n → ∃ ad, A = some ad ∧ ad.block < B ∧ ∀ j u, xs[j]? = some u → w.cell? (ad.add j) = some u)

section
variable {w w' : World} {B B' size n : Nat} {A : Option Addr} {xs : List Value}
theorem Reads.of_own {base : Nat} {e : TypeId} {c : Nat} (h : w.ownsRow base e size (.slice A n c) n xs) : Reads w w.heap.size size A n xs := by
  refine ⟨h.1, fun hn => ?_⟩
  obtain ⟨g, cap, hv, _, hlt⟩ := h.form hn
  have hA : A = some ⟨g, 0, none⟩ := by injection hv
  subst hA
  exact ⟨_, rfl, hlt, h.cells (g := g) rfl⟩
end

section
variable {P : Program} (w : World)
theorem run_append_of_nil (base : Nat) (t ty e : TypeId) (i : TypeInfo) (size : Nat) (ht : P.underlying t = some (.slice e)) (hi : P.info? e = some i)
    (v : Value) (n : Nat) (xs : List Value) (hown : w.ownsRow base e size v n xs) (c : Nat) : (Builtin.append_ #[t, t] ty #[v, .slice none 0 c]).run P w = .ok v w := by
  rcases hown.2 with ⟨rfl, rfl⟩ | ⟨g, cap, cur, rfl, _, _, hnc, _⟩
  · simp [Builtin.append_, run_underlying ht, sizeOf, typeInfo, hi, Builtin.lenOf, Builtin.firstCells]
  · simp [Builtin.append_, run_underlying ht, sizeOf, typeInfo, hi, Builtin.lenOf, Builtin.firstCells, hnc, storeCells]

theorem run_append_any (base : Nat) (t ty e : TypeId) (i : TypeInfo) (z : Value) (size bytes : Nat) (ht : P.underlying t = some (.slice e)) (hi : P.info? e = some i) (hz : i.zero = some z)
    (hsize : i.size = size) (hby : i.bytes = bytes) (hzs : z.cells.size = size) (hsz : 0 < size)
    (v : Value) (n : Nat) (xs : List Value) (hown : w.ownsRow base e size v n xs)
    (B : Nat) (A : Option Addr) (m c : Nat) (news : List Value) (hr : Reads w B size A m news) (h1 : ∀ u ∈ news, u.oneCell' = true)
    (h63 : n + m ≤ maxLen) (hbytes : (n + m) * bytes ≤ 140737488355328) (hbase : base ≤ w.heap.size) :
    ∃ v' w', (Builtin.append_ #[t, t] ty #[v, .slice A m c]).run P w = .ok v' w' ∧ w'.ownsRow base e size v' (n + m) (xs ++ news) ∧ w.grownBy w' v.ownBlock ∧
      (v'.ownBlock = v.ownBlock ∨ v'.ownBlock = some w.heap.size) := by
  rcases A with _ | ad
  · have hm : m = 0 := by
      rcases Nat.eq_zero_or_pos m with h0 | h0
      · exact h0
      · obtain ⟨ad, h, _⟩ := hr.2 h0
        cases h
    subst hm
    have hn : news = [] := List.eq_nil_of_length_eq_zero (by simpa using hr.1)
    subst hn
    exact ⟨v, w, run_append_of_nil w base t ty e i size ht hi v n xs hown c, by simpa using hown, World.grownBy.refl w _, .inl rfl⟩
  · have hcells : ∀ j u, news[j]? = some u → w.cell? (ad.add j) = some u := by
      intro j u hu
      rcases Nat.eq_zero_or_pos m with h0 | h0
      · subst h0
        have hn : news = [] := List.eq_nil_of_length_eq_zero (by simpa using hr.1)
        subst hn
        simp at hu
      · obtain ⟨ad', h, _, hc⟩ := hr.2 h0
        injection h with h
        subst h
        exact hc j u hu
    obtain ⟨v', w', hrun, h2, h3, _, h5⟩ := run_append_own_at (P := P) w base t ty e i z size bytes ht hi hz hsize hby hzs hsz v n xs hown ad m c news hr.1 hcells h1 h63 hbytes hbase
    exact ⟨v', w', hrun, h2, h3, h5⟩

theorem wp_append_any {o : Oper} {a : Act} {K : Act → World → Prop} {Q : Exit → Act → World → Prop} (s x : Operand) (t : TypeId)
    (ho : o.op = .call { callee := .builtin .append, args := #[s, x], argTypes := #[t, t] })
    (base : Nat) (e : TypeId) (i : TypeInfo) (z : Value) (size bytes : Nat) (ht : P.underlying t = some (.slice e)) (hi : P.info? e = some i) (hz : i.zero = some z)
    (hsize : i.size = size) (hby : i.bytes = bytes) (hzs : z.cells.size = size) (hsz : 0 < size)
    (v : Value) (n : Nat) (xs : List Value) (hs : a.eval s = v) (hown : w.ownsRow base e size v n xs)
    (B : Nat) (A : Option Addr) (m c : Nat) (news : List Value) (hx : a.eval x = .slice A m c) (hr : Reads w B size A m news) (h1 : ∀ u ∈ news, u.oneCell' = true)
    (h63 : n + m ≤ maxLen) (hbytes : (n + m) * bytes ≤ 140737488355328) (hbase : base ≤ w.heap.size)
    (h : ∀ v' w', w'.ownsRow base e size v' (n + m) (xs ++ news) → w.grownBy w' v.ownBlock → (v'.ownBlock = v.ownBlock ∨ v'.ownBlock = some w.heap.size) → K (a.put o.dst v') w') : o.wp P a w K Q := by
  obtain ⟨v', w', hrun, h2, h3, h4⟩ := run_append_any (P := P) w base t o.type e i z size bytes ht hi hz hsize hby hzs hsz v n xs hown B A m c news hr h1 h63 hbytes hbase
  unfold Oper.wp execOp
  simp only [ho, resolve, invoke, builtin, Sem.run_bind, Sem.run_pure, Result.andThen_ok, List.map_toArray, List.map_cons, List.map_nil, hs, hx, hrun]
  exact h v' w' h2 h3 h4

theorem wpList_append_any {ops : Array Oper} {rest : List Oper} {o : Oper} {a : Act} {Q : Exit → Act → World → Prop} (hgd : o.guard = none) (s x : Operand) (t : TypeId)
    (ho : o.op = .call { callee := .builtin .append, args := #[s, x], argTypes := #[t, t] })
    (base : Nat) (e : TypeId) (i : TypeInfo) (z : Value) (size bytes : Nat) (ht : P.underlying t = some (.slice e)) (hi : P.info? e = some i) (hz : i.zero = some z)
    (hsize : i.size = size) (hby : i.bytes = bytes) (hzs : z.cells.size = size) (hsz : 0 < size)
    (v : Value) (n : Nat) (xs : List Value) (hs : a.eval s = v) (hown : w.ownsRow base e size v n xs)
    (B : Nat) (A : Option Addr) (m c : Nat) (news : List Value) (hx : a.eval x = .slice A m c) (hr : Reads w B size A m news) (h1 : ∀ u ∈ news, u.oneCell' = true)
    (h63 : n + m ≤ maxLen) (hbytes : (n + m) * bytes ≤ 140737488355328) (hbase : base ≤ w.heap.size)
    (h : ∀ v' w', w'.ownsRow base e size v' (n + m) (xs ++ news) → w.grownBy w' v.ownBlock → (v'.ownBlock = v.ownBlock ∨ v'.ownBlock = some w.heap.size) → wpList P ops Q rest (a.put o.dst v') w') : wpList P ops Q (o :: rest) a w :=
  wpList_plain hgd fun _ hK => wp_append_any w s x t ho base e i z size bytes ht hi hz hsize hby hzs hsz v n xs hs hown B A m c news hx hr h1 h63 hbytes hbase fun v' w' h2 h3 h4 => hK _ _ (h v' w' h2 h3 h4)
end

theorem own_base {w : World} {base : Nat} {e : TypeId} {size n : Nat} {v : Value} {xs : List Value} (h : w.ownsRow base e size v n xs) (k : Nat) (hk : v.ownBlock = some k) : base ≤ k := by
  rcases h.2 with ⟨rfl, _⟩ | ⟨g, cap, cur, rfl, hg, _⟩
  · simp [Value.ownBlock] at hk
  · simp [Value.ownBlock] at hk; omega
theorem own_mono {w : World} {base base' : Nat} {e : TypeId} {size n : Nat} {v : Value} {xs : List Value} (h : w.ownsRow base e size v n xs) (hb : base' ≤ base) : w.ownsRow base' e size v n xs := by
  refine ⟨h.1, ?_⟩
  rcases h.2 with h | ⟨g, cap, cur, hv, hg, hr⟩
  · exact .inl h
  · exact .inr ⟨g, cap, cur, hv, by omega, hr⟩
theorem own_nil (w : World) (base : Nat) (e : TypeId) (size : Nat) : w.ownsRow base e size (.slice none 0 0) 0 [] := ⟨by simp, .inl ⟨rfl, rfl⟩⟩
theorem own_form {w : World} {base : Nat} {e : TypeId} {size n : Nat} {v : Value} {xs : List Value} (h : w.ownsRow base e size v n xs) : ∃ A c, v = .slice A n c ∧ Reads w w.heap.size size A n xs ∧ n ≤ c ∧ c ≤ maxLen := by
  rcases h.2 with ⟨rfl, rfl⟩ | ⟨g, cap, cur, rfl, hg, h1, h2, h3, _⟩
  · exact ⟨_, _, rfl, Reads.of_own h, by omega, by simp [maxLen]⟩
  · exact ⟨_, _, rfl, Reads.of_own h, h2, h3⟩

theorem own_new (w : World) (base : Nat) (e : TypeId) (size n g : Nat) (cur : Array Value) (hg : g = w.heap.size) (hb : base ≤ w.heap.size) (hs : cur.size = n * size) (hn : n ≤ maxLen) :
    (w.alloc (.cells cur e)).ownsRow base e size (.slice (some ⟨g, 0, none⟩) n n) n cur.toList := by
  subst hg
  refine ⟨by simpa using hs, .inr ⟨_, n, cur, rfl, hb, heap_alloc_new w _, Nat.le_refl _, hn, hs, ?_⟩⟩
  rw [← hs]
  exact List.take_of_length_le (by simp)

/-- a block that is known whole -/
def Blk (w : World) (g : Nat) (t : TypeId) (cs : Array Value) : Prop := w.heap[g]? = some (.cells cs t (0, 0))
section
variable {w w' : World} {g : Nat} {t : TypeId} {cs : Array Value}
theorem Blk.lt (h : Blk w g t cs) : g < w.heap.size := by
  rcases Nat.lt_or_ge g w.heap.size with hlt | hge
  · exact hlt
  · unfold Blk at h; rw [Array.getElem?_eq_none hge] at h; cases h
theorem Blk.cell (h : Blk w g t cs) (i : Nat) : w.cell? ⟨g, i, none⟩ = cs[i]? := by
  unfold Blk at h
  simp [World.cell?, h]
theorem Blk.frozen (h : Blk w g t cs) (i : Nat) : w.frozen? ⟨g, i, none⟩ = false := by
  unfold Blk at h
  simp [World.frozen?, h]
theorem Blk.new (w : World) (t : TypeId) (cs : Array Value) : Blk (w.alloc (.cells cs t)) w.heap.size t cs := heap_alloc_new w _
theorem Blk.drew (h : Blk w g t cs) : Blk w.drew g t cs := h
theorem Blk.drewN (h : Blk w g t cs) (n : Nat) : Blk (w.drewN n) g t cs := h
theorem Blk.alloc (h : Blk w g t cs) (o : Obj) : Blk (w.alloc o) g t cs := (Below.heap_alloc w o g h.lt).trans h
theorem Blk.set_ (h : Blk w g t cs) (i : Nat) (u : Value) : Blk (w.setCell ⟨g, i, none⟩ u) g t (cs.setIfInBounds i u) := by
  unfold Blk at h ⊢
  simp [World.setCell, Array.getElem?_modify, h]
theorem Blk.far (h : Blk w g t cs) {p : Addr} (hp : g ≠ p.block) (u : Value) : Blk (w.setCell p u) g t cs := (Below.heap_setCell w p u g hp).trans h
theorem Blk.below {B : Nat} (h : Blk w g t cs) (hb : Below B w w') (hg : g < B) : Blk w' g t cs := (hb.block g hg).trans h
theorem Blk.grown {row : Option Nat} (h : Blk w g t cs) (hb : w.grownBy w' row) (hg : some g ≠ row) : Blk w' g t cs := (hb.block g h.lt hg).trans h
theorem Blk.ne_ {g' : Nat} {t' : TypeId} {cs' : Array Value} (h : Blk w g t cs) (h' : Blk w g' t' cs') (hne : t ≠ t') : g ≠ g' := by
  rintro rfl
  unfold Blk at h h'
  rw [h] at h'
  injection h' with h'
  injection h' with _ ht
  exact hne ht
theorem own_blk_ne {base : Nat} {e : TypeId} {size n : Nat} {v : Value} {xs : List Value} (h : w.ownsRow base e size v n xs) (hg : Blk w g t cs) (hne : e ≠ t) : v.ownBlock ≠ some g := by
  rcases h.2 with ⟨rfl, _⟩ | ⟨g', cap, cur, rfl, _, hh, _⟩
  · simp [Value.ownBlock]
  · intro he
    have : g' = g := by simpa [Value.ownBlock] using he
    subst this
    exact Blk.ne_ (t := e) hh hg hne rfl
end

theorem own_bl {w w' : World} {base B : Nat} {e : TypeId} {size n : Nat} {v : Value} {xs : List Value} (h : w.ownsRow base e size v n xs) (hb : Below B w w') (hB : w.heap.size ≤ B) : w'.ownsRow base e size v n xs := by
  refine ⟨h.1, ?_⟩
  rcases h.2 with h1 | ⟨g, cap, cur, hv, hg, hh, hr⟩
  · exact .inl h1
  · have hlt : g < w.heap.size := by
      rcases Nat.lt_or_ge g w.heap.size with hlt | hge
      · exact hlt
      · rw [Array.getElem?_eq_none hge] at hh; cases hh
    exact .inr ⟨g, cap, cur, hv, hg, (hb.block g (by omega)).trans hh, hr⟩
theorem ownsRow_far {w : World} {base g : Nat} {e t : TypeId} {size n : Nat} {v : Value} {xs : List Value} {cs : Array Value} {i : Nat} {u : Value} (h : w.ownsRow base e size v n xs) (hB : Blk w g t cs) (hne : e ≠ t) : (w.setCell ⟨g, i, none⟩ u).ownsRow base e size v n xs := by
  refine ⟨h.1, ?_⟩
  have hn := own_blk_ne h hB hne
  rcases h.2 with h1 | ⟨g', cap, cur, rfl, hg, hh, hr⟩
  · exact .inl h1
  · refine .inr ⟨g', cap, cur, rfl, hg, (Below.heap_setCell w ⟨g, i, none⟩ u g' ?_).trans hh, hr⟩
    intro he
    exact hn (by simp [Value.ownBlock, he])
end Go.Proofs.YthfndnmfnijpeaaGreat
namespace Go.Proofs.YthfndnmfnijpeaaGreat
open Go.RowKit
open LB (Bs Rec)
/-- a text of these bytes -/
abbrev txb (l : Bs) : Value := .string ⟨l.toArray⟩
abbrev tiv (a b : Int) : Value := .agg #[.int .i64 a, .int .i64 b]
abbrev plv (a b c d : Int) : Value := .agg #[.int .i64 a, .int .i64 b, .int .i64 c, .int .i64 d]
abbrev sgv (x : Bs) (a b c d e f g h i j : Int) : Value := .agg #[txb x, .int .i64 a, .int .i64 b, .int .i64 c, .int .i64 d, .int .i64 e, .int .i64 f, .int .i64 g, .int .i64 h, .int .i64 i, .int .i64 j]
theorem eqInTime (d : Nat) (x y x' y' : Int) (w : World) : (Op.equalIn (d + 1 + 1) 23 (tiv x y) (tiv x' y')).run Tryz.prog w = .ok (decide (x = x' ∧ y = y')) w := by
  have u3 := Tryz.underlying3
  have hS : Tryz.prog.underlying 23 = some (.struct (Tryz.prog.fieldsOf 23)) := by kernel_rfl
  have hp : Tryz.prog.stoodInHeld 23 = false := by kernel_rfl
  have a3 := Tryz.isAgg3
  have z3 := Tryz.sizeOf3
  rw [run_equalIn_agg w (d + 1) 23 _ _ hS hp]
  simp only [Program.fieldsOf, Tryz.underlying23]
  go_simp
  by_cases h1 : x = x' <;> by_cases h2 : y = y' <;> simp [h1, h2]
theorem eqInArc (d : Nat) (x y x' y' : Int) (w : World) : (Op.equalIn (d + 1 + 1) 24 (tiv x y) (tiv x' y')).run Tryz.prog w = .ok (decide (x = x' ∧ y = y')) w := by
  have u3 := Tryz.underlying3
  have hS : Tryz.prog.underlying 24 = some (.struct (Tryz.prog.fieldsOf 24)) := by kernel_rfl
  have hp : Tryz.prog.stoodInHeld 24 = false := by kernel_rfl
  have a3 := Tryz.isAgg3
  have z3 := Tryz.sizeOf3
  rw [run_equalIn_agg w (d + 1) 24 _ _ hS hp]
  simp only [Program.fieldsOf, Tryz.underlying24]
  go_simp
  by_cases h1 : x = x' <;> by_cases h2 : y = y' <;> simp [h1, h2]
theorem eqInPlace (a b c d a' b' c' d' : Int) (w : World) : (Op.equalIn 10000 26 (plv a b c d) (plv a' b' c' d')).run Tryz.prog w = .ok (decide (a = a' ∧ b = b' ∧ c = c' ∧ d = d')) w := by
  have hS : Tryz.prog.underlying 26 = some (.struct (Tryz.prog.fieldsOf 26)) := by kernel_rfl
  have hp : Tryz.prog.stoodInHeld 26 = false := by kernel_rfl
  have a3 := Tryz.isAgg24
  have z3 := Tryz.sizeOf24
  have hA := fun (x y x' y' : Int) (w : World) => eqInArc 9997 x y x' y' w
  rw [show (10000 : Nat) = 9999 + 1 from rfl, run_equalIn_agg w 9999 26 _ _ hS hp]
  simp only [Program.fieldsOf, Tryz.underlying26]
  simp only [Nat.reduceAdd] at hA
  go_simp
  by_cases h1 : a = a' <;> by_cases h2 : b = b' <;> by_cases h3 : c = c' <;> by_cases h4 : d = d' <;> simp [h1, h2, h3, h4]
theorem eqInMotion (a b c d a' b' c' d' : Int) (w : World) : (Op.equalIn 10000 28 (plv a b c d) (plv a' b' c' d')).run Tryz.prog w = .ok (decide (a = a' ∧ b = b' ∧ c = c' ∧ d = d')) w := by
  have hS : Tryz.prog.underlying 28 = some (.struct (Tryz.prog.fieldsOf 28)) := by kernel_rfl
  have hp : Tryz.prog.stoodInHeld 28 = false := by kernel_rfl
  have a3 := Tryz.isAgg24
  have z3 := Tryz.sizeOf24
  have hA := fun (x y x' y' : Int) (w : World) => eqInArc 9997 x y x' y' w
  rw [show (10000 : Nat) = 9999 + 1 from rfl, run_equalIn_agg w 9999 28 _ _ hS hp]
  simp only [Program.fieldsOf, Tryz.underlying28]
  simp only [Nat.reduceAdd] at hA
  go_simp
  by_cases h1 : a = a' <;> by_cases h2 : b = b' <;> by_cases h3 : c = c' <;> by_cases h4 : d = d' <;> simp [h1, h2, h3, h4]
def sgE (x : Bs) (a b c d e f g h i j : Int) (x' : Bs) (a' b' c' d' e' f' g' h' i' j' : Int) : Bool := decide (x = x' ∧ a = a' ∧ b = b' ∧ c = c' ∧ d = d' ∧ e = e' ∧ f = f' ∧ g = g' ∧ h = h' ∧ i = i' ∧ j = j')
set_option maxHeartbeats 4000000 in
theorem eqInSight (x : Bs) (a b c d e f g h i j : Int) (x' : Bs) (a' b' c' d' e' f' g' h' i' j' : Int) (w : World) :
    (Op.equalIn 10000 30 (sgv x a b c d e f g h i j) (sgv x' a' b' c' d' e' f' g' h' i' j')).run Tryz.prog w = .ok (sgE x a b c d e f g h i j x' a' b' c' d' e' f' g' h' i' j') w := by
  have hS : Tryz.prog.underlying 30 = some (.struct (Tryz.prog.fieldsOf 30)) := by kernel_rfl
  have hp : Tryz.prog.stoodInHeld 30 = false := by kernel_rfl
  have a1 := Tryz.isAgg23
  have z1 := Tryz.sizeOf23
  have u3 := Tryz.underlying3
  have a3 := Tryz.isAgg3
  have z3 := Tryz.sizeOf3
  have u4 := Tryz.underlying9
  have a4 := Tryz.isAgg9
  have z4 := Tryz.sizeOf9
  have hA := fun (x y x' y' : Int) (w : World) => eqInTime 9997 x y x' y' w
  rw [show (10000 : Nat) = 9999 + 1 from rfl, run_equalIn_agg w 9999 30 _ _ hS hp]
  simp only [Program.fieldsOf, Tryz.underlying30]
  simp only [Nat.reduceAdd] at hA
  go_simp
  unfold sgE
  by_cases h1 : x = x'
  · by_cases h2 : a = a'
    · by_cases h3 : b = b' ∧ c = c'
      · by_cases h4 : d = d'
        · by_cases h5 : e = e'
          · by_cases h6 : f = f'
            · by_cases h7 : g = g'
              · by_cases h8 : h = h'
                · by_cases h9 : i = i' <;> by_cases h10 : j = j' <;> simp [h1, h2, h3, h4, h5, h6, h7, h8, h9, h10]
                · simp [h1, h2, h3, h4, h5, h6, h7, h8]
              · simp [h1, h2, h3, h4, h5, h6, h7]
            · simp [h1, h2, h3, h4, h5, h6]
          · simp [h1, h2, h3, h4, h5]
        · simp [h1, h2, h3, h4]
      · have : ∀ p : Prop, ¬ (b = b' ∧ c = c' ∧ p) := fun p ⟨q, r, _⟩ => h3 ⟨q, r⟩
        simp [h1, h2, h3, this]
    · simp [h1, h2]
  · simp [h1]
end Go.Proofs.YthfndnmfnijpeaaGreat
namespace Go.Proofs.YthfndnmfnijpeaaGreat.PQ
/-- least members, one pair of things that touch put together -/
def mrg (c : Nat → Nat) (i k : Nat) : Nat → Nat := fun j => if c j = max (c i) (c k) then min (c i) (c k) else c j
/-- one pair looked at -/
def stp (t : Nat → Nat → Bool) (c : Nat → Nat) (i k : Nat) : Nat → Nat := if t i k = true then mrg c i k else c
/-- the pairs of one thing with those before it -/
def row (t : Nat → Nat → Bool) (c : Nat → Nat) (i : Nat) : Nat → (Nat → Nat)
  | 0 => c
  | k + 1 => stp t (row t c i k) i k
end Go.Proofs.YthfndnmfnijpeaaGreat.PQ
namespace Go.Proofs.YthfndnmfnijpeaaGreat.PQ
end Go.Proofs.YthfndnmfnijpeaaGreat.PQ
namespace Go.Proofs.YthfndnmfnijpeaaGreat.PQ
def upd (pt : Nat → Nat) (m v : Nat) : Nat → Nat := fun x => if x = m then v else pt x
section
variable {c : Nat → Nat} {t : Nat → Nat → Bool} {n i : Nat} {pt : Nat → Nat} {T : List Nat} {k m : Nat}
end
/-- how many have no number yet -/
def unm (pt : Nat → Nat) (n : Nat) : Nat := ((List.range n).filter (fun x => pt x = 0)).length
theorem unm_upd {pt : Nat → Nat} {n m v : Nat} (hm : m < n) (h0 : pt m = 0) (hv : v ≠ 0) : unm (upd pt m v) n + 1 = unm pt n := by
  induction n with
  | zero => omega
  | succ n ih =>
    unfold unm at *
    rw [List.range_succ, List.filter_append, List.filter_append, List.length_append, List.length_append]
    by_cases e : m = n
    · subst e
      have : (List.range m).filter (fun x => decide (upd pt m v x = 0)) = (List.range m).filter (fun x => decide (pt x = 0)) := by
        apply List.filter_congr
        intro x hx
        have : x < m := by simpa using hx
        simp [upd, show x ≠ m by omega]
      rw [this]
      simp [upd, h0, hv]
    · have := ih (by omega)
      have hn : upd pt m v n = pt n := by unfold upd; rw [if_neg (by omega)]
      have : (List.filter (fun x => decide (upd pt m v x = 0)) [n]) = List.filter (fun x => decide (pt x = 0)) [n] := by
        simp [List.filter_cons, hn]
      rw [this]
      omega
end Go.Proofs.YthfndnmfnijpeaaGreat.PQ
namespace Go.Proofs.YthfndnmfnijpeaaGreat.PQ
end Go.Proofs.YthfndnmfnijpeaaGreat.PQ
