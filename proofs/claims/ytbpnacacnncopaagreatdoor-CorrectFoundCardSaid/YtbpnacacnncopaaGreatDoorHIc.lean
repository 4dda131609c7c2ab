/- The last step of a row where the call left nothing changed that was there. -/
import Derived.Test.YtbpnacacnncopaaGreatDoorProg
import Derived.Test.YtbpnacacnncopaaGreatDoorRows
import Derived.Lib.AppendIntMem
import Derived.Lib.SmallJoins
import Derived.Shelf.Strings.Split
import Derived.Ground.NamesProg
import Derived.Shelf.Strconv.AtoiAll
import Derived.Lib.Split
import Derived.Laws.StructEq
import Derived.Below
import Derived.ProofKit
import Derived.Test.YtbpnacacnncopaaGreatDoorHIa
set_option linter.unusedVariables false
set_option linter.unusedSimpArgs false
namespace Go.Proofs.YtbpnacacnncopaaGreatDoor
open Go.RowKit Go.Shelf Frm
/-- a text of these bytes -/
abbrev tx (l : Bs) : Value := .string ⟨l.toArray⟩
/-- the library's table of powers of ten stands as it was laid -/
def Tab (w : World) : Prop := Lib.TabIs Tryz.prog w "internal/strconv.uint64pow10" .u64 Lib.pow10Tab
theorem pow10_global : Tryz.prog.globalNamed "internal/strconv.uint64pow10" = some 0 := by kernel_rfl
theorem Tab.stays {B : Nat} {w w' : World} (h : Tab w) (hb : Below B w w') (hB : w.heap.size ≤ B) : Tab w' := Go.Joins.tab_stays pow10_global h hb hB
theorem itoa_any (n : Int) (w : World) (h0 : -9223372036854775808 ≤ n) (h1 : n ≤ 9223372036854775807) (ht : Tab w) :
    Calls Tryz.prog 25 #[.int .i64 n] w fun e w' => e = .returned (tx (Lib.itoa n)) ∧ Below w.heap.size w w' :=
  (Any.strconv_Itoa Tryz.lays171 n h0 h1 w ht).mono fun e w' ⟨he, k, os, hw⟩ => ⟨he, by rw [hw]; exact Lib.below_grow _ w (Nat.le_refl _) k os⟩
theorem repeat_any (s : ByteArray) (c : Nat) (w : World) (hc : c ≤ 9223372036854775807) (hlen : s.size * c ≤ 140737488355328) :
    Calls Tryz.prog 161 #[.string s, .int .i64 c] w fun e w' => e = .returned (tx (Lib.repeatL s.data.toList c)) ∧ Below w.heap.size w w' :=
  Any.strings_Repeat Tryz.lays105 Tryz.Builder_Extra_105 s c w hc hlen
theorem cutPrefix_any (s p : ByteArray) (w : World) :
    Calls Tryz.prog 126 #[.string s, .string p] w fun e w' => e = .returned (.tuple #[tx (Lib.trimPrefix s.data.toList p.data.toList), .bool (Lib.hasPrefix s.data.toList p.data.toList)]) ∧ w' = w :=
  Any.strings_CutPrefix Tryz.lays103 s p w
/-- whatever internal/bytealg.MaxLen holds -/
def Mx (w : World) : Prop := ∃ m, w.cell? ⟨1, 0, none⟩ = some (.int .i64 m)
theorem cut_any (s sep : ByteArray) (w : World) (hs : s.size < 4294967281) (hm : Mx w) :
    Calls Tryz.prog 122 #[.string s, .string sep] w fun e w' => e = .returned (.tuple #[tx (Lib.cut s.data.toList sep.data.toList).1, tx (Lib.cut s.data.toList sep.data.toList).2.1, .bool (Lib.cut s.data.toList sep.data.toList).2.2]) ∧ Below w.heap.size w w' := by
  obtain ⟨m, hm⟩ := hm
  exact (Any.strings_Cut Tryz.lays145 s sep m w hs hm).mono fun e w' ⟨he, n, hw⟩ => ⟨he, by rw [hw]; exact ⟨rfl, rfl, rfl, Nat.le_refl _, fun _ _ => rfl⟩⟩
abbrev IsB (B b : Nat) (l : Bs) (w : World) : Prop := Lib.IsBuilder 108 5 B b (Lib.byteCells l) w
theorem IsB.bl {B b : Nat} {l : Bs} {w w' : World} (h : IsB B b l w) (hb : Below w.heap.size w w') : IsB B b l w' := by
  have go : ∀ p, Lib.BuilderAt 108 5 B b p (Lib.byteCells l) w → Lib.BuilderAt 108 5 B b p (Lib.byteCells l) w' := fun p ⟨h0, v, h1, h2, h3⟩ => by
    refine ⟨h0, v, ?_, own_bl h2 hb (Nat.le_refl _), h3⟩
    have hlt : b < w.heap.size := by
      rcases Nat.lt_or_ge b w.heap.size with h | h
      · exact h
      · rw [Array.getElem?_eq_none h] at h1; cases h1
    exact (hb.block b hlt).trans h1
  exact h.imp (go _) (go _)
theorem writeByte_any (B b : Nat) (l : Bs) (c : UInt8) (w : World) (h : IsB B b l w) (hl : l.length ≤ 1000000) (hBw : B ≤ w.heap.size) :
    Calls Tryz.prog 108 #[.pointer (some ⟨b, 0, none⟩), .int .u8 c.toNat] w fun e w' => e = .returned .nilIface ∧ IsB B b (l ++ [c]) w' ∧ Below B w w' :=
  (Any.Builder_WriteByte Tryz.lays167 Tryz.Builder_Extra_167 B b (Lib.byteCells l) c.toNat w h (by rw [Lib.byteCells_length]; omega) hBw).mono fun e w' ⟨he, h1, h2⟩ => ⟨he, .inr (by rw [show Lib.byteCells (l ++ [c]) = Lib.byteCells l ++ [.int .u8 c.toNat] by simp [Lib.byteCells]]; exact h1), h2⟩
theorem writeMinus_any (B b : Nat) (l : Bs) (w : World) (h : IsB B b l w) (hl : l.length ≤ 1000000) (hBw : B ≤ w.heap.size) :
    Calls Tryz.prog 108 #[.pointer (some ⟨b, 0, none⟩), .int .u8 45] w fun e w' => e = .returned .nilIface ∧ IsB B b (l ++ [45]) w' ∧ Below B w w' := writeByte_any B b l 45 w h hl hBw
theorem writeString_any (B b : Nat) (l m : Bs) (w : World) (h : IsB B b l w) (hl : l.length ≤ 1000000) (hm : m.length ≤ 1000000) (hBw : B ≤ w.heap.size) :
    Calls Tryz.prog 71 #[.pointer (some ⟨b, 0, none⟩), tx m] w fun e w' => (∃ k : Int, e = .returned (.tuple #[.int .i64 k, .nilIface])) ∧ IsB B b (l ++ m) w' ∧ Below B w w' :=
  (Any.Builder_WriteString Tryz.lays166 Tryz.Builder_Extra_166 B b (Lib.byteCells l) ⟨m.toArray⟩ w h (by rw [Lib.byteCells_length, Lib.size_eq]; simp; omega) hBw).mono fun e w' ⟨he, h1, h2⟩ => ⟨⟨_, he⟩, .inr (by rw [Lib.byteCells_append, ← Lib.strCells_toArray]; exact h1), h2⟩
theorem bString_any (B b : Nat) (l : Bs) (w : World) (h : IsB B b l w) (hBw : B ≤ w.heap.size) :
    Calls Tryz.prog 72 #[.pointer (some ⟨b, 0, none⟩)] w fun e w' => e = .returned (tx l) ∧ Below B w w' :=
  Any.Builder_String_any Tryz.lays169 Tryz.Builder_Extra_169 B b l w h hBw
theorem rep48 : ∀ k, Lib.repeatL [48] k = List.replicate k 48
  | 0 => rfl
  | k + 1 => by rw [Lib.repeatL, rep48 k]; rfl
end Go.Proofs.YtbpnacacnncopaaGreatDoor
namespace Go.Proofs.YtbpnacacnncopaaGreatDoor
open Go.RowKit Go.Shelf Frm
open Lib (decDigits)
theorem tx_size (l : Bs) : (⟨l.toArray⟩ : ByteArray).size = l.length := by show l.toArray.size = _; simp
theorem tx_add (x y : Bs) (hx : x.length ≤ 1000000) (hy : y.length ≤ 1000000) : ∀ W, (Op.stringOp .add ⟨x.toArray⟩ ⟨y.toArray⟩).run Tryz.prog W = .ok (tx (x ++ y)) W := fun W => run_string_add_lists W x y (by omega) (by omega)
set_option maxHeartbeats 1000000 in
set_option maxRecDepth 100000 in
theorem padded_any (n : Nat) (k : Nat) (w : World) (h1 : n < 100000000) (hk : 0 < k) (hk1 : k ≤ 8) (ht : Tab w) :
    Calls Tryz.prog 109 #[.int .i64 (n : Int), .int .i64 (k : Int)] w fun e w' => e = .returned (tx (dgs n k)) ∧ Below w.heap.size w w' := by
  have K1 := itoa_any (n : Int) w (by omega) (by omega) ht
  rw [itoa_nat] at K1
  have hl := dd_len 7 n (by simpa using h1)
  have hd := dgs_pad (n := n) hk
  generalize decDigits n = D at K1 hl hd
  have hsz := tx_size D
  obtain ⟨d, hd0⟩ : ∃ d, D.length = d := ⟨_, rfl⟩
  rw [hd0] at hsz hd hl
  have hs1 : wrap64 ((k : Int) - (d : Int)) = (k : Int) - (d : Int) := IntWalk.wrap64_in _ (by omega)
  have hmx : max 0 ((k : Int) - (d : Int)) = ((k - d : Nat) : Int) := by omega
  have K2 := Lib.hid (fun W => repeat_any ⟨#[48]⟩ (k - d) W (by omega) (by show 1 * (k - d) ≤ _; omega))
  have hrp : Lib.repeatL (⟨#[48]⟩ : ByteArray).data.toList (k - d) = List.replicate (k - d) 48 := rep48 _
  rw [hrp] at K2
  have ha := tx_add (List.replicate (k - d) 48) D (by simp; omega) (by omega)
  rw [← hd] at ha
  have K1 := Lib.hid K1
  generalize List.replicate (k - d) (48 : UInt8) = R at K2 ha
  clear ht hd hrp hd0
  go_enter Tryz.func109, Tryz.ntmps109
  go_wp2_with fail
  (with_reducible refine (K1.out).mono ?_)
  rintro e w1 ⟨rfl, hb1⟩
  have B1 := Lib.hid hb1
  clear hb1 K1
  go_wp2_with fail
  (with_reducible refine (K2.out _).mono ?_)
  rintro e w2 ⟨rfl, hb2⟩
  have B2 := Lib.hid (B1.out.trans (hb2.mono B1.out.size))
  clear hb2 K2
  go_wp2
  go_ret
  exact ⟨rfl, B2.out⟩
set_option maxHeartbeats 4000000 in
set_option maxRecDepth 100000 in
theorem text_any (n : Int) (w : World) (hn : n.natAbs ≤ 1099511627776) (ht : Tab w) :
    Calls Tryz.prog 68 #[.int .i64 n] w fun e w' => e = .returned (tx (textL n)) ∧ Below w.heap.size w w' := by
  have hI0 : IsB w.heap.size w.heap.size [] (w.alloc (.cells #[.pointer none, .slice none 0 0] 108)) := Lib.fresh_isBuilder 108 5 w
  have I0 := Lib.hid hI0
  have B0 := Lib.hid (bl_alloc w (.cells #[.pointer none, .slice none 0 0] 108))
  obtain ⟨m, hm⟩ : ∃ m, n.natAbs = m := ⟨_, rfl⟩
  have htx : textL n = (if n < 0 then [45] else []) ++ (decDigits (m / 60000) ++ 45 :: (dgs (m % 60000 / 1000) 2 ++ 46 :: (if m % 1000 % 100 = 0 then decDigits (m % 1000 / 100) else dgs (m % 1000) 3))) := by rw [← hm]; rfl
  have KI := Lib.hid (fun (k : Nat) (W : World) (hk : k < 100000000) (h : Below w.heap.size w W) => itoa_any (k : Int) W (by omega) (by omega) (ht.stays h (Nat.le_refl _)))
  have KP := Lib.hid (fun (k j : Nat) (W : World) (hk : k < 100000000) (hj : 0 < j) (hj1 : j ≤ 8) (h : Below w.heap.size w W) => padded_any k j W hk hj hj1 (ht.stays h (Nat.le_refl _)))
  have l1 := dd_len 7 (m / 60000) (by omega)
  have l2 : (dgs (m % 60000 / 1000) 2).length = 2 := dgs_len 2 _ (by omega)
  have l3 := dd_len 7 (m % 1000 / 100) (by omega)
  have l4 : (dgs (m % 1000) 3).length = 3 := dgs_len 3 _ (by omega)
  obtain ⟨d1, hd1⟩ : ∃ d, m / 60000 = d := ⟨_, rfl⟩
  obtain ⟨d2, hd2⟩ : ∃ d, m % 60000 = d := ⟨_, rfl⟩
  obtain ⟨d3, hd3⟩ : ∃ d, d2 / 1000 = d := ⟨_, rfl⟩
  obtain ⟨d4, hd4⟩ : ∃ d, m % 1000 = d := ⟨_, rfl⟩
  obtain ⟨d5, hd5⟩ : ∃ d, d4 / 100 = d := ⟨_, rfl⟩
  obtain ⟨d6, hd6⟩ : ∃ d, d4 % 100 = d := ⟨_, rfl⟩
  have q1 : ((m : Int)).tdiv 60000 = (d1 : Int) := by rw [Int.tdiv_eq_ediv_of_nonneg (by omega)]; omega
  have q2 : ((m : Int)).tmod 60000 = (d2 : Int) := by rw [Int.tmod_eq_emod_of_nonneg (by omega)]; omega
  have q3 : ((d2 : Int)).tdiv 1000 = (d3 : Int) := by rw [Int.tdiv_eq_ediv_of_nonneg (by omega)]; omega
  have q4 : ((m : Int)).tmod 1000 = (d4 : Int) := by rw [Int.tmod_eq_emod_of_nonneg (by omega)]; omega
  have q5 : ((d4 : Int)).tmod 100 = (d6 : Int) := by rw [Int.tmod_eq_emod_of_nonneg (by omega)]; omega
  have q6 : ((d4 : Int)).tdiv 100 = (d5 : Int) := by rw [Int.tdiv_eq_ediv_of_nonneg (by omega)]; omega
  have hb1 : d1 < 100000000 := by omega
  have hb2 : d3 < 100000000 := by omega
  have hb3 : d5 < 100000000 := by omega
  have hb4 : d4 < 100000000 := by omega
  have hok : m ≤ 1099511627776 := by omega
  rw [hd1] at l1
  rw [hd2, hd3] at l2
  rw [hd4, hd5] at l3
  rw [hd4] at l4
  rw [hd1, hd2, hd3, hd4, hd5, hd6] at htx
  clear hd1 hd2 hd3 hd4 hd5 hd6
  have HM := Lib.hid hm
  have HTX := Lib.hid htx
  clear hI0 ht htx hm
  go_enter Tryz.func68, Tryz.ntmps68
  go_upto_region 2 with (fail)
  generalize w.alloc (.cells #[.pointer none, .slice none 0 0] 108) = w1 at I0 B0 ⊢
  obtain ⟨l0, hl0⟩ : ∃ l0 : Bs, (if n < 0 then [45] else []) = l0 := ⟨_, rfl⟩
  have hfin : textL n = l0 ++ (decDigits (d1) ++ [45] ++ dgs (d3) 2 ++ [46]) ++ (if d6 = 0 then decDigits (d5) else dgs (d4) 3) := by
    rw [HTX.out, hl0]
    simp
  have HF := Lib.hid hfin
  clear hfin HTX
  rcases Int.lt_or_le n 0 with hneg | hpos
  case' inl =>
    obtain rfl : n = -(m : Int) := by have := HM.out; omega
    have dn : decide (-(m : Int) < 0) = true := decide_eq_true hneg
    rw [if_pos hneg] at hl0
    have KW := Lib.hid (writeMinus_any w.heap.size w.heap.size [] w1 I0.out (by simp) B0.out.size)
    go_wp2_with fail
    (with_reducible refine (KW.out).mono ?_)
    rintro e w2 ⟨rfl, hI2, hb2'⟩
    have I2 : Hid (IsB w.heap.size w.heap.size l0 w2) := Lib.hid (by rw [← hl0]; exact hI2)
    have B2 := Lib.hid (B0.out.trans hb2')
    have L0 : l0.length ≤ 1 := by rw [← hl0]; simp
    have hng : wrap64 (m : Int) = (m : Int) := IntWalk.wrap64_in _ (by omega)
    clear hI2 hb2' KW I0 B0 dn hneg hl0
    go_upto_region 5 with (fail)
  case' inr =>
    obtain rfl : n = (m : Int) := by have := HM.out; omega
    have dn : decide ((m : Int) < 0) = false := decide_eq_false (by omega)
    rw [if_neg (by omega)] at hl0
    have I2 : Hid (IsB w.heap.size w.heap.size l0 w1) := Lib.hid (by rw [← hl0]; exact I0.out)
    have L0 : l0.length ≤ 1 := by rw [← hl0]; simp
    have B2 := B0
    go_upto_region 5 with (fail)
    clear I0 B0 dn hl0 hpos
    rename World => w2
  all_goals
    have KI1 := KI.out (d1) w2 hb1 B2.out
    rw [itoa_nat] at KI1
    have KP2 := fun (W : World) (h : Below w.heap.size w W) => KP.out (d3) 2 W hb2 (by decide) (by decide) h
    rw [show ((2 : Nat) : Int) = 2 from rfl] at KP2
    generalize decDigits (d1) = D at KI1 HF l1
    generalize dgs (d3) 2 = G2 at KP2 HF l2
    have KI1 := Lib.hid KI1
    have KP2 := Lib.hid KP2
    have ha1 := tx_add D [45] (by omega) (by simp)
    have ha2 := tx_add (D ++ [45]) G2 (by simp; omega) (by omega)
    have ha3 := tx_add (D ++ [45] ++ G2) [46] (by simp; omega) (by simp)
    have L3 : (D ++ [45] ++ G2 ++ [46]).length ≤ 20 := by simp; omega
    generalize D ++ [45] = E1 at ha1 ha2 ha3 HF L3
    generalize E1 ++ G2 = E2 at ha2 ha3 HF L3
    generalize E2 ++ [46] = E3 at ha3 HF L3
    go_wp2_with fail
    (with_reducible refine (KI1.out).mono ?_)
    rintro e w3 ⟨rfl, hb3⟩
    have B3 := Lib.hid (B2.out.trans (hb3.mono B2.out.size))
    have I3 := Lib.hid (I2.out.bl hb3)
    have KP3 := Lib.hid (KP2.out w3 B3.out)
    clear hb3 KI1 I2 B2 KP2
    go_wp2_with fail
    (with_reducible refine (KP3.out).mono ?_)
    rintro e w4 ⟨rfl, hb4⟩
    have B4 := Lib.hid (B3.out.trans (hb4.mono B3.out.size))
    have I4 := Lib.hid (I3.out.bl hb4)
    have KS := Lib.hid (writeString_any w.heap.size w.heap.size l0 E3 w4 I4.out (by omega) (by omega) B4.out.size)
    clear hb4 KP3 I3 B3
    go_wp2_with fail
    (with_reducible refine (KS.out).mono ?_)
    rintro e w5 ⟨⟨k5, rfl⟩, hI5, hb5⟩
    have I5 := Lib.hid hI5
    have B5 := Lib.hid (B4.out.trans hb5)
    clear hI5 hb5 KS I4 B4 ha1 ha2 ha3
    have L5 : (l0 ++ E3).length ≤ 100 := by rw [List.length_append]; omega
    generalize l0 ++ E3 = l5 at I5 HF L5
    by_cases h0 : d6 = 0
    · have hbe : ((d6 : Int) == 0) = true := by rw [h0]; rfl
      have KI2 := KI.out (d5) w5 hb3 B5.out
      rw [itoa_nat] at KI2
      rw [if_pos h0] at HF
      generalize decDigits (d5) = T at KI2 HF l3
      have KI2 := Lib.hid KI2
      clear KI KP h0
      go_wp2_with fail
      (with_reducible refine (KI2.out).mono ?_)
      rintro e w6 ⟨rfl, hb6⟩
      have B6 := Lib.hid (B5.out.trans (hb6.mono B5.out.size))
      have I6 := Lib.hid (I5.out.bl hb6)
      have KS := Lib.hid (writeString_any w.heap.size w.heap.size l5 T w6 I6.out (by omega) (by omega) B6.out.size)
      clear hb6 KI2 I5 B5
      go_wp2_with fail
      (with_reducible refine (KS.out).mono ?_)
      rintro e w7 ⟨⟨k7, rfl⟩, hI7, hb7⟩
      rw [← HF.out] at hI7
      have B7 := Lib.hid (B6.out.trans hb7)
      have KT := Lib.hid (bString_any w.heap.size w.heap.size _ w7 hI7 B7.out.size)
      clear hI7 hb7 KS I6 B6 HF
      go_wp2_with fail
      (with_reducible refine (KT.out).mono ?_)
      rintro e w8 ⟨rfl, hb8⟩
      have B8 := Lib.hid (B7.out.trans hb8)
      clear hb8 KT B7
      go_wp2
      go_ret
      exact ⟨rfl, B8.out⟩
    · have hbe : ((d6 : Int) == 0) = false := by simpa using h0
      have KI2 := KP.out (d4) 3 w5 hb4 (by decide) (by decide) B5.out
      rw [show ((3 : Nat) : Int) = 3 from rfl] at KI2
      rw [if_neg h0] at HF
      generalize dgs (d4) 3 = T at KI2 HF l4
      have KI2 := Lib.hid KI2
      clear KI KP h0
      go_wp2_with fail
      (with_reducible refine (KI2.out).mono ?_)
      rintro e w6 ⟨rfl, hb6⟩
      have B6 := Lib.hid (B5.out.trans (hb6.mono B5.out.size))
      have I6 := Lib.hid (I5.out.bl hb6)
      have KS := Lib.hid (writeString_any w.heap.size w.heap.size l5 T w6 I6.out (by omega) (by omega) B6.out.size)
      clear hb6 KI2 I5 B5
      go_wp2_with fail
      (with_reducible refine (KS.out).mono ?_)
      rintro e w7 ⟨⟨k7, rfl⟩, hI7, hb7⟩
      rw [← HF.out] at hI7
      have B7 := Lib.hid (B6.out.trans hb7)
      have KT := Lib.hid (bString_any w.heap.size w.heap.size _ w7 hI7 B7.out.size)
      clear hI7 hb7 KS I6 B6 HF
      go_wp2_with fail
      (with_reducible refine (KT.out).mono ?_)
      rintro e w8 ⟨rfl, hb8⟩
      have B8 := Lib.hid (B7.out.trans hb8)
      clear hb8 KT B7
      go_wp2
      go_ret
      exact ⟨rfl, B8.out⟩
end Go.Proofs.YtbpnacacnncopaaGreatDoor
namespace Go.Proofs
open Go.Shelf
def Tryz.lays146_ren : Go.Shelf.Ren := ⟨fun | 146 => 36 | 221 => 80 | 268 => 118 | 138 => 119 | 143 => 120 | 195 => 171 | 197 => 172 | 218 => 173 | 219 => 174 | 260 => 209 | 217 => 210 | 225 => 211 | 224 => 212 | 267 => 213 | 266 => 231 | 314 => 232 | n => n, fun | 9 => 9 | 31 => 61 | 3 => 3 | 4 => 4 | 0 => 0 | 105 => 183 | 21 => 21 | 5 => 5 | 46 => 90 | 119 => 224 | 139 => 227 | 138 => 226 | 146 => 219 | 51 => 207 | n => n, fun | 1 => 1 | 3 => 4 | 4 => 5 | n => n⟩
theorem Tryz.lays146 : Go.Proofs.Lays.n146 Tryz.prog Tryz.lays146_ren := {
  mixed := by kernel_rfl
  f138 := Tryz.func119.trans (congrArg some (by kernel_rfl))
  f143 := Tryz.func120.trans (congrArg some (by kernel_rfl))
  f146 := Tryz.func36.trans (congrArg some (by kernel_rfl))
  f195 := Tryz.func171.trans (congrArg some (by kernel_rfl))
  f197 := Tryz.func172.trans (congrArg some (by kernel_rfl))
  f217 := Tryz.func210.trans (congrArg some (by kernel_rfl))
  f218 := Tryz.func173.trans (congrArg some (by kernel_rfl))
  f219 := Tryz.func174.trans (congrArg some (by kernel_rfl))
  f221 := Tryz.func80.trans (congrArg some (by kernel_rfl))
  f224 := Tryz.func212.trans (congrArg some (by kernel_rfl))
  f225 := Tryz.func211.trans (congrArg some (by kernel_rfl))
  f260 := Tryz.func209.trans (congrArg some (by kernel_rfl))
  f266 := Tryz.func231.trans (congrArg some (by kernel_rfl))
  f267 := Tryz.func213.trans (congrArg some (by kernel_rfl))
  f268 := Tryz.func118.trans (congrArg some (by kernel_rfl))
  f314 := Tryz.func232.trans (congrArg some (by kernel_rfl))
  t0 := Tryz.underlying0
  a0 := Tryz.isAgg0
  z0 := Tryz.sizeOf0
  v0 := Tryz.zeroValue0
  t3 := Tryz.underlying3
  a3 := Tryz.isAgg3
  z3 := Tryz.sizeOf3
  v3 := Tryz.zeroValue3
  t4 := Tryz.underlying4
  a4 := Tryz.isAgg4
  z4 := Tryz.sizeOf4
  v4 := Tryz.zeroValue4
  t5 := Tryz.underlying5
  a5 := Tryz.isAgg5
  z5 := Tryz.sizeOf5
  v5 := Tryz.zeroValue5
  t9 := Tryz.underlying9
  a9 := Tryz.isAgg9
  z9 := Tryz.sizeOf9
  v9 := Tryz.zeroValue9
  t21 := Tryz.underlying21
  a21 := Tryz.isAgg21
  z21 := Tryz.sizeOf21
  v21 := Tryz.zeroValue21
  t31 := Tryz.underlying61
  a31 := Tryz.isAgg61
  z31 := Tryz.sizeOf61
  v31 := Tryz.zeroValue61
  t46 := Tryz.underlying90
  a46 := Tryz.isAgg90
  z46 := Tryz.sizeOf90
  v46 := Tryz.zeroValue90
  t51 := Tryz.underlying207
  a51 := Tryz.isAgg207
  z51 := Tryz.sizeOf207
  v51 := Tryz.zeroValue207
  t105 := Tryz.underlying183
  a105 := Tryz.isAgg183
  z105 := Tryz.sizeOf183
  v105 := Tryz.zeroValue183
  t119 := Tryz.underlying224
  a119 := Tryz.isAgg224
  z119 := Tryz.sizeOf224
  t138 := Tryz.underlying226
  a138 := Tryz.isAgg226
  z138 := Tryz.sizeOf226
  v138 := Tryz.zeroValue226
  t139 := Tryz.underlying227
  a139 := Tryz.isAgg227
  z139 := Tryz.sizeOf227
  v139 := Tryz.zeroValue227
  t146 := Tryz.underlying219
  a146 := Tryz.isAgg219
  z146 := Tryz.sizeOf219
  v146 := Tryz.zeroValue219
  g1 := by kernel_rfl
  g3 := by kernel_rfl
  g4 := by kernel_rfl }
def Tryz.lays172_ren : Go.Shelf.Ren := ⟨fun | 172 => 86 | 244 => 128 | 245 => 129 | 247 => 179 | 279 => 180 | 280 => 181 | 281 => 182 | 282 => 183 | 287 => 216 | 316 => 217 | 171 => 25 | 205 => 218 | 321 => 234 | 322 => 235 | 243 => 69 | 246 => 110 | 283 => 162 | 284 => 163 | 285 => 164 | 286 => 165 | 129 => 202 | 317 => 201 | 318 => 203 | 319 => 204 | 320 => 205 | 337 => 229 | 338 => 230 | n => n, fun | 9 => 9 | 3 => 3 | 75 => 111 | 76 => 112 | 4 => 4 | 5 => 5 | 167 => 188 | 37 => 106 | 0 => 0 | 85 => 189 | 2 => 2 | 168 => 191 | 53 => 175 | 175 => 210 | 46 => 90 | 210 => 214 | 127 => 142 | 145 => 232 | 143 => 230 | 21 => 21 | 171 => 174 | 173 => 178 | 212 => 206 | 51 => 207 | 20 => 20 | 213 => 208 | 232 => 242 | 233 => 243 | 80 => 75 | n => n, fun | 15 => 2 | 16 => 3 | 17 => 0 | 18 => 6 | 19 => 7 | n => n⟩
theorem Tryz.lays172 : Go.Proofs.LaysC.n172 Tryz.prog Tryz.lays172_ren := {
  mixed := by kernel_rfl
  f129 := Tryz.func202.trans (congrArg some (by kernel_rfl))
  f171 := Tryz.func25.trans (congrArg some (by kernel_rfl))
  f172 := Tryz.func86.trans (congrArg some (by kernel_rfl))
  f205 := Tryz.func218.trans (congrArg some (by kernel_rfl))
  f243 := Tryz.func69.trans (congrArg some (by kernel_rfl))
  f244 := Tryz.func128.trans (congrArg some (by kernel_rfl))
  f245 := Tryz.func129.trans (congrArg some (by kernel_rfl))
  f246 := Tryz.func110.trans (congrArg some (by kernel_rfl))
  f247 := Tryz.func179.trans (congrArg some (by kernel_rfl))
  f279 := Tryz.func180.trans (congrArg some (by kernel_rfl))
  f280 := Tryz.func181.trans (congrArg some (by kernel_rfl))
  f281 := Tryz.func182.trans (congrArg some (by kernel_rfl))
  f282 := Tryz.func183.trans (congrArg some (by kernel_rfl))
  f283 := Tryz.func162.trans (congrArg some (by kernel_rfl))
  f284 := Tryz.func163.trans (congrArg some (by kernel_rfl))
  f285 := Tryz.func164.trans (congrArg some (by kernel_rfl))
  f286 := Tryz.func165.trans (congrArg some (by kernel_rfl))
  f287 := Tryz.func216.trans (congrArg some (by kernel_rfl))
  f316 := Tryz.func217.trans (congrArg some (by kernel_rfl))
  f317 := Tryz.func201.trans (congrArg some (by kernel_rfl))
  f318 := Tryz.func203.trans (congrArg some (by kernel_rfl))
  f319 := Tryz.func204.trans (congrArg some (by kernel_rfl))
  f320 := Tryz.func205.trans (congrArg some (by kernel_rfl))
  f321 := Tryz.func234.trans (congrArg some (by kernel_rfl))
  f322 := Tryz.func235.trans (congrArg some (by kernel_rfl))
  f337 := Tryz.func229.trans (congrArg some (by kernel_rfl))
  f338 := Tryz.func230.trans (congrArg some (by kernel_rfl))
  t0 := Tryz.underlying0
  a0 := Tryz.isAgg0
  z0 := Tryz.sizeOf0
  v0 := Tryz.zeroValue0
  t2 := Tryz.underlying2
  a2 := Tryz.isAgg2
  z2 := Tryz.sizeOf2
  v2 := Tryz.zeroValue2
  t3 := Tryz.underlying3
  a3 := Tryz.isAgg3
  z3 := Tryz.sizeOf3
  v3 := Tryz.zeroValue3
  t4 := Tryz.underlying4
  a4 := Tryz.isAgg4
  z4 := Tryz.sizeOf4
  v4 := Tryz.zeroValue4
  t5 := Tryz.underlying5
  a5 := Tryz.isAgg5
  z5 := Tryz.sizeOf5
  v5 := Tryz.zeroValue5
  t9 := Tryz.underlying9
  a9 := Tryz.isAgg9
  z9 := Tryz.sizeOf9
  v9 := Tryz.zeroValue9
  t20 := Tryz.underlying20
  a20 := Tryz.isAgg20
  z20 := Tryz.sizeOf20
  v20 := Tryz.zeroValue20
  t21 := Tryz.underlying21
  a21 := Tryz.isAgg21
  z21 := Tryz.sizeOf21
  v21 := Tryz.zeroValue21
  t37 := Tryz.underlying106
  a37 := Tryz.isAgg106
  z37 := Tryz.sizeOf106
  v37 := Tryz.zeroValue106
  t46 := Tryz.underlying90
  a46 := Tryz.isAgg90
  z46 := Tryz.sizeOf90
  v46 := Tryz.zeroValue90
  t51 := Tryz.underlying207
  a51 := Tryz.isAgg207
  z51 := Tryz.sizeOf207
  v51 := Tryz.zeroValue207
  t53 := Tryz.underlying175
  a53 := Tryz.isAgg175
  z53 := Tryz.sizeOf175
  v53 := Tryz.zeroValue175
  t75 := Tryz.underlying111
  a75 := Tryz.isAgg111
  z75 := Tryz.sizeOf111
  v75 := Tryz.zeroValue111
  t76 := Tryz.underlying112
  a76 := Tryz.isAgg112
  z76 := Tryz.sizeOf112
  v76 := Tryz.zeroValue112
  t85 := Tryz.underlying189
  a85 := Tryz.isAgg189
  z85 := Tryz.sizeOf189
  v85 := Tryz.zeroValue189
  t127 := Tryz.underlying142
  a127 := Tryz.isAgg142
  z127 := Tryz.sizeOf142
  v127 := Tryz.zeroValue142
  t143 := Tryz.underlying230
  a143 := Tryz.isAgg230
  z143 := Tryz.sizeOf230
  v143 := Tryz.zeroValue230
  t145 := Tryz.underlying232
  a145 := Tryz.isAgg232
  z145 := Tryz.sizeOf232
  v145 := Tryz.zeroValue232
  t167 := Tryz.underlying188
  a167 := Tryz.isAgg188
  z167 := Tryz.sizeOf188
  v167 := Tryz.zeroValue188
  t168 := Tryz.underlying191
  a168 := Tryz.isAgg191
  z168 := Tryz.sizeOf191
  v168 := Tryz.zeroValue191
  t171 := Tryz.underlying174
  a171 := Tryz.isAgg174
  z171 := Tryz.sizeOf174
  v171 := Tryz.zeroValue174
  t173 := Tryz.underlying178
  a173 := Tryz.isAgg178
  z173 := Tryz.sizeOf178
  v173 := Tryz.zeroValue178
  t175 := Tryz.underlying210
  a175 := Tryz.isAgg210
  z175 := Tryz.sizeOf210
  v175 := Tryz.zeroValue210
  t210 := Tryz.underlying214
  a210 := Tryz.isAgg214
  z210 := Tryz.sizeOf214
  v210 := Tryz.zeroValue214
  t212 := Tryz.underlying206
  a212 := Tryz.isAgg206
  z212 := Tryz.sizeOf206
  v212 := Tryz.zeroValue206
  t213 := Tryz.underlying208
  a213 := Tryz.isAgg208
  z213 := Tryz.sizeOf208
  t232 := Tryz.underlying242
  a232 := Tryz.isAgg242
  z232 := Tryz.sizeOf242
  v232 := Tryz.zeroValue242
  t233 := Tryz.underlying243
  a233 := Tryz.isAgg243
  z233 := Tryz.sizeOf243
  v233 := Tryz.zeroValue243
  g15 := by kernel_rfl
  g16 := by kernel_rfl
  g17 := by kernel_rfl
  g18 := by kernel_rfl
  g19 := by kernel_rfl
  t80 := Tryz.underlying75
  a80 := Tryz.isAgg75
  z80 := Tryz.sizeOf75
  v80 := Tryz.zeroValue75
  i0 := by kernel_rfl
  i2 := by kernel_rfl
  i3 := by kernel_rfl
  i4 := by kernel_rfl
  i5 := by kernel_rfl
  i9 := by kernel_rfl
  i20 := by kernel_rfl
  i21 := by kernel_rfl
  i37 := by kernel_rfl
  i46 := by kernel_rfl
  i51 := by kernel_rfl
  i53 := by kernel_rfl
  i75 := by kernel_rfl
  i76 := by kernel_rfl
  i80 := by kernel_rfl
  i85 := by kernel_rfl
  i127 := by kernel_rfl
  i143 := by kernel_rfl
  i145 := by kernel_rfl
  i167 := by kernel_rfl
  i168 := by kernel_rfl
  i171 := by kernel_rfl
  i173 := by kernel_rfl
  i175 := by kernel_rfl
  i210 := by kernel_rfl
  i212 := by kernel_rfl
  i232 := by kernel_rfl
  i233 := by kernel_rfl
  m15 := by kernel_rfl
  m16 := by kernel_rfl
  m17 := by kernel_rfl
  m18 := by kernel_rfl
  m19 := by kernel_rfl
  c0 := by kernel_rfl
  c2 := by kernel_rfl
  c3 := by kernel_rfl
  c4 := by kernel_rfl
  c5 := by kernel_rfl
  c9 := by kernel_rfl
  c20 := by kernel_rfl
  c21 := by kernel_rfl
  c37 := by kernel_rfl
  c46 := by kernel_rfl
  c51 := by kernel_rfl
  c53 := by kernel_rfl
  c75 := by kernel_rfl
  c76 := by kernel_rfl
  c80 := by kernel_rfl
  c85 := by kernel_rfl
  c127 := by kernel_rfl
  c143 := by kernel_rfl
  c145 := by kernel_rfl
  c167 := by kernel_rfl
  c168 := by kernel_rfl
  c171 := by kernel_rfl
  c173 := by kernel_rfl
  c175 := by kernel_rfl
  c210 := by kernel_rfl
  c212 := by kernel_rfl
  c213 := by kernel_rfl
  c232 := by kernel_rfl
  c233 := by kernel_rfl }
end Go.Proofs
namespace Go.Proofs.YtbpnacacnncopaaGreatDoor.SW
open Go.Lib
abbrev Bs := List UInt8
/-- the words of a text between bytes x -/
def wrd (x : UInt8) : Bs → List Bs
  | [] => [[]]
  | c :: t => if c = x then [] :: wrd x t else match wrd x t with
    | [] => [[c]]
    | w :: ws => (c :: w) :: ws
/-- words, a byte x between them -/
def jn (x : UInt8) : List Bs → Bs
  | [] => []
  | [w] => w
  | w :: v :: ws => w ++ x :: jn x (v :: ws)
theorem wrd_ne (x : UInt8) (s : Bs) : wrd x s ≠ [] := by
  cases s with
  | nil => simp [wrd]
  | cons c t =>
    unfold wrd
    split
    · simp
    · split <;> simp
theorem wrd_hit (x : UInt8) (t : Bs) : wrd x (x :: t) = [] :: wrd x t := by
  show (if x = x then _ else _) = _
  rw [if_pos rfl]
theorem wrd_step {x c : UInt8} (h : c ≠ x) {t w : Bs} {ws : List Bs} (hw : wrd x t = w :: ws) : wrd x (c :: t) = (c :: w) :: ws := by
  show (if c = x then _ else _) = _
  rw [if_neg h, hw]
theorem jn_cons (x : UInt8) (w : Bs) {ws : List Bs} (h : ws ≠ []) : jn x (w :: ws) = w ++ x :: jn x ws := by
  cases ws with
  | nil => exact absurd rfl h
  | cons v ws => rfl
theorem jn_wrd (x : UInt8) : ∀ s : Bs, jn x (wrd x s) = s
  | [] => rfl
  | c :: t => by
    by_cases h : c = x
    · subst h
      rw [wrd_hit, jn_cons c [] (wrd_ne c t), jn_wrd c t]
      rfl
    · obtain ⟨w, ws, hw⟩ : ∃ w ws, wrd x t = w :: ws := by
        cases e : wrd x t with
        | nil => exact absurd e (wrd_ne x t)
        | cons w ws => exact ⟨w, ws, rfl⟩
      have ih := jn_wrd x t
      rw [hw] at ih
      rw [wrd_step h hw]
      cases ws with
      | nil =>
        show c :: w = c :: t
        exact congrArg _ ih
      | cons v ws =>
        show c :: (w ++ x :: jn x (v :: ws)) = c :: t
        exact congrArg _ ih
/-- a text that begins with a word, and a byte x behind it -/
theorem wrd_app (x : UInt8) : ∀ (w R : Bs), x ∉ w → wrd x (w ++ x :: R) = w :: wrd x R
  | [], R, _ => wrd_hit x R
  | c :: w, R, h => by
    have ih := wrd_app x w R (fun e => h (by simp [e]))
    exact wrd_step (fun e => h (by simp [e])) ih
theorem wrd_one (x : UInt8) : ∀ (w : Bs), x ∉ w → wrd x w = [w]
  | [], _ => rfl
  | c :: w, h => by
    have ih := wrd_one x w (fun e => h (by simp [e]))
    exact wrd_step (fun e => h (by simp [e])) ih
theorem wrd_jn (x : UInt8) : ∀ (ws : List Bs), ws ≠ [] → (∀ w ∈ ws, x ∉ w) → wrd x (jn x ws) = ws
  | [], h, _ => absurd rfl h
  | [w], _, h => wrd_one x w (h w (by simp))
  | w :: v :: ws, _, h => by
    show wrd x (w ++ x :: jn x (v :: ws)) = _
    rw [wrd_app x w _ (h w (by simp)), wrd_jn x (v :: ws) (by simp) (fun u hu => h u (by simp [hu]))]
theorem index_one (x : UInt8) : ∀ (D R : Bs), x ∉ D → index (D ++ x :: R) [x] = D.length
  | [], R, _ => by
    show index (x :: R) [x] = 0
    unfold index
    rw [if_pos (by simp)]
  | c :: D, R, h => by
    have hc : c ≠ x := fun e => h (by simp [e])
    have ih := index_one x D R (fun e => h (by simp [e]))
    show index (c :: (D ++ x :: R)) [x] = _
    unfold index
    rw [if_neg (by simp; exact hc ∘ Eq.symm), ih, if_neg (by simp)]
    simp
theorem index_none (x : UInt8) : ∀ (D : Bs), x ∉ D → index D [x] = -1
  | [], _ => rfl
  | c :: D, h => by
    have hc : c ≠ x := fun e => h (by simp [e])
    have ih := index_none x D (fun e => h (by simp [e]))
    unfold index
    rw [if_neg (by simp; exact hc ∘ Eq.symm), ih]
    rfl
/-- strings.Split at one byte -/
theorem split_wrd (x : UInt8) : ∀ (n : Nat) (s : Bs), s.length ≤ n → split s [x] = wrd x s := by
  intro n
  induction n with
  | zero =>
    intro s h
    obtain rfl : s = [] := List.eq_nil_of_length_eq_zero (by omega)
    rfl
  | succ n ih =>
    intro s h
    by_cases hx : x ∈ s
    · obtain ⟨D, R, rfl, hD⟩ : ∃ D R, s = D ++ x :: R ∧ x ∉ D := by
        clear h ih
        induction s with
        | nil => simp at hx
        | cons c t iht =>
          by_cases hc : c = x
          · exact ⟨[], t, by rw [hc]; rfl, by simp⟩
          · rcases List.mem_cons.1 hx with e | e
            · exact absurd e.symm hc
            · obtain ⟨D, R, rfl, hD⟩ := iht e
              exact ⟨c :: D, R, rfl, fun e => by rcases List.mem_cons.1 e with e | e; exact hc e.symm; exact hD e⟩
      have hi := index_one x D R hD
      have hc := count_hit (sub := [x]) (by simp) hi
      have hd : (D ++ x :: R).drop (D.length + [x].length) = R := by
        rw [show D ++ x :: R = (D ++ [x]) ++ R by simp]
        exact List.drop_left' (by simp)
      rw [hd] at hc
      unfold split
      rw [hc, Nat.add_comm 1]
      unfold splitK
      rw [hi, if_neg (by simp)]
      have e1 : ((D.length : Int)).toNat = D.length := by simp
      rw [e1, hd]
      have hR := ih R (by simp at h; omega)
      unfold split at hR
      rw [hR, Nat.add_zero, wrd_app x D R hD]
      simp
    · unfold split
      rw [count_miss (index_none x s hx), wrd_one x s hx]
      rfl
end Go.Proofs.YtbpnacacnncopaaGreatDoor.SW
namespace Go.Proofs.YtbpnacacnncopaaGreatDoor
open Go.RowKit Go.Shelf Frm
open Lib (decDigits)
/-- a variable of the library that holds an error, or none -/
def ErV (w : World) (g : Nat) : Prop := ∃ ev, w.cell? ⟨g, 0, none⟩ = some ev ∧ (ev = .nilIface ∨ ∃ te pe, ev = .iface te pe)
theorem ErV.bl {w w' : World} {g : Nat} (h : ErV w g) (hb : Below w.heap.size w w') : ErV w' g := by
  obtain ⟨ev, h1, h2⟩ := h
  exact ⟨ev, (hb.cell (show (⟨g, 0, none⟩ : Addr).block < w.heap.size from Lib.lt_of_cell h1)).trans h1, h2⟩
/-- what the library's tables and variables hold -/
structure En (w : World) : Prop where
  tab : Tab w
  mx : Mx w
  es : ErV w 2
  er : ErV w 3
theorem En.bl {w w' : World} (h : En w) (hb : Below w.heap.size w w') : En w' := by
  refine ⟨h.tab.stays hb (Nat.le_refl _), ?_, h.es.bl hb, h.er.bl hb⟩
  obtain ⟨m, hm⟩ := h.mx
  exact ⟨m, (hb.cell (show (⟨1, 0, none⟩ : Addr).block < w.heap.size from Lib.lt_of_cell hm)).trans hm⟩
theorem infoStr2 : (Tryz.prog.info? 9).map (fun i => (i.zero, i.size, i.bytes)) = some (some (.string ByteArray.empty), 1, 16) := by kernel_rfl
theorem split_any (s : Bs) (x : UInt8) (w : World) (hl : s.length ≤ 1000000) (he : En w) :
    Calls Tryz.prog 36 #[tx s, tx [x]] w fun e w' => e = .returned (.slice (some ⟨w.heap.size, 0, none⟩) (SW.wrd x s).length (SW.wrd x s).length) ∧ w' = w.alloc (.cells ((SW.wrd x s).map tx).toArray 9) := by
  obtain ⟨m, hm⟩ := he.mx
  have h := Any.strings_Split Tryz.lays146 infoStr2 ⟨s.toArray⟩ ⟨#[x]⟩ m w (by show s.toArray.size < _; simp; omega) hm (by show 1 ≤ 1; omega)
  have e1 : Lib.splitB ⟨#[x]⟩ 0 (Lib.countB ⟨s.toArray⟩ ⟨#[x]⟩) ⟨s.toArray⟩ = (SW.wrd x s).map (fun l => (⟨l.toArray⟩ : ByteArray)) := by
    have q := Lib.splitB_data ⟨#[x]⟩ 0 (Lib.countB ⟨s.toArray⟩ ⟨#[x]⟩) ⟨s.toArray⟩
    have q2 : Lib.splitK [x] 0 (Lib.countB ⟨s.toArray⟩ ⟨#[x]⟩) s = SW.wrd x s := (SW.split_wrd x s.length s (Nat.le_refl _))
    have q3 : (Lib.splitB ⟨#[x]⟩ 0 (Lib.countB ⟨s.toArray⟩ ⟨#[x]⟩) ⟨s.toArray⟩).map (·.data.toList) = SW.wrd x s := by rw [q, ← q2]
    rw [← q3, List.map_map]
    conv => lhs; rw [← List.map_id (Lib.splitB ⟨#[x]⟩ 0 (Lib.countB ⟨s.toArray⟩ ⟨#[x]⟩) ⟨s.toArray⟩)]
    exact List.map_congr_left fun b _ => by show b = ⟨b.data.toList.toArray⟩; simp
  have e2 : Lib.countB ⟨s.toArray⟩ ⟨#[x]⟩ + 1 = (SW.wrd x s).length := by
    rw [← Lib.splitB_all ⟨#[x]⟩ (by show 1 ≤ 1; omega) 0 _ ⟨s.toArray⟩ rfl, e1, List.length_map]
  rw [e1, e2, List.map_map] at h
  exact h
theorem jn_join (x : UInt8) : ∀ L : List Bs, Lib.join L [x] = SW.jn x L
  | [] => rfl
  | [a] => by simp [Lib.join, SW.jn]
  | a :: b :: r => by
    have h := jn_join x (b :: r)
    rw [SW.jn_cons x a (by simp), ← h]
    simp [Lib.join]
theorem join_any (b o c : Nat) (L : List Bs) (x : UInt8) (w : World) (hb : b < w.heap.size) (h : ∀ (j : Nat) z, L[j]? = some z → w.cell? ⟨b, o + j, none⟩ = some (tx z)) (hL : L.length ≤ 100000) (hc : L.length ≤ c) (hl : (SW.jn x L).length ≤ 1000000) :
    Calls Tryz.prog 26 #[.slice (some ⟨b, o, none⟩) L.length c, tx [x]] w fun e w' => e = .returned (tx (SW.jn x L)) ∧ Below w.heap.size w w' := by
  have e0 : (L.map fun l => (⟨l.toArray⟩ : ByteArray)).map (·.data.toList) = L := by
    rw [List.map_map]
    conv => rhs; rw [← List.map_id L]
    exact List.map_congr_left fun b _ => by simp
  have q := Any.strings_Join Tryz.lays156 Tryz.Builder_Extra_156 b o c (L.map fun l => (⟨l.toArray⟩ : ByteArray)) ⟨#[x]⟩ w (fun j z hz => by
    rw [List.getElem?_map] at hz
    cases hj : L[j]? with
    | none => rw [hj] at hz; cases hz
    | some z' => rw [hj] at hz; injection hz with hz; subst hz; exact h j z' hj) hb (by simp; omega) (by simpa using hc) (by rw [e0]; show (Lib.join L [x]).length ≤ _; rw [jn_join]; omega)
  rw [e0, List.length_map] at q
  rw [← jn_join]
  exact q
/-- strconv.Atoi: the number, and whether there is no error -/
def atR (s : Bs) : Int × Bool := match Lib.atoiAll s with
  | .ok v => (v, true)
  | .range => (Lib.atoiSat s, false)
  | _ => (0, false)
/-- an error, or none -/
def ErrIs (v : Value) (ok : Bool) : Prop := if ok = true then v = .nilIface else ∃ N, v = .iface 191 (.pointer (some ⟨N, 0, none⟩))
theorem atoi_any (s : Bs) (w : World) (hl : s.length ≤ 1000000) (he : En w) :
    Calls Tryz.prog 86 #[tx s] w fun e w' => (∃ v, e = .returned (.tuple #[.int .i64 (atR s).1, v]) ∧ ErrIs v (atR s).2) ∧ Below w.heap.size w w' := by
  have hs : (⟨s.toArray⟩ : ByteArray).size = s.length := tx_size s
  unfold atR
  rcases h : Lib.atoiAll s with v | _ | _
  · refine (Any.strconv_Atoi_ok Tryz.lays172 ⟨s.toArray⟩ (by omega) v h w).mono fun e w' ⟨h1, h2⟩ => ⟨⟨_, h1, rfl⟩, ?_⟩
    rcases h2 with rfl | ⟨t, rfl⟩
    · exact Below.refl _ _
    · exact Lib.bytesWorld_below _ _ _
  · obtain ⟨ev, h1, h2⟩ := he.es
    exact (Any.strconv_Atoi_syntax Tryz.lays172 ⟨s.toArray⟩ (by omega) h ev w h1 h2).mono fun e w' ⟨N, h1, _, _, h2⟩ => ⟨⟨_, h1, N, rfl⟩, h2⟩
  · obtain ⟨ev, h1, h2⟩ := he.er
    exact (Any.strconv_Atoi_range Tryz.lays172 ⟨s.toArray⟩ (by omega) h ev w h1 h2).mono fun e w' ⟨N, h1, _, _, h2⟩ => ⟨⟨_, h1, N, rfl⟩, h2⟩
theorem cutx_any (s : Bs) (x : UInt8) (w : World) (hl : s.length ≤ 1000000) (he : En w) :
    Calls Tryz.prog 122 #[tx s, tx [x]] w fun e w' => e = .returned (.tuple #[tx (Lib.cut s [x]).1, tx (Lib.cut s [x]).2.1, .bool (Lib.cut s [x]).2.2]) ∧ Below w.heap.size w w' :=
  cut_any ⟨s.toArray⟩ ⟨#[x]⟩ w (by rw [tx_size]; omega) he.mx
end Go.Proofs.YtbpnacacnncopaaGreatDoor
namespace Go.Proofs.YtbpnacacnncopaaGreatDoor.LB
def w64 (x : Int) : Int := (x + 9223372036854775808) % 18446744073709551616 - 9223372036854775808
/-- one round of the reader's loop: n << 8 | c -/
def stp (n c : Int) : Int := w64 (n * 256) + c
abbrev Bs := List UInt8
structure Rec where
  kind : Int
  at0 : Int
  at1 : Int
  p0 : Int
  p1 : Int
  p2 : Int
  p3 : Int
  m0 : Int
  m1 : Int
  m2 : Int
  m3 : Int
  body : Bs
  limb : Int
  sa0 : Int
  sa1 : Int
  hs : Int
  within : Int
  horizon : Int
  eye : Int
  shore : Int
  temp : Int
  pres : Int
  list : List Int
  text : Bs
deriving DecidableEq
def Rec.zero : Rec := ⟨0, 0, 0, 0, 0, 0, 0, 0, 0, 0, 0, [], 0, 0, 0, 0, 0, 0, 0, 0, 0, 0, [], []⟩
def b8 (n : Int) : UInt8 := UInt8.ofNat (n % 256).toNat
def num (n : Int) : Bs := [b8 (n / 72057594037927936), b8 (n / 281474976710656), b8 (n / 1099511627776), b8 (n / 4294967296), b8 (n / 16777216), b8 (n / 65536), b8 (n / 256), b8 n]
def nums : List Int → Bs
  | [] => []
  | n :: l => num n ++ nums l
def un (l : Bs) : Int := l.foldl (fun n c => stp n (c.toNat : Int)) 0
/-- a length of two bytes -/
def siz (n : Nat) : Bs := [b8 ((n : Int) / 256), b8 (n : Int)]
def str (s : Bs) : Bs := siz s.length ++ s
def sightL (r : Rec) : List Int := [r.limb, r.sa0, r.sa1, r.hs, r.within, r.horizon, r.eye, r.shore, r.temp, r.pres]
def enc (r : Rec) : Bs :=
  b8 r.kind :: (if r.kind = 3 then str r.body ++ nums (sightL r)
  else nums [r.at0, r.at1] ++ ((if r.kind = 1 ∨ r.kind = 4 then nums [r.p0, r.p1, r.p2, r.p3] else if r.kind = 2 then nums [r.m0, r.m1, r.m2, r.m3] else if r.kind = 5 then str r.text else []) ++
    (if r.kind = 4 then siz r.list.length ++ nums r.list else [])))
/-- the reader: what is left, and whether something was wrong -/
abbrev St := Bs × Bool
def take (n : Nat) (s : St) : Bs × St := if s.2 = true ∨ s.1.length < n then ([], (s.1, true)) else (s.1.take n, (s.1.drop n, s.2))
def one (s : St) : Int × St := (un (take 8 s).1, (take 8 s).2)
def ints : Nat → St → List Int × St
  | 0, s => ([], s)
  | k + 1, s => ((one s).1 :: (ints k (one s).2).1, (ints k (one s).2).2)
def size (s : St) : Nat × St := match take 2 s with
  | ([a, b], s') => (a.toNat * 256 + b.toNat, s')
  | (_, s') => (0, s')
def text (s : St) : Bs × St := take (size s).1 (size s).2
/-- the list of a fix: the loop stops where something is wrong -/
def loop : Nat → St → List Int × St
  | 0, s => ([], s)
  | k + 1, s => if (one s).2.2 = true then ([], (one s).2) else ((one s).1 :: (loop k (one s).2).1, (loop k (one s).2).2)
def at' (l : List Int) (i : Nat) : Int := l.getD i 0
def body (kind : Int) (s0 : St) : Rec × St :=
  if kind = 3 then
    let b := text s0
    let n := ints 10 b.2
    ({ Rec.zero with kind := 3, body := b.1, limb := at' n.1 0, sa0 := at' n.1 1, sa1 := at' n.1 2, hs := at' n.1 3, within := at' n.1 4, horizon := at' n.1 5, eye := at' n.1 6, shore := at' n.1 7, temp := at' n.1 8, pres := at' n.1 9 }, n.2)
  else
    let t := ints 2 s0
    let x := { Rec.zero with kind := kind, at0 := at' t.1 0, at1 := at' t.1 1 }
    if kind = 1 then
      let p := ints 4 t.2
      ({ x with p0 := at' p.1 0, p1 := at' p.1 1, p2 := at' p.1 2, p3 := at' p.1 3 }, p.2)
    else if kind = 2 then
      let p := ints 4 t.2
      ({ x with m0 := at' p.1 0, m1 := at' p.1 1, m2 := at' p.1 2, m3 := at' p.1 3 }, p.2)
    else if kind = 5 then
      let b := text t.2
      ({ x with text := b.1 }, b.2)
    else
      let p := ints 4 t.2
      let n := size p.2
      let l := loop n.1 n.2
      ({ x with p0 := at' p.1 0, p1 := at' p.1 1, p2 := at' p.1 2, p3 := at' p.1 3, list := l.1 }, l.2)
end Go.Proofs.YtbpnacacnncopaaGreatDoor.LB
namespace Go.Proofs.YtbpnacacnncopaaGreatDoor
open Go.RowKit
open LB (Bs Rec)
/-- a text of these bytes -/
abbrev txb (l : Bs) : Value := .string ⟨l.toArray⟩
abbrev tiv (a b : Int) : Value := .agg #[.int .i64 a, .int .i64 b]
abbrev sgv (x : Bs) (a b c d e f g h i j : Int) : Value := .agg #[txb x, .int .i64 a, .int .i64 b, .int .i64 c, .int .i64 d, .int .i64 e, .int .i64 f, .int .i64 g, .int .i64 h, .int .i64 i, .int .i64 j]
theorem eqInTime (d : Nat) (x y x' y' : Int) (w : World) : (Op.equalIn (d + 1 + 1) 23 (tiv x y) (tiv x' y')).run Tryz.prog w = .ok (decide (x = x' ∧ y = y')) w := by
  have u3 := Tryz.underlying3
  have hS : Tryz.prog.underlying 23 = some (.struct (Tryz.prog.fieldsOf 23)) := by kernel_rfl
  have hp : Tryz.prog.stoodInHeld 23 = false := by kernel_rfl
  have a3 := Tryz.isAgg3
  have z3 := Tryz.sizeOf3
  rw [run_equalIn_agg w (d + 1) 23 _ _ hS hp]
  simp only [Program.fieldsOf, Tryz.underlying23]
  go_simp
  by_cases h1 : x = x' <;> by_cases h2 : y = y' <;> simp [h1, h2]
theorem eqInArc (d : Nat) (x y x' y' : Int) (w : World) : (Op.equalIn (d + 1 + 1) 41 (tiv x y) (tiv x' y')).run Tryz.prog w = .ok (decide (x = x' ∧ y = y')) w := by
  have u3 := Tryz.underlying3
  have hS : Tryz.prog.underlying 41 = some (.struct (Tryz.prog.fieldsOf 41)) := by kernel_rfl
  have hp : Tryz.prog.stoodInHeld 41 = false := by kernel_rfl
  have a3 := Tryz.isAgg3
  have z3 := Tryz.sizeOf3
  rw [run_equalIn_agg w (d + 1) 41 _ _ hS hp]
  simp only [Program.fieldsOf, Tryz.underlying41]
  go_simp
  by_cases h1 : x = x' <;> by_cases h2 : y = y' <;> simp [h1, h2]
def sgE (x : Bs) (a b c d e f g h i j : Int) (x' : Bs) (a' b' c' d' e' f' g' h' i' j' : Int) : Bool := decide (x = x' ∧ a = a' ∧ b = b' ∧ c = c' ∧ d = d' ∧ e = e' ∧ f = f' ∧ g = g' ∧ h = h' ∧ i = i' ∧ j = j')
set_option maxHeartbeats 4000000 in
theorem eqInSight (x : Bs) (a b c d e f g h i j : Int) (x' : Bs) (a' b' c' d' e' f' g' h' i' j' : Int) (w : World) :
    (Op.equalIn 10000 25 (sgv x a b c d e f g h i j) (sgv x' a' b' c' d' e' f' g' h' i' j')).run Tryz.prog w = .ok (sgE x a b c d e f g h i j x' a' b' c' d' e' f' g' h' i' j') w := by
  have hS : Tryz.prog.underlying 25 = some (.struct (Tryz.prog.fieldsOf 25)) := by kernel_rfl
  have hp : Tryz.prog.stoodInHeld 25 = false := by kernel_rfl
  have a1 := Tryz.isAgg23
  have z1 := Tryz.sizeOf23
  have u3 := Tryz.underlying3
  have a3 := Tryz.isAgg3
  have z3 := Tryz.sizeOf3
  have u4 := Tryz.underlying9
  have a4 := Tryz.isAgg9
  have z4 := Tryz.sizeOf9
  have hA := fun (x y x' y' : Int) (w : World) => eqInTime 9997 x y x' y' w
  rw [show (10000 : Nat) = 9999 + 1 from rfl, run_equalIn_agg w 9999 25 _ _ hS hp]
  simp only [Program.fieldsOf, Tryz.underlying25]
  simp only [Nat.reduceAdd] at hA
  go_simp
  unfold sgE
  by_cases h1 : x = x'
  · by_cases h2 : a = a'
    · by_cases h3 : b = b' ∧ c = c'
      · by_cases h4 : d = d'
        · by_cases h5 : e = e'
          · by_cases h6 : f = f'
            · by_cases h7 : g = g'
              · by_cases h8 : h = h'
                · by_cases h9 : i = i' <;> by_cases h10 : j = j' <;> simp [h1, h2, h3, h4, h5, h6, h7, h8, h9, h10]
                · simp [h1, h2, h3, h4, h5, h6, h7, h8]
              · simp [h1, h2, h3, h4, h5, h6, h7]
            · simp [h1, h2, h3, h4, h5, h6]
          · simp [h1, h2, h3, h4, h5]
        · simp [h1, h2, h3, h4]
      · have : ∀ p : Prop, ¬ (b = b' ∧ c = c' ∧ p) := fun p ⟨q, r, _⟩ => h3 ⟨q, r⟩
        simp [h1, h2, h3, this]
    · simp [h1, h2]
  · simp [h1]
end Go.Proofs.YtbpnacacnncopaaGreatDoor
namespace Go.Proofs.YtbpnacacnncopaaGreatDoor
open Go.ChangeShapes Go.WideShapes Go.ChangeAt Go.RowKit
theorem Tryz.own : ownKnob Tryz.prog.godebug = none := by kernel_rfl
section
variable {H : Type} {enc : TypeId × Value → H} {P : Program}
theorem post_of_below {f : Func} {s : ChangeSpec} {apart fresh handsOn again : Bool} {W W' : World} {args : Array Value} {v : Value} {ds gs : List (DataW H)} {before pa pv : List MemPlace}
    (hW : DataW.Whole enc P f.params.toList s.vars apart W args.toList ds gs before)
    (hres : ∀ (b : Nat) (sp : Nat → Bool) (hd : Bool), DataW.TrodAll enc P W' b sp hd f.resultTypes.toList (v.resultList f.resultTypes.size) (s.fn H (ds ++ gs)).results [])
    (hargs : ∀ sp : Nat → Bool, (∀ p ∈ before, sp p.block = true) → DataW.TrodAll enc P W' 0 sp true f.params.toList args.toList (s.fn H (ds ++ gs)).args pa)
    (hvars : ∀ sp : Nat → Bool, (∀ p ∈ before, sp p.block = true) → DataW.TrodVars enc P W' sp s.vars (s.fn H (ds ++ gs)).vars pv)
    (hps : before = pa ++ pv) (hb : Below W.heap.size W W')
    (hok : ∀ (j : Nat) (t : TypeId) (r : Value), f.resultTypes[j]? = some t → (v.resultList f.resultTypes.size)[j]? = some r → Value.okWide P W' .any 0 t r) :
    s.post enc P f apart fresh handsOn again W args v W' := by
  have hlt : ∀ p ∈ before, p.block < W.heap.size := fun p hp => hW.lt p hp
  have hold : ∀ p ∈ before, (fun b => decide (b < W.heap.size)) p.block = true := fun p hp => by simpa using hlt p hp
  refine ⟨ds, gs, before, [], pa, pv, hW, hres _ _ _, hargs _ hold, hvars _ hold, World.keptBut_mono (fun p hp => ⟨hp, ?_⟩) (hb.frame (· ∈ before)), fun _ => ?_⟩
  · rw [hps, List.mem_append] at hp
    exact Or.inr hp
  · obtain ⟨_, _, _, _, _, hz, hn⟩ := hW
    refine ⟨hok, _, _, ([] ++ pa) ++ pv, ⟨[] ++ pa, pv, trodAll_append (hargs _ (fun _ _ => rfl)) (hres _ _ _), hvars _ (fun _ _ => rfl), rfl, ?_, ?_⟩, ?_⟩
    · intro b off hp
      have hin : MemPlace.cell b off ∈ before := by rw [hps]; simpa using hp
      rw [hb.frozen (hlt _ hin)]
      exact hz b off hin
    · intro ha
      have := hn ha
      rw [hps] at this
      simpa using this
    · intro p hp _
      rw [hps]
      simpa using hp
end
end Go.Proofs.YtbpnacacnncopaaGreatDoor
