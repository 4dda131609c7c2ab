/- correct.limbs, horizons, Text. -/
import Derived.Laws.OwnMore
import Derived.Test.YtbpnacacnncopaaGreatDoorHTm
import Derived.Test.YtbpnacacnncopaaGreatDoorHLp
import Derived.Test.YtbpnacacnncopaaGreatDoorHIh
import Derived.Test.YtbpnacacnncopaaGreatDoorHIc
import Derived.Test.YtbpnacacnncopaaGreatDoorHTx
set_option linter.unusedVariables false
set_option linter.unusedSimpArgs false
namespace Go.Proofs.YtbpnacacnncopaaGreatDoor
open Frm
open Lib (decDigits)
/-- a sight: its name and its numbers -/
structure Sgt where
  body : Bs
  limb : Int
  lo : Int
  hi : Int
  hs : Int
  by_ : Int
  hor : Int
  eye : Int
  shore : Int
  temp : Int
  press : Int
def limbL : List Bs := [[99, 101, 110, 116, 101, 114], [108, 111, 119, 101, 114], [117, 112, 112, 101, 114]]
def horL : List Bs := [[110, 97, 116, 117, 114, 97, 108], [97, 114, 116, 105, 102, 105, 99, 105, 97, 108], [115, 104, 111, 114, 101]]
def wordAt (l : List Bs) (k : Int) : Bs := l.getD (k - 1).toNat []
def siS (s : Sgt) : Bool := siB s.body s.limb s.lo s.hi s.hs s.by_ s.hor s.eye s.shore s.temp s.press
/-- the words of the text of a sight -/
def txtW (s : Sgt) (f l : Bs) : List Bs := [s.body, wordAt limbL s.limb, f, l, textL s.hs, textL s.by_, wordAt horL s.hor, Lib.itoa s.eye, Lib.itoa s.shore, Lib.itoa s.temp, Lib.itoa s.press]
def TextOf (s : Sgt) (x : Bs) : Prop := ∃ f l, IsInst s.lo f ∧ IsInst s.hi l ∧ x = SW.jn 32 (txtW s f l)
theorem text_one {s : Sgt} {x y : Bs} (h : TextOf s x) (h' : TextOf s y) : x = y := by
  obtain ⟨f, l, a, b, rfl⟩ := h
  obtain ⟨f', l', a', b', rfl⟩ := h'
  obtain rfl := inst_text a a'
  obtain rfl := inst_text b b'
  rfl
/-- a sight is what thirteen words say -/
structure Good (s : Sgt) (w0 w1 w2 w3 w4 w5 w6 w7 w8 w9 w10 w11 w12 : Bs) : Prop where
  h0 : w0 = s.body ∧ naB w0 = true
  h1 : w1 = wordAt limbL s.limb ∧ 1 ≤ s.limb ∧ s.limb ≤ 3
  h2 : IsInst s.lo (w2 ++ 32 :: w3) ∧ insB s.lo = true
  h4 : IsInst s.hi (w4 ++ 32 :: w5) ∧ insB s.hi = true
  h6 : w6 = textL s.hs ∧ s.hs.natAbs ≤ 1099511627776
  h7 : w7 = textL s.by_ ∧ s.by_.natAbs ≤ 1099511627776
  h8 : w8 = wordAt horL s.hor ∧ 1 ≤ s.hor ∧ s.hor ≤ 3
  h9 : w9 = Lib.itoa s.eye ∧ w9.length ≤ 15
  h10 : w10 = Lib.itoa s.shore ∧ w10.length ≤ 15
  h11 : w11 = Lib.itoa s.temp ∧ w11.length ≤ 15
  h12 : w12 = Lib.itoa s.press ∧ w12.length ≤ 15
theorem limb_at {a b : Int} (a1 : 1 ≤ a) (a2 : a ≤ 3) (b1 : 1 ≤ b) (b2 : b ≤ 3) (h : wordAt limbL a = wordAt limbL b) : a = b := by
  have ha : a = 1 ∨ a = 2 ∨ a = 3 := by omega
  have hb : b = 1 ∨ b = 2 ∨ b = 3 := by omega
  rcases ha with rfl | rfl | rfl <;> rcases hb with rfl | rfl | rfl <;> first | rfl | (exact absurd h (by decide))
theorem hor_at {a b : Int} (a1 : 1 ≤ a) (a2 : a ≤ 3) (b1 : 1 ≤ b) (b2 : b ≤ 3) (h : wordAt horL a = wordAt horL b) : a = b := by
  have ha : a = 1 ∨ a = 2 ∨ a = 3 := by omega
  have hb : b = 1 ∨ b = 2 ∨ b = 3 := by omega
  rcases ha with rfl | rfl | rfl <;> rcases hb with rfl | rfl | rfl <;> first | rfl | (exact absurd h (by decide))
theorem textL_inj {a b : Int} (ha : a.natAbs ≤ 1099511627776) (hb : b.natAbs ≤ 1099511627776) (h : textL a = textL b) : a = b := by
  have q := parseP_text ha
  rw [h, parseP_text hb] at q
  exact (congrArg Prod.fst q).symm
theorem itoa_len_bd {n : Int} (h : (Lib.itoa n).length ≤ 15) : n.natAbs < 1000000000000000 := by
  have key : ∀ m : Nat, (decDigits m).length ≤ 15 → m < 1000000000000000 := fun m hm => by
    have := numU_dg3 (dd_isD m)
    rw [numU_dd] at this
    have h2 : 10 ^ (decDigits m).length ≤ 10 ^ 15 := Nat.pow_le_pow_right (by omega) hm
    have h3 : (10 : Nat) ^ 15 = 1000000000000000 := by decide
    omega
  rcases Int.lt_or_le n 0 with hn | hn
  · have e : Lib.itoa n = 45 :: decDigits n.natAbs := by
      unfold Lib.itoa
      rw [if_pos hn]
    rw [e] at h
    exact key _ (by simp at h; omega)
  · obtain ⟨m, rfl⟩ : ∃ m : Nat, n = (m : Int) := ⟨n.toNat, by omega⟩
    rw [itoa_nat] at h
    have := key m h
    omega
theorem itoa_inj15 {a b : Int} (h : Lib.itoa a = Lib.itoa b) (hl : (Lib.itoa a).length ≤ 15) : a = b := by
  have ha := itoa_len_bd hl
  have hb := itoa_len_bd (by rw [← h]; exact hl)
  have qa := atR_itoa (n := a) (by omega)
  have qb := atR_itoa (n := b) (by omega)
  rw [h, qb] at qa
  exact (congrArg Prod.fst qa).symm
theorem good_one {s s' : Sgt} {w0 w1 w2 w3 w4 w5 w6 w7 w8 w9 w10 w11 w12 : Bs} (h : Good s w0 w1 w2 w3 w4 w5 w6 w7 w8 w9 w10 w11 w12) (k : Good s' w0 w1 w2 w3 w4 w5 w6 w7 w8 w9 w10 w11 w12) : s = s' := by
  have e0 : s.body = s'.body := h.h0.1.symm.trans k.h0.1
  have e1 : s.limb = s'.limb := limb_at h.h1.2.1 h.h1.2.2 k.h1.2.1 k.h1.2.2 (h.h1.1.symm.trans k.h1.1)
  have e2 : s.lo = s'.lo := inst_num h.h2.1 k.h2.1
  have e4 : s.hi = s'.hi := inst_num h.h4.1 k.h4.1
  have e6 : s.hs = s'.hs := textL_inj h.h6.2 k.h6.2 (h.h6.1.symm.trans k.h6.1)
  have e7 : s.by_ = s'.by_ := textL_inj h.h7.2 k.h7.2 (h.h7.1.symm.trans k.h7.1)
  have e8 : s.hor = s'.hor := hor_at h.h8.2.1 h.h8.2.2 k.h8.2.1 k.h8.2.2 (h.h8.1.symm.trans k.h8.1)
  have e9 : s.eye = s'.eye := itoa_inj15 (h.h9.1.symm.trans k.h9.1) (h.h9.1 ▸ h.h9.2)
  have e10 : s.shore = s'.shore := itoa_inj15 (h.h10.1.symm.trans k.h10.1) (h.h10.1 ▸ h.h10.2)
  have e11 : s.temp = s'.temp := itoa_inj15 (h.h11.1.symm.trans k.h11.1) (h.h11.1 ▸ h.h11.2)
  have e12 : s.press = s'.press := itoa_inj15 (h.h12.1.symm.trans k.h12.1) (h.h12.1 ▸ h.h12.2)
  cases s
  cases s'
  simp only [] at *
  subst e0 e1 e2 e4 e6 e7 e8 e9 e10 e11 e12
  rfl
/-- what valid sights are -/
structure SiOk (s : Sgt) : Prop where
  na : naB s.body = true
  limb : 1 ≤ s.limb ∧ s.limb ≤ 3
  lo : insB s.lo = true
  hi : insB s.hi = true
  ord : s.lo ≤ s.hi
  hs : -60000 ≤ s.hs ∧ s.hs ≤ 7800000
  by_ : 0 ≤ s.by_ ∧ s.by_ ≤ 60000
  hor : 1 ≤ s.hor ∧ s.hor ≤ 3
  eye : 0 ≤ s.eye ∧ s.eye ≤ 10000
  shore : 0 ≤ s.shore ∧ s.shore ≤ 100000
  temp : -500 ≤ s.temp ∧ s.temp ≤ 600
  press : 5000 ≤ s.press ∧ s.press ≤ 11000
theorem frB_iff {n a b : Int} : frB n a b = true ↔ a ≤ n ∧ n ≤ b := by unfold frB; exact decide_eq_true_iff
theorem si_ok {s : Sgt} (h : siS s = true) : SiOk s := by
  unfold siS siB at h
  simp only [Bool.and_eq_true, frB_iff] at h
  obtain ⟨⟨⟨⟨⟨⟨⟨h1, h2⟩, h3⟩, h4⟩, h5⟩, ⟨⟨⟨h6, h7⟩, h8⟩, h9⟩⟩, hA⟩, hB⟩ := h
  unfold clkB at h3
  simp only [Bool.and_eq_true, decide_eq_true_eq] at h3
  refine ⟨h1, h2, ?_, ?_, ?_, h4, h5, h6, h9, ?_, h7, h8⟩
  · first | exact h3.1.2 | exact h3.2.1 | (simp_all; done)
  · first | exact h3.2 | exact h3.2.2 | (simp_all; done)
  · first | exact h3.1.1 | exact h3.1 | (simp_all; done)
  · unfold shB at hB
    split at hB
    · rw [frB_iff] at hB; omega
    · rw [decide_eq_true_eq] at hB; omega
theorem itoa_short {n : Int} (h : n.natAbs ≤ 100000000) : (Lib.itoa n).length ≤ 15 := by
  rcases Int.lt_or_le n 0 with hn | hn
  · have e : Lib.itoa n = 45 :: decDigits n.natAbs := by
      unfold Lib.itoa
      rw [if_pos hn]
    rw [e]
    have := dd_len 9 n.natAbs (by have : (10 : Nat) ^ (9 + 1) = 10000000000 := by decide
                                  omega)
    simp
    omega
  · obtain ⟨m, rfl⟩ : ∃ m : Nat, n = (m : Int) := ⟨n.toNat, by omega⟩
    rw [itoa_nat]
    have := dd_len 9 m (by have : (10 : Nat) ^ (9 + 1) = 10000000000 := by decide
                           omega)
    omega
theorem itoa_no (n : Int) : (32 : UInt8) ∉ Lib.itoa n := by
  have hd : ∀ m, (32 : UInt8) ∉ decDigits m := fun m h => by have := dd_isD m 32 h; cases this
  rcases Int.lt_or_le n 0 with hn | hn
  · have e : Lib.itoa n = 45 :: decDigits n.natAbs := by
      unfold Lib.itoa
      rw [if_pos hn]
    rw [e]
    simp only [List.mem_cons, not_or]
    exact ⟨by decide, hd _⟩
  · obtain ⟨m, rfl⟩ : ∃ m : Nat, n = (m : Int) := ⟨n.toNat, by omega⟩
    rw [itoa_nat]
    exact hd m
theorem name_no {s : Bs} (h : naB s = true) : (32 : UInt8) ∉ s := by
  unfold naB allW at h
  simp only [Bool.and_eq_true, decide_eq_true_eq] at h
  intro hm
  have := List.all_eq_true.1 h.1.2.1 32 hm
  exact absurd this (by decide)
theorem clockT_no (ms : Nat) : (32 : UInt8) ∉ CT.clockT ms := by
  have hd : ∀ n k, (32 : UInt8) ∉ dgs n k := fun n k => CT.dgs_no (by decide)
  unfold CT.clockT
  split
  · simp [hd]
  · simp [hd]
theorem limb_no {k : Int} (h1 : 1 ≤ k) (h2 : k ≤ 3) : (32 : UInt8) ∉ wordAt limbL k := by
  have ha : k = 1 ∨ k = 2 ∨ k = 3 := by omega
  rcases ha with rfl | rfl | rfl <;> decide
theorem hor_no {k : Int} (h1 : 1 ≤ k) (h2 : k ≤ 3) : (32 : UInt8) ∉ wordAt horL k := by
  have ha : k = 1 ∨ k = 2 ∨ k = 3 := by omega
  rcases ha with rfl | rfl | rfl <;> decide
theorem jn13 (s : Sgt) (a b c d : Bs) : SW.jn 32 (txtW s (a ++ 32 :: b) (c ++ 32 :: d)) = SW.jn 32 [s.body, wordAt limbL s.limb, a, b, c, d, textL s.hs, textL s.by_, wordAt horL s.hor, Lib.itoa s.eye, Lib.itoa s.shore, Lib.itoa s.temp, Lib.itoa s.press] := by
  simp [txtW, SW.jn]
/-- the words of a valid sight's text -/
theorem text_good {s : Sgt} {x : Bs} (hv : siS s = true) (h : TextOf s x) : ∃ w0 w1 w2 w3 w4 w5 w6 w7 w8 w9 w10 w11 w12, SW.wrd 32 x = [w0, w1, w2, w3, w4, w5, w6, w7, w8, w9, w10, w11, w12] ∧ Good s w0 w1 w2 w3 w4 w5 w6 w7 w8 w9 w10 w11 w12 := by
  have k := si_ok hv
  obtain ⟨f, l, hf, hl, rfl⟩ := h
  have hf0 := hf
  have hl0 := hl
  obtain ⟨x1, a1, a2, rfl⟩ := hf
  obtain ⟨x2, b1, b2, rfl⟩ := hl
  rw [jn13]
  refine ⟨_, _, _, _, _, _, _, _, _, _, _, _, _, SW.wrd_jn 32 _ (by simp) ?_, ?_⟩
  · intro w hw
    simp only [List.mem_cons, List.not_mem_nil, or_false] at hw
    rcases hw with rfl | rfl | rfl | rfl | rfl | rfl | rfl | rfl | rfl | rfl | rfl | rfl | rfl
    · exact name_no k.na
    · exact limb_no k.limb.1 k.limb.2
    · exact dateT_no _ (by decide) (by decide)
    · exact clockT_no _
    · exact dateT_no _ (by decide) (by decide)
    · exact clockT_no _
    · exact fun h => text_sp _ _ h rfl
    · exact fun h => text_sp _ _ h rfl
    · exact hor_no k.hor.1 k.hor.2
    · exact itoa_no _
    · exact itoa_no _
    · exact itoa_no _
    · exact itoa_no _
  · have := k.hs
    have := k.by_
    have := k.eye
    have := k.shore
    have := k.temp
    have := k.press
    exact ⟨⟨rfl, k.na⟩, ⟨rfl, k.limb⟩, ⟨hf0, k.lo⟩, ⟨hl0, k.hi⟩, ⟨rfl, by omega⟩, ⟨rfl, by omega⟩, ⟨rfl, k.hor⟩, ⟨rfl, itoa_short (by omega)⟩, ⟨rfl, itoa_short (by omega)⟩, ⟨rfl, itoa_short (by omega)⟩, ⟨rfl, itoa_short (by omega)⟩⟩
end Go.Proofs.YtbpnacacnncopaaGreatDoor
namespace Go.Proofs.YtbpnacacnncopaaGreatDoor
open Go.RowKit Go.Shelf Frm
open Lib (decDigits)
set_option maxHeartbeats 1000000 in
theorem aText_any (n : Int) (w : World) (hn : n.natAbs ≤ 1099511627776) (ht : Tab w) :
    Calls Tryz.prog 22 #[.int .i64 n] w fun e w' => e = .returned (.tuple #[tx (textL n), .int .i64 0]) ∧ Below w.heap.size w w' := by
  have KZ := fitsI_any n w
  rw [show fitB n = true from decide_eq_true (by omega)] at KZ
  have KT := Lib.hid (text_any n w hn ht)
  have KZ := Lib.hid KZ
  clear ht
  go_enter Tryz.func22, Tryz.ntmps22
  go_wp2_with fail
  (with_reducible refine KZ.out.mono ?_)
  rintro e w1 ⟨rfl, rfl⟩
  go_wp2_with fail
  (with_reducible refine KT.out.mono ?_)
  rintro e w2 ⟨rfl, hb⟩
  go_wp2
  go_ret2
  exact ⟨rfl, hb⟩
end Go.Proofs.YtbpnacacnncopaaGreatDoor
namespace Go.Proofs.YtbpnacacnncopaaGreatDoor
open Go.RowKit Go.Shelf Frm
open Lib (decDigits)
def txs (L : List Bs) : List Value := L.map tx
theorem txs_one (L : List Bs) : ∀ u ∈ txs L, u.oneCell' = true := by
  intro u hu
  obtain ⟨x, -, rfl⟩ := List.mem_map.1 hu
  rfl
theorem reads_tx (w : World) (z : Bs) (t : TypeId) : Reads (w.alloc (.cells #[tx z] t)) (w.alloc (.cells #[tx z] t)).heap.size 1 (some ⟨w.heap.size, 0, none⟩) 1 (txs [z]) := by
  refine ⟨rfl, fun _ => ⟨_, rfl, by simp, fun j u hu => ?_⟩⟩
  match j, hu with
  | 0, hu => simp [txs] at hu; subst hu; simp [Addr.add]
  | j + 1, hu => simp [txs] at hu
theorem own_bel {w w' : World} {base : Nat} {e : TypeId} {size n : Nat} {v : Value} {xs : List Value} (h : w.ownsRow base e size v n xs) (hb : Below w.heap.size w w') : w'.ownsRow base e size v n xs := by
  refine ⟨h.1, ?_⟩
  rcases h.2 with ⟨rfl, rfl⟩ | ⟨g, cap, cur, rfl, hg, h1, h2, h3, h4, h5⟩
  · exact .inl ⟨rfl, rfl⟩
  · refine .inr ⟨g, cap, cur, rfl, hg, (hb.block g ?_).trans h1, h2, h3, h4, h5⟩
    rcases Nat.lt_or_ge g w.heap.size with q | q
    · exact q
    · rw [Array.getElem?_eq_none q] at h1; cases h1
theorem jn_len (x : UInt8) : ∀ L : List Bs, (∀ z ∈ L, z.length ≤ 1000) → (SW.jn x L).length ≤ L.length * 1001
  | [], _ => by simp [SW.jn]
  | [a], h => by have := h a (by simp); simp [SW.jn]; omega
  | a :: b :: r, h => by
    have h1 := h a (by simp)
    have h2 := jn_len x (b :: r) (fun z hz => h z (by simp [hz]))
    rw [SW.jn_cons x a (by simp)]
    simp at h2 ⊢
    omega
theorem infoS : (Tryz.prog.info? 9).map (fun i => (i.zero, i.size, i.bytes)) = some (some (.string ByteArray.empty), 1, 16) := by kernel_rfl
/-- the words for limbs, and for horizons, as values -/
abbrev lmV : Value := .agg #[tx [99, 101, 110, 116, 101, 114], tx [108, 111, 119, 101, 114], tx [117, 112, 112, 101, 114]]
abbrev hzV : Value := .agg #[tx [110, 97, 116, 117, 114, 97, 108], tx [97, 114, 116, 105, 102, 105, 99, 105, 97, 108], tx [115, 104, 111, 114, 101]]
theorem limbs_any (w : World) : Calls Tryz.prog 23 #[] w fun e w' => e = .returned lmV ∧ Below w.heap.size w w' := by
  go_enter Tryz.func23, Tryz.ntmps23
  go_wp2
  refine bodyPost_ret (v := lmV) (by simp [results, Tryz.results23, go_sem, *]; done) rfl ⟨rfl, ?_⟩
  repeat (first | exact Below.refl _ _ | assumption | refine bl_drew ?_ | refine bl_drewN ?_ _ | refine Below.setCell ?_ (by first | assumption | omega | (simp; done) | (simp; omega)) _ | refine Below.alloc ?_ (by first | assumption | omega | (simp; done) | (simp; omega)) _)
theorem horizons_any (w : World) : Calls Tryz.prog 24 #[] w fun e w' => e = .returned hzV ∧ Below w.heap.size w w' := by
  go_enter Tryz.func24, Tryz.ntmps24
  go_wp2
  refine bodyPost_ret (v := hzV) (by simp [results, Tryz.results24, go_sem, *]; done) rfl ⟨rfl, ?_⟩
  repeat (first | exact Below.refl _ _ | assumption | refine bl_drew ?_ | refine bl_drewN ?_ _ | refine Below.setCell ?_ (by first | assumption | omega | (simp; done) | (simp; omega)) _ | refine Below.alloc ?_ (by first | assumption | omega | (simp; done) | (simp; omega)) _)
/-- what correct.Text returns -/
def CxR (s : Sgt) (e : Ending) : Prop := (siS s = false ∧ e = .returned (.tuple #[tx [], .int .i64 1])) ∨ (siS s = true ∧ ∃ x, TextOf s x ∧ x.length ≤ 20000 ∧ e = .returned (.tuple #[tx x, .int .i64 0])) ∨ (siS s = true ∧ (¬ ∃ x, TextOf s x) ∧ e = .returned (.tuple #[tx [], .int .i64 20]))
theorem name_len {s : Bs} (h : naB s = true) : s.length ≤ 20 := by
  unfold naB at h
  simp only [Bool.and_eq_true, decide_eq_true_eq] at h
  exact h.1.1
theorem limb_len {k : Int} (h1 : 1 ≤ k) (h2 : k ≤ 3) : (wordAt limbL k).length ≤ 6 := by
  have ha : k = 1 ∨ k = 2 ∨ k = 3 := by omega
  rcases ha with rfl | rfl | rfl <;> decide
theorem hor_len {k : Int} (h1 : 1 ≤ k) (h2 : k ≤ 3) : (wordAt horL k).length ≤ 10 := by
  have ha : k = 1 ∨ k = 2 ∨ k = 3 := by omega
  rcases ha with rfl | rfl | rfl <;> decide
theorem txt_len {s : Sgt} {f l : Bs} (hv : siS s = true) (hf : IsInst s.lo f) (hl : IsInst s.hi l) : ∀ z ∈ txtW s f l, z.length ≤ 1000 := by
  have k := si_ok hv
  have a1 := k.hs
  have a2 := k.by_
  have a3 := k.eye
  have a4 := k.shore
  have a5 := k.temp
  have a6 := k.press
  intro z hz
  simp only [txtW, List.mem_cons, List.not_mem_nil, or_false] at hz
  rcases hz with rfl | rfl | rfl | rfl | rfl | rfl | rfl | rfl | rfl | rfl | rfl
  · have := name_len k.na; omega
  · have := limb_len k.limb.1 k.limb.2; omega
  · have := inst_len hf; omega
  · have := inst_len hl; omega
  · have := text_len (n := s.hs) (by omega); omega
  · have := text_len (n := s.by_) (by omega); omega
  · have := hor_len k.hor.1 k.hor.2; omega
  · have := itoa_short (n := s.eye) (by omega); omega
  · have := itoa_short (n := s.shore) (by omega); omega
  · have := itoa_short (n := s.temp) (by omega); omega
  · have := itoa_short (n := s.press) (by omega); omega
set_option maxHeartbeats 4000000 in
set_option maxRecDepth 100000 in
theorem ctext_any (s : Sgt) (w : World) (hlb : s.body.length ≤ 100000) (he : En w) :
    Calls Tryz.prog 8 #[sgv s.body s.limb s.lo s.hi s.hs s.by_ s.hor s.eye s.shore s.temp s.press] w fun e w' => CxR s e ∧ Below w.heap.size w w' := by
  have KV := Lib.hid (fun W => correctV_any s.body s.limb s.lo s.hi s.hs s.by_ s.hor s.eye s.shore s.temp s.press W hlb)
  have hsi : siB s.body s.limb s.lo s.hi s.hs s.by_ s.hor s.eye s.shore s.temp s.press = siS s := rfl
  rw [hsi] at KV
  cases hv : siS s with
  | false =>
    rw [hv] at KV
    have HP : Hid (CxR s (.returned (.tuple #[tx [], .int .i64 1]))) := Lib.hid (.inl ⟨hv, rfl⟩)
    generalize CxR s = R at *
    clear hv hsi
    obtain ⟨body, limb, lo, hi, hs, by_, hor, eye, shore, temp, press⟩ := s
    simp only [] at KV
    have B0 := Lib.hid (Blk.new w 25 #[tx body, .int .i64 limb, .int .i64 lo, .int .i64 hi, .int .i64 hs, .int .i64 by_, .int .i64 hor, .int .i64 eye, .int .i64 shore, .int .i64 temp, .int .i64 press])
    have b0 := Lib.hid ((Below.refl w.heap.size w).alloc (Nat.le_refl _) (.cells #[tx body, .int .i64 limb, .int .i64 lo, .int .i64 hi, .int .i64 hs, .int .i64 by_, .int .i64 hor, .int .i64 eye, .int .i64 shore, .int .i64 temp, .int .i64 press] 25))
    go_enter Tryz.func8, Tryz.ntmps8
    go_upto_region 1 with fail
    generalize (w.alloc (.cells #[tx body, .int .i64 limb, .int .i64 lo, .int .i64 hi, .int .i64 hs, .int .i64 by_, .int .i64 hor, .int .i64 eye, .int .i64 shore, .int .i64 temp, .int .i64 press] 25)) = w1 at *
    have yB : ∀ i, w1.cell? ⟨w.heap.size, i, none⟩ = (#[tx body, .int .i64 limb, .int .i64 lo, .int .i64 hi, .int .i64 hs, .int .i64 by_, .int .i64 hor, .int .i64 eye, .int .i64 shore, .int .i64 temp, .int .i64 press] : Array Value)[i]? := fun i => B0.out.cell i
    go_wp2_with fail
    (with_reducible refine (KV.out _).mono ?_)
    rintro e w2 ⟨rfl, hb⟩
    have B2 := Lib.hid (B0.out.below hb B0.out.lt)
    have b2 := Lib.hid (b0.out.trans (hb.mono b0.out.size))
    clear hb B0 b0 yB
    go_wp2
    go_ret2
    exact ⟨HP.out, b2.out⟩
  | true =>
    rw [hv] at KV
    have k := si_ok hv
    have KL := Lib.hid (fun (W : World) (h : En W) => ckText_any s.lo W k.lo h)
    have KH := Lib.hid (fun (W : World) (h : En W) => ckText_any s.hi W k.hi h)
    have a1 := k.hs
    have a2 := k.by_
    have KA := Lib.hid (fun (W : World) (h : En W) => aText_any s.hs W (by omega) h.tab)
    have KB := Lib.hid (fun (W : World) (h : En W) => aText_any s.by_ W (by omega) h.tab)
    have htl := fun f l hf hl => txt_len (s := s) (f := f) (l := l) hv hf hl
    have htx : ∀ f l, IsInst s.lo f → IsInst s.hi l → TextOf s (SW.jn 32 (txtW s f l)) := fun f l hf hl => ⟨f, l, hf, hl, rfl⟩
    have hn1 : (¬ ∃ f, IsInst s.lo f) → ¬ ∃ x, TextOf s x := fun h ⟨x, f, l, hf, hl, _⟩ => h ⟨f, hf⟩
    have hn2 : (¬ ∃ f, IsInst s.hi f) → ¬ ∃ x, TextOf s x := fun h ⟨x, f, l, hf, hl, _⟩ => h ⟨l, hl⟩
    have a3 := k.eye
    have a4 := k.shore
    have a5 := k.temp
    have a6 := k.press
    have a7 := k.limb
    have a8 := k.hor
    have HX : Hid (∀ x, TextOf s x → x.length ≤ 20000 → CxR s (.returned (.tuple #[tx x, .int .i64 0]))) := Lib.hid fun x h1 h2 => .inr (.inl ⟨hv, x, h1, h2, rfl⟩)
    have HT : Hid ((¬ ∃ x, TextOf s x) → CxR s (.returned (.tuple #[tx [], .int .i64 20]))) := Lib.hid fun h => .inr (.inr ⟨hv, h, rfl⟩)
    generalize CxR s = R at *
    generalize hGT : (fun x => TextOf s x) = GT
    have hgt : ∀ x, TextOf s x = GT x := fun x => by rw [← hGT]
    simp only [hgt] at *
    unfold txtW at htl htx
    obtain ⟨body, limb, lo, hi, hs, by_, hor, eye, shore, temp, press⟩ := s
    simp only [] at *
    clear hGT hgt hv k hsi
    have HTL := Lib.hid htl
    have HTX := Lib.hid htx
    have HN1 := Lib.hid hn1
    have HN2 := Lib.hid hn2
    clear htl htx hn1 hn2
    have HE := Lib.hid he
    clear he
    have E0 := HE
    clear HE
    have B0 := Lib.hid (Blk.new w 25 #[tx body, .int .i64 limb, .int .i64 lo, .int .i64 hi, .int .i64 hs, .int .i64 by_, .int .i64 hor, .int .i64 eye, .int .i64 shore, .int .i64 temp, .int .i64 press])
    have E0 := Lib.hid ((E0.out).bl (bl_alloc w (.cells #[tx body, .int .i64 limb, .int .i64 lo, .int .i64 hi, .int .i64 hs, .int .i64 by_, .int .i64 hor, .int .i64 eye, .int .i64 shore, .int .i64 temp, .int .i64 press] 25)))
    have b0 := Lib.hid ((Below.refl w.heap.size w).alloc (Nat.le_refl _) (.cells #[tx body, .int .i64 limb, .int .i64 lo, .int .i64 hi, .int .i64 hs, .int .i64 by_, .int .i64 hor, .int .i64 eye, .int .i64 shore, .int .i64 temp, .int .i64 press] 25))
    go_enter Tryz.func8, Tryz.ntmps8
    go_upto_region 1 with fail
    generalize (w.alloc (.cells #[tx body, .int .i64 limb, .int .i64 lo, .int .i64 hi, .int .i64 hs, .int .i64 by_, .int .i64 hor, .int .i64 eye, .int .i64 shore, .int .i64 temp, .int .i64 press] 25)) = w1 at *
    have yB : ∀ i, w1.cell? ⟨w.heap.size, i, none⟩ = (#[tx body, .int .i64 limb, .int .i64 lo, .int .i64 hi, .int .i64 hs, .int .i64 by_, .int .i64 hor, .int .i64 eye, .int .i64 shore, .int .i64 temp, .int .i64 press] : Array Value)[i]? := fun i => B0.out.cell i
    go_wp2_with fail
    (with_reducible refine (KV.out _).mono ?_)
    rintro e w2 ⟨rfl, hb⟩
    have B2 := Lib.hid (B0.out.below hb B0.out.lt)
    have E2 := Lib.hid (E0.out.bl hb)
    have b2 := Lib.hid (b0.out.trans (hb.mono b0.out.size))
    clear hb B0 E0 b0 yB
    have yB : ∀ i, w2.cell? ⟨w.heap.size, i, none⟩ = (#[tx body, .int .i64 limb, .int .i64 lo, .int .i64 hi, .int .i64 hs, .int .i64 by_, .int .i64 hor, .int .i64 eye, .int .i64 shore, .int .i64 temp, .int .i64 press] : Array Value)[i]? := fun i => B2.out.cell i
    go_wp2_with fail
    (with_reducible refine (KL.out _ E2.out).mono ?_)
    rintro e w3 ⟨hcl, hb⟩
    have B3 := Lib.hid (B2.out.below hb B2.out.lt)
    have E3 := Lib.hid (E2.out.bl hb)
    have b3 := Lib.hid (b2.out.trans (hb.mono b2.out.size))
    clear hb B2 E2 b2 yB KL
    rcases hcl with ⟨f, hf, rfl⟩ | ⟨hno, rfl⟩
    · have HF := Lib.hid hf
      clear hf
      have yB : ∀ i, w3.cell? ⟨w.heap.size, i, none⟩ = (#[tx body, .int .i64 limb, .int .i64 lo, .int .i64 hi, .int .i64 hs, .int .i64 by_, .int .i64 hor, .int .i64 eye, .int .i64 shore, .int .i64 temp, .int .i64 press] : Array Value)[i]? := fun i => B3.out.cell i
      go_wp2_with fail
      (with_reducible refine (KH.out _ E3.out).mono ?_)
      rintro e w4 ⟨hcl, hb⟩
      have B4 := Lib.hid (B3.out.below hb B3.out.lt)
      have E4 := Lib.hid (E3.out.bl hb)
      have b4 := Lib.hid (b3.out.trans (hb.mono b3.out.size))
      clear hb B3 E3 b3 yB KH
      rcases hcl with ⟨l, hl, rfl⟩ | ⟨hno, rfl⟩
      case inr =>
        have HNO := Lib.hid (HN2.out hno)
        clear hno
        go_wp2
        go_ret2
        exact ⟨HT.out HNO.out, b4.out⟩
      case inl =>
        have HL := Lib.hid hl
        clear hl
        have yB : ∀ i, w4.cell? ⟨w.heap.size, i, none⟩ = (#[tx body, .int .i64 limb, .int .i64 lo, .int .i64 hi, .int .i64 hs, .int .i64 by_, .int .i64 hor, .int .i64 eye, .int .i64 shore, .int .i64 temp, .int .i64 press] : Array Value)[i]? := fun i => B4.out.cell i
        go_wp2_with fail
        (with_reducible refine (KA.out _ E4.out).mono ?_)
        rintro e w5 ⟨rfl, hb⟩
        have B5 := Lib.hid (B4.out.below hb B4.out.lt)
        have E5 := Lib.hid (E4.out.bl hb)
        have b5 := Lib.hid (b4.out.trans (hb.mono b4.out.size))
        clear hb B4 E4 b4 yB KA
        have yB : ∀ i, w5.cell? ⟨w.heap.size, i, none⟩ = (#[tx body, .int .i64 limb, .int .i64 lo, .int .i64 hi, .int .i64 hs, .int .i64 by_, .int .i64 hor, .int .i64 eye, .int .i64 shore, .int .i64 temp, .int .i64 press] : Array Value)[i]? := fun i => B5.out.cell i
        go_wp2_with fail
        (with_reducible refine (KB.out _ E5.out).mono ?_)
        rintro e w6 ⟨rfl, hb⟩
        have B6 := Lib.hid (B5.out.below hb B5.out.lt)
        have E6 := Lib.hid (E5.out.bl hb)
        have b6 := Lib.hid (b5.out.trans (hb.mono b5.out.size))
        clear hb B5 E5 b5 yB KB
        go_upto_region 11 with fail
        have KM := Lib.hid limbs_any
        have KZ := Lib.hid horizons_any
        obtain ⟨l1, hl1⟩ : ∃ l1, limb - 1 = l1 := ⟨_, rfl⟩
        obtain ⟨h1, hh1⟩ : ∃ h1, hor - 1 = h1 := ⟨_, rfl⟩
        have iw1 : IntKind.i64.wrap (limb - 1) = l1 := by rw [IntWalk.i64_in _ (by omega), hl1]
        have iw2 : IntKind.i64.wrap (hor - 1) = h1 := by rw [IntWalk.i64_in _ (by omega), hh1]
        have ix1 : ∀ W, (Instr.index 59 lmV (.int .i64 l1)).run Tryz.prog W = .ok (tx (wordAt limbL limb)) W := by
          have ha : limb = 1 ∨ limb = 2 ∨ limb = 3 := by omega
          rw [← hl1]
          rcases ha with rfl | rfl | rfl <;> intro W <;> kernel_rfl
        have ix2 : ∀ W, (Instr.index 59 hzV (.int .i64 h1)).run Tryz.prog W = .ok (tx (wordAt horL hor)) W := by
          have ha : hor = 1 ∨ hor = 2 ∨ hor = 3 := by omega
          rw [← hh1]
          rcases ha with rfl | rfl | rfl <;> intro W <;> kernel_rfl
        have HI1 := Lib.hid hl1
        have HI2 := Lib.hid hh1
        clear hl1 hh1
        generalize wordAt limbL limb = m1 at *
        generalize wordAt horL hor = m2 at *
        generalize textL hs = th at *
        generalize textL by_ = tb at *
        have yB : ∀ (s : BQ w6) i, s.w.cell? ⟨w.heap.size, i, none⟩ = (#[tx body, .int .i64 limb, .int .i64 lo, .int .i64 hi, .int .i64 hs, .int .i64 by_, .int .i64 hor, .int .i64 eye, .int .i64 shore, .int .i64 temp, .int .i64 press] : Array Value)[i]? := fun s i => (B6.out.below s.hb B6.out.lt).cell i
        refine wp_region_bqt 16 w6 (by kernel_rfl) (by kernel_rfl) (by kernel_rfl) (by kernel_rfl) (Below.refl _ _) ?_
        simp only [List.take_succ_cons, List.take_zero, List.drop_succ_cons, List.drop_zero]
        repeat (go_big_quiet_step (first | (go_at_call 23; exact quiet_bq (KM.out _)) | (go_at_call 24; exact quiet_bq (KZ.out _)) | fail))
        refine wpQuiet_nil ?_
        intro w7 hb
        have B7 := Lib.hid (B6.out.below hb B6.out.lt)
        have E7 := Lib.hid (E6.out.bl hb)
        have b7 := Lib.hid (b6.out.trans (hb.mono b6.out.size))
        clear hb B6 E6 b6 yB
        have HSZ := Lib.hid (show w.heap.size ≤ w7.heap.size from b7.out.size)
        have B8 := Lib.hid (B7.out.alloc (.cells #[tx body, tx m1, tx f, tx l, tx th, tx tb, tx m2] 9))
        have W8 := Lib.hid (Blk.new w7 9 #[tx body, tx m1, tx f, tx l, tx th, tx tb, tx m2])
        have E8 := Lib.hid (E7.out.bl (bl_alloc w7 (.cells #[tx body, tx m1, tx f, tx l, tx th, tx tb, tx m2] 9)))
        have b8 := Lib.hid (b7.out.trans ((bl_alloc w7 (.cells #[tx body, tx m1, tx f, tx l, tx th, tx tb, tx m2] 9)).mono b7.out.size))
        clear B7 E7 b7
        go_upto_region 12 with fail
        generalize w7.alloc (.cells #[tx body, tx m1, tx f, tx l, tx th, tx tb, tx m2] 9) = w9 at *
        have yB : ∀ i, w9.cell? ⟨w.heap.size, i, none⟩ = (#[tx body, .int .i64 limb, .int .i64 lo, .int .i64 hi, .int .i64 hs, .int .i64 by_, .int .i64 hor, .int .i64 eye, .int .i64 shore, .int .i64 temp, .int .i64 press] : Array Value)[i]? := fun i => B8.out.cell i
        have HWI := Lib.hid W8.out.lt
        have B10 := Lib.hid (B8.out.alloc (.cells #[.int .i64 eye, .int .i64 shore, .int .i64 temp, .int .i64 press] 3))
        have W10 := Lib.hid (W8.out.alloc (.cells #[.int .i64 eye, .int .i64 shore, .int .i64 temp, .int .i64 press] 3))
        have I10 := Lib.hid (Blk.new w9 3 #[.int .i64 eye, .int .i64 shore, .int .i64 temp, .int .i64 press])
        have E10 := Lib.hid (E8.out.bl (bl_alloc w9 (.cells #[.int .i64 eye, .int .i64 shore, .int .i64 temp, .int .i64 press] 3)))
        have b10 := Lib.hid (b8.out.trans ((bl_alloc w9 (.cells #[.int .i64 eye, .int .i64 shore, .int .i64 temp, .int .i64 press] 3)).mono b8.out.size))
        clear B8 W8 E8 b8
        go_upto_region 13 with fail
        generalize w9.alloc (.cells #[.int .i64 eye, .int .i64 shore, .int .i64 temp, .int .i64 press] 3) = w11 at *
        have HO := Lib.hid (show w11.ownsRow w.heap.size 9 1 (.slice (some ⟨w7.heap.size, 0, none⟩) 7 7) 7 (txs [body, m1, f, l, th, tb, m2]) from by
          have h1 := W10.out
          have h2 := W10.out.lt
          exact ⟨rfl, .inr ⟨w7.heap.size, 7, #[tx body, tx m1, tx f, tx l, tx th, tx tb, tx m2], rfl, HSZ.out, h1, Nat.le_refl _, by simp [maxLen], rfl, rfl⟩⟩)
        obtain ⟨i0, hi0, hz0, hz1, hzb⟩ := info_parts infoS
        have KI := Lib.hid (fun (n : Int) (W : World) (h0 : -100000000 ≤ n) (h1 : n ≤ 100000000) (h : En W) => itoa_any n W (by omega) (by omega) h.tab)
        have hIT := fun (L : List Bs) (hL : L = [Lib.itoa eye, Lib.itoa shore, Lib.itoa temp, Lib.itoa press]) => hL
        obtain ⟨bb, hbb⟩ : ∃ bb, w11.heap.size = bb := ⟨_, rfl⟩
        clear hbb bb hIT
        have I0 := I10
        have EE := E10
        have BB := b10
        clear W10 B10 I10 E10 b10
        go_loopg [10, 81] 4 (fun gz s10 s81 wr => ∃ k : Nat, k ≤ 4 ∧ 4 - k ≤ gz ∧ s81 = .int .i64 (k : Int) ∧ wr.ownsRow w.heap.size 9 1 s10 (7 + k) (txs ([body, m1, f, l, th, tb, m2] ++ [Lib.itoa eye, Lib.itoa shore, Lib.itoa temp, Lib.itoa press].take k)) ∧ (∀ q, s10.ownBlock = some q → q ≠ w9.heap.size) ∧ Blk wr w9.heap.size 3 #[.int .i64 eye, .int .i64 shore, .int .i64 temp, .int .i64 press] ∧ Below w.heap.size w wr)
        case atStart => exact ⟨0, by omega, by omega, rfl, by simpa using HO.out, fun q hq => by simp [Value.ownBlock] at hq; have := HWI.out; omega, I0.out, BB.out⟩
        case round =>
          obtain ⟨k, hk, hg, rfl, hO, hQ, hI, hB⟩ := hrel
          have OO := Lib.hid hO
          have QQ := Lib.hid hQ
          have II := Lib.hid hI
          have E1 := Lib.hid (E0.out.bl hB)
          have B1 := Lib.hid hB
          clear HO I0 EE BB hO hI hQ hB
          have hcase : k = 0 ∨ k = 1 ∨ k = 2 ∨ k = 3 ∨ k = 4 := by omega
          rcases hcase with rfl | rfl | rfl | rfl | rfl
          · skip
            have y0 : wr.cell? ⟨w9.heap.size, 0, none⟩ = some (.int .i64 eye) := II.out.cell 0
            have K := Lib.hid (KI.out eye wr (by omega) (by omega) E1.out)
            clear KI
            go_wp2_with fail
            (with_reducible refine (K.out).mono ?_)
            rintro e v1 ⟨rfl, hb⟩
            have O2 := Lib.hid (own_bel (own_bel OO.out hb) (bl_alloc v1 (.cells #[tx (Lib.itoa eye)] 9)))
            have I2 := Lib.hid ((II.out.below hb II.out.lt).alloc (.cells #[tx (Lib.itoa eye)] 9))
            have E2 := Lib.hid ((E1.out.bl hb).bl (bl_alloc v1 (.cells #[tx (Lib.itoa eye)] 9)))
            have B2 := Lib.hid ((B1.out.trans (hb.mono B1.out.size)).trans ((bl_alloc v1 (.cells #[tx (Lib.itoa eye)] 9)).mono (Nat.le_trans B1.out.size hb.size)))
            have R2 := Lib.hid (reads_tx v1 (Lib.itoa eye) 9)
            clear hb OO II E1 B1 K y0
            go_wp2_with (at_builtin; (refine wpList_append_any _ rfl (.tmp 85) (.tmp 88) _ rfl w.heap.size 9 i0 _ 1 16 Tryz.underlying61 hi0 hz0 hz1 hzb rfl (by decide) _ 7 _ rfl O2.out (v1.alloc (.cells #[tx (Lib.itoa eye)] 9)).heap.size _ 1 1 (txs [Lib.itoa eye]) rfl R2.out (txs_one _) (by simp only [maxLen]; omega) (by omega) (by have := B2.out.size; omega) ?_); intro v2 w2 hO hg2 hat)
            go_roundg (gk - 1)
            case measure => omega
            case rel =>
              have hb9 := B2.out.grown hg2 B2.out.size (fun q hq => own_base O2.out q hq)
              refine ⟨1, by omega, by omega, by go_num, hO, fun q hq => ?_, (hg2.block _ I2.out.lt (fun e => ?_)).trans I2.out, hb9⟩
              · rcases hat with h | h
                · exact QQ.out q (h.symm.trans hq)
                · have h5 := I2.out.lt
                  rw [h] at hq
                  injection hq with hq
                  omega
              · exact QQ.out _ e.symm rfl
          · skip
            have y1 : wr.cell? ⟨w9.heap.size, 1, none⟩ = some (.int .i64 shore) := II.out.cell 1
            have K := Lib.hid (KI.out shore wr (by omega) (by omega) E1.out)
            clear KI
            go_wp2_with fail
            (with_reducible refine (K.out).mono ?_)
            rintro e v1 ⟨rfl, hb⟩
            have O2 := Lib.hid (own_bel (own_bel OO.out hb) (bl_alloc v1 (.cells #[tx (Lib.itoa shore)] 9)))
            have I2 := Lib.hid ((II.out.below hb II.out.lt).alloc (.cells #[tx (Lib.itoa shore)] 9))
            have E2 := Lib.hid ((E1.out.bl hb).bl (bl_alloc v1 (.cells #[tx (Lib.itoa shore)] 9)))
            have B2 := Lib.hid ((B1.out.trans (hb.mono B1.out.size)).trans ((bl_alloc v1 (.cells #[tx (Lib.itoa shore)] 9)).mono (Nat.le_trans B1.out.size hb.size)))
            have R2 := Lib.hid (reads_tx v1 (Lib.itoa shore) 9)
            clear hb OO II E1 B1 K y1
            go_wp2_with (at_builtin; (refine wpList_append_any _ rfl (.tmp 85) (.tmp 88) _ rfl w.heap.size 9 i0 _ 1 16 Tryz.underlying61 hi0 hz0 hz1 hzb rfl (by decide) _ 8 _ rfl O2.out (v1.alloc (.cells #[tx (Lib.itoa shore)] 9)).heap.size _ 1 1 (txs [Lib.itoa shore]) rfl R2.out (txs_one _) (by simp only [maxLen]; omega) (by omega) (by have := B2.out.size; omega) ?_); intro v2 w2 hO hg2 hat)
            go_roundg (gk - 1)
            case measure => omega
            case rel =>
              have hb9 := B2.out.grown hg2 B2.out.size (fun q hq => own_base O2.out q hq)
              refine ⟨2, by omega, by omega, by go_num, hO, fun q hq => ?_, (hg2.block _ I2.out.lt (fun e => ?_)).trans I2.out, hb9⟩
              · rcases hat with h | h
                · exact QQ.out q (h.symm.trans hq)
                · have h5 := I2.out.lt
                  rw [h] at hq
                  injection hq with hq
                  omega
              · exact QQ.out _ e.symm rfl
          · skip
            have y2 : wr.cell? ⟨w9.heap.size, 2, none⟩ = some (.int .i64 temp) := II.out.cell 2
            have K := Lib.hid (KI.out temp wr (by omega) (by omega) E1.out)
            clear KI
            go_wp2_with fail
            (with_reducible refine (K.out).mono ?_)
            rintro e v1 ⟨rfl, hb⟩
            have O2 := Lib.hid (own_bel (own_bel OO.out hb) (bl_alloc v1 (.cells #[tx (Lib.itoa temp)] 9)))
            have I2 := Lib.hid ((II.out.below hb II.out.lt).alloc (.cells #[tx (Lib.itoa temp)] 9))
            have E2 := Lib.hid ((E1.out.bl hb).bl (bl_alloc v1 (.cells #[tx (Lib.itoa temp)] 9)))
            have B2 := Lib.hid ((B1.out.trans (hb.mono B1.out.size)).trans ((bl_alloc v1 (.cells #[tx (Lib.itoa temp)] 9)).mono (Nat.le_trans B1.out.size hb.size)))
            have R2 := Lib.hid (reads_tx v1 (Lib.itoa temp) 9)
            clear hb OO II E1 B1 K y2
            go_wp2_with (at_builtin; (refine wpList_append_any _ rfl (.tmp 85) (.tmp 88) _ rfl w.heap.size 9 i0 _ 1 16 Tryz.underlying61 hi0 hz0 hz1 hzb rfl (by decide) _ 9 _ rfl O2.out (v1.alloc (.cells #[tx (Lib.itoa temp)] 9)).heap.size _ 1 1 (txs [Lib.itoa temp]) rfl R2.out (txs_one _) (by simp only [maxLen]; omega) (by omega) (by have := B2.out.size; omega) ?_); intro v2 w2 hO hg2 hat)
            go_roundg (gk - 1)
            case measure => omega
            case rel =>
              have hb9 := B2.out.grown hg2 B2.out.size (fun q hq => own_base O2.out q hq)
              refine ⟨3, by omega, by omega, by go_num, hO, fun q hq => ?_, (hg2.block _ I2.out.lt (fun e => ?_)).trans I2.out, hb9⟩
              · rcases hat with h | h
                · exact QQ.out q (h.symm.trans hq)
                · have h5 := I2.out.lt
                  rw [h] at hq
                  injection hq with hq
                  omega
              · exact QQ.out _ e.symm rfl
          · skip
            have y3 : wr.cell? ⟨w9.heap.size, 3, none⟩ = some (.int .i64 press) := II.out.cell 3
            have K := Lib.hid (KI.out press wr (by omega) (by omega) E1.out)
            clear KI
            go_wp2_with fail
            (with_reducible refine (K.out).mono ?_)
            rintro e v1 ⟨rfl, hb⟩
            have O2 := Lib.hid (own_bel (own_bel OO.out hb) (bl_alloc v1 (.cells #[tx (Lib.itoa press)] 9)))
            have I2 := Lib.hid ((II.out.below hb II.out.lt).alloc (.cells #[tx (Lib.itoa press)] 9))
            have E2 := Lib.hid ((E1.out.bl hb).bl (bl_alloc v1 (.cells #[tx (Lib.itoa press)] 9)))
            have B2 := Lib.hid ((B1.out.trans (hb.mono B1.out.size)).trans ((bl_alloc v1 (.cells #[tx (Lib.itoa press)] 9)).mono (Nat.le_trans B1.out.size hb.size)))
            have R2 := Lib.hid (reads_tx v1 (Lib.itoa press) 9)
            clear hb OO II E1 B1 K y3
            go_wp2_with (at_builtin; (refine wpList_append_any _ rfl (.tmp 85) (.tmp 88) _ rfl w.heap.size 9 i0 _ 1 16 Tryz.underlying61 hi0 hz0 hz1 hzb rfl (by decide) _ 10 _ rfl O2.out (v1.alloc (.cells #[tx (Lib.itoa press)] 9)).heap.size _ 1 1 (txs [Lib.itoa press]) rfl R2.out (txs_one _) (by simp only [maxLen]; omega) (by omega) (by have := B2.out.size; omega) ?_); intro v2 w2 hO hg2 hat)
            go_roundg (gk - 1)
            case measure => omega
            case rel =>
              have hb9 := B2.out.grown hg2 B2.out.size (fun q hq => own_base O2.out q hq)
              refine ⟨4, by omega, by omega, by go_num, hO, fun q hq => ?_, (hg2.block _ I2.out.lt (fun e => ?_)).trans I2.out, hb9⟩
              · rcases hat with h | h
                · exact QQ.out q (h.symm.trans hq)
                · have h5 := I2.out.lt
                  rw [h] at hq
                  injection hq with hq
                  omega
              · exact QQ.out _ e.symm rfl
          · skip
            clear QQ II KI
            obtain ⟨A9, c9, hv9, -, hnc, -⟩ := own_form OO.out
            obtain ⟨g4, cap, rfl, hle0, hlt⟩ := OO.out.form (by omega)
            have hle : 11 ≤ cap := by injection hv9 with _ _ h9; omega
            have hadd : ∀ j : Nat, ((⟨g4, 0, none⟩ : Addr).add j) = ⟨g4, 0 + j, none⟩ := fun j => by unfold Addr.add; split <;> simp_all
            have hL := HTL.out f l HF.out HL.out
            have hJ := jn_len 32 [body, m1, f, l, th, tb, m2, Lib.itoa eye, Lib.itoa shore, Lib.itoa temp, Lib.itoa press] hL
            have hJ2 : (SW.jn 32 [body, m1, f, l, th, tb, m2, Lib.itoa eye, Lib.itoa shore, Lib.itoa temp, Lib.itoa press]).length ≤ 11 * 1001 := hJ
            have KJ := Lib.hid (show Calls Tryz.prog 26 #[.slice (some ⟨g4, 0, none⟩) 11 cap, .string ⟨#[32]⟩] wr _ from join_any g4 0 cap [body, m1, f, l, th, tb, m2, Lib.itoa eye, Lib.itoa shore, Lib.itoa temp, Lib.itoa press] 32 wr hlt (fun j z hz => by
              rw [← hadd]
              refine OO.out.cells (g := g4) rfl j (tx z) ?_
              show (([body, m1, f, l, th, tb, m2, Lib.itoa eye, Lib.itoa shore, Lib.itoa temp, Lib.itoa press] : List Bs).map tx)[j]? = _
              rw [List.getElem?_map, hz]
              rfl) (by simp) hle (by omega))
            have hfin := HX.out _ (HTX.out f l HF.out HL.out) (by omega)
            generalize SW.jn 32 [body, m1, f, l, th, tb, m2, Lib.itoa eye, Lib.itoa shore, Lib.itoa temp, Lib.itoa press] = T at *
            have HFN := Lib.hid hfin
            clear hadd hL hJ hJ2 hle hle0 hv9 hnc hlt OO hfin
            go_wp2_with fail
            (refine (KJ.out).mono ?_)
            rintro e v1 ⟨rfl, hb⟩
            go_wp2
            go_ret2
            exact ⟨HFN.out, B1.out.trans (hb.mono B1.out.size)⟩
    · have HNO := Lib.hid (HN1.out hno)
      clear hno
      have yB : ∀ i, w3.cell? ⟨w.heap.size, i, none⟩ = (#[tx body, .int .i64 limb, .int .i64 lo, .int .i64 hi, .int .i64 hs, .int .i64 by_, .int .i64 hor, .int .i64 eye, .int .i64 shore, .int .i64 temp, .int .i64 press] : Array Value)[i]? := fun i => B3.out.cell i
      go_wp2_with fail
      (with_reducible refine (KH.out _ E3.out).mono ?_)
      rintro e w4 ⟨hcl, hb⟩
      have B4 := Lib.hid (B3.out.below hb B3.out.lt)
      have E4 := Lib.hid (E3.out.bl hb)
      have b4 := Lib.hid (b3.out.trans (hb.mono b3.out.size))
      clear hb B3 E3 b3 yB
      rcases hcl with ⟨l, hl, rfl⟩ | ⟨hno, rfl⟩
      all_goals
        clear KA KB
        go_wp2
        go_ret2
        exact ⟨HT.out HNO.out, b4.out⟩
end Go.Proofs.YtbpnacacnncopaaGreatDoor
