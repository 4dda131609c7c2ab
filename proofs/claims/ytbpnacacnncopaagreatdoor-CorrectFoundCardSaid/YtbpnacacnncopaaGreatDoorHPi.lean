/- correct.Reading where the search ends with a reading. -/
import Derived.Test.YtbpnacacnncopaaGreatDoorHPh
set_option linter.unusedVariables false
set_option linter.unusedSimpArgs false
namespace Go.Proofs.YtbpnacacnncopaaGreatDoor
open Go.RowKit Frm
def RdS (B : Nat) (Y : Array Value) (i : Nat) (v : Value) (w : World) : Prop :=
  if i = 19 then ∃ q, v = .pointer (some ⟨q, 0, none⟩) ∧ B ≤ q ∧ Blk w q 41 #[.int .i64 0, .int .i64 0] else v = Y.getD i undef
theorem RdS.keep {B : Nat} {Y : Array Value} {w w' : World} (hb : Below w.heap.size w w') (i : Nat) (v : Value) (h : RdS B Y i v w) : RdS B Y i v w' := by
  unfold RdS at h ⊢
  split
  · rename_i e
    rw [if_pos e] at h
    obtain ⟨q, h1, h2, h3⟩ := h
    exact ⟨q, h1, h2, h3.below hb h3.lt⟩
  · rename_i e
    rw [if_neg e] at h
    exact h
def RdI (W : World) (Y : Array Value) (F : Array Value) (a : Act) (M : Nat → Bool) (a' : Act) (w' : World) : Prop :=
  ∃ v : Nat → Value, a' = ((((((((((((((((((((a.put (some 55) (v 0)).put (some 56) (v 1)).put (some 57) (v 2)).put (some 58) (v 3)).put (some 59) (v 4)).put (some 60) (v 5)).put (some 61) (v 6)).put (some 62) (v 7)).put (some 63) (v 8)).put (some 64) (v 9)).put (some 65) (v 10)).put (some 66) (v 11)).put (some 67) (v 12)).put (some 68) (v 13)).put (some 69) (v 14)).put (some 70) (v 15)).put (some 71) (v 16)).put (some 72) (v 17)).put (some 73) (v 18)).put (some 14) (v 19)) ∧ (M 20 = true → ∀ j, j < 20 → M j = true) ∧ (M 20 = false → Below W.heap.size W w' ∧ ∀ i, M i = true → RdS W.heap.size Y i (v i) w') ∧
    (M 20 = true → ∃ q, v 19 = .pointer (some ⟨q, 0, none⟩) ∧ W.heap.size ≤ q ∧ Blk w' q 41 F ∧ Below W.heap.size W w')
def RdSl : Array Nat := #[55, 56, 57, 58, 59, 60, 61, 62, 63, 64, 65, 66, 67, 68, 69, 70, 71, 72, 73, 14, 0]
theorem RdI.start (W : World) (Y F : Array Value) (a : Act) : RdI W Y F a (fun _ => false) a W :=
  ⟨fun i => a.tmps.getD (RdSl.getD i 0) undef, by
    simp only [RdSl, Array.getD_eq_getD_getElem?, List.getElem?_toArray, List.getElem?_cons_zero, List.getElem?_cons_succ, Option.getD_some]
    simp only [← Array.getD_eq_getD_getElem?, putQ_self], fun h => (by cases h), fun _ => ⟨Below.refl _ _, fun i h => (by cases h)⟩, fun h => (by cases h)⟩
theorem isqF_le : ∀ (f s : Nat), isqF f s ≤ f
  | 0, s => by unfold isqF; exact Nat.le_refl _
  | f + 1, s => by
    unfold isqF
    split
    · exact Nat.le_refl _
    · have := isqF_le f s; omega
theorem dep_bd {s : Sgt} (h : siS s = true) : 0 ≤ depA s ∧ depA s ≤ depB s ∧ depB s ≤ 186000000 := by
  have k := si_ok h
  have d := dep_le h
  refine ⟨d.1, d.2.1, ?_⟩
  unfold depB
  split
  · have := isqF_le 2097152 (30976 * s.eye.toNat)
    unfold dpH dpL isq
    split <;> omega
  · split
    · rename_i q
      have := si_shore h q
      exact (sh_bd k.eye.1 k.eye.2 this.1 this.2).2.2
    · omega
set_option maxHeartbeats 16000000 in
set_option maxRecDepth 100000 in
theorem read_yes (ix : Int) (T : List Ent) (A : Option Addr) (n c : Nat) (s : Sgt) (g0 g1 g2 g3 e0 e1 p0 p1 h0 h1 a b : Int) (w : World) (hT : TabAt w w.heap.size A T) (hn : T.length = n) (hg : givB ix T s e0 e1 p0 p1 = true) (hl : s.body.length ≤ 100000) (hh : h0 ≤ h1) (hA : -120000 ≤ h0) (hB : h1 ≤ 5520000) (hr : RdIs ix T s e0 e1 p0 p1 h0 h1 a b) :
    Calls Tryz.prog 17 #[.agg #[.int .i64 ix, .slice A n c], sgv s.body s.limb s.lo s.hi s.hs s.by_ s.hor s.eye s.shore s.temp s.press, .agg #[.int .i64 g0, .int .i64 g1, .int .i64 g2, .int .i64 g3, .int .i64 e0, .int .i64 e1, .int .i64 p0, .int .i64 p1], .agg #[.int .i64 h0, .int .i64 h1]] w fun e w' => e = .returned (.tuple #[.agg #[.int .i64 a, .int .i64 b], .int .i64 0]) ∧ Below w.heap.size w w' := by
  obtain ⟨hv, hsi, dt⟩ := giv_ok hg
  obtain ⟨-, hlen, hok⟩ := ins_ok hv
  have n40 : n ≤ 40 := by omega
  obtain ⟨hn1, x, y, hU, x0', xy', y1', hn2, hD, hab⟩ := hr
  have KG := Lib.hid (fun W (hW : Below w.heap.size w W) => given_any ix T A n c s g0 g1 g2 g3 e0 e1 p0 p1 W (hT.up hW) hn (by omega) hl)
  rw [hg] at KG
  have KV := Lib.hid (fun W => aValid_any h0 h1 W)
  rw [show avB h0 h1 = true by rw [avB_true]; omega] at KV
  have KN := Lib.hid (fun W => arIn_any h0 h1 (-120000) 5520000 W (by rw [avB_true]; omega) (by rw [avB_true]; omega))
  rw [decide_eq_true hA, decide_eq_true hB] at KN
  have KW := Lib.hid (fun W => widerC_any h0 h1 300000 W (by omega) (by omega) (by omega) (by omega) (by omega) (by omega))
  have KPo := Lib.hid possible_any
  have KM := Lib.hid (fun W => Meet_yes (h0 - 300000) (h1 + 300000) (-60000) 5400000 W (by rw [avB_true]; omega) (by rw [avB_true]; omega) hn1)
  obtain ⟨l0, hl0⟩ : ∃ z, max (h0 - 300000) (-60000) = z := ⟨_, rfl⟩
  obtain ⟨l1, hl1⟩ : ∃ z, min (h1 + 300000) 5400000 = z := ⟨_, rfl⟩
  rw [hl0, hl1] at KM hU hn1
  have lb : -60000 ≤ l0 ∧ l1 ≤ 5400000 := by omega
  have KK0 := Lib.hid (fun (g : Nat) (a b : Int) W h => arcC_any g a b W h)
  have KU := Lib.hid (fun (G Q : Nat) (lo hi : Int) W hG hQ hne l0 l1 l2 => up_any G Q s g0 g1 g2 g3 e0 e1 p0 p1 lo hi 0 0 0 0 0 0 0 0 W hG hQ hne hsi dt.se dt.px l0 l1 l2)
  have KC := Lib.hid (fun (g : Nat) (lo hi : Int) W (hG : Blk W g 86 #[.int .i64 0]) (hW : Below w.heap.size w W) l0 l1 l2 => corr22_any g ix T A n c lo hi W hG (hT.up hW) hn hv l0 l1 l2)
  have KD := Lib.hid (fun (g : Nat) W (hG : Blk W g 86 #[.int .i64 0]) => (dep_any g s W hG hsi).mono fun e w' (h : (e = .returned (.agg #[.int .i64 (depA s), .int .i64 (depB s)]) ∧ 0 ≤ depA s ∧ depA s ≤ depB s ∧ depB s ≤ 186000000) ∧ Below W.heap.size W w') => (⟨h.1.1, h.2⟩ : e = .returned (.agg #[.int .i64 (depA s), .int .i64 (depB s)]) ∧ Below W.heap.size W w'))
  have HBD := Lib.hid (fun (lo hi : Int) (a0 : -60000 ≤ lo) (a1 : lo ≤ hi) (a2 : hi ≤ 5400000) => And.intro (rf_bd (lo := lo) (hi := hi) a0 a1 a2 dt.wt.t0 dt.wt.t1 dt.wt.p0 dt.wt.p1) (And.intro (px_bd lo hi dt.px) (se_bd s.limb p0 p1 lo hi dt.se)))
  have HU0 : Hid (∀ lo hi, upI s e0 e1 p0 p1 h0 h1 0 lo hi = some (lo, hi)) := Lib.hid fun lo hi => rfl
  have HU1 : Hid (∀ k lo hi x, upI s e0 e1 p0 p1 h0 h1 (k + 1) lo hi = some x → max lo (rdA s e0 e1 p0 p1 h0 lo hi) ≤ min hi (rdB s e0 e1 p0 p1 h1 lo hi) ∧ upI s e0 e1 p0 p1 h0 h1 k (max lo (rdA s e0 e1 p0 p1 h0 lo hi)) (min hi (rdB s e0 e1 p0 p1 h1 lo hi)) = some x) := Lib.hid fun k lo hi x h => by
    unfold upI at h
    split at h
    · rename_i q; exact ⟨q, h⟩
    · cases h
  have HD1 : Hid (∀ b0 b1 k lo hi x, dnI ix T b0 b1 (k + 1) lo hi = some x → max lo (b0 - (huV ix T lo hi).2) ≤ min hi (b1 - (huV ix T lo hi).1) ∧ dnI ix T b0 b1 k (max lo (b0 - (huV ix T lo hi).2)) (min hi (b1 - (huV ix T lo hi).1)) = some x) := Lib.hid fun b0 b1 k lo hi x h => by
    unfold dnI at h
    split at h
    · rename_i q; exact ⟨q, h⟩
    · cases h
  have HD0 : Hid (∀ b0 b1 lo hi, dnI ix T b0 b1 0 lo hi = some (lo, hi)) := Lib.hid fun b0 b1 lo hi => rfl
  have HHU := Lib.hid (fun lo hi => hu_bd hv lo hi)
  have HFT : Hid (s.hor = 2 → ftA s x = 2 * x ∧ ftB s y = 2 * y) := Lib.hid fun h => ⟨if_pos h, if_pos h⟩
  have HFN : Hid (¬ s.hor = 2 → ftA s x = x + depA s ∧ ftB s y = y + depB s) := Lib.hid fun h => ⟨if_neg h, if_neg h⟩
  have HDB := Lib.hid (dep_bd hsi)
  have hUU := Lib.hid hU
  have hDD := Lib.hid hD
  have HN2 := Lib.hid hn2
  generalize upI s e0 e1 p0 p1 h0 h1 = U at *
  generalize dnI ix T = DD at *
  generalize huV ix T = HU at *
  generalize ftA s x = fa at *
  generalize ftB s y = fb at *
  generalize depA s = da at *
  generalize depB s = db at *
  clear hT hn hg hl hv hsi dt hok hU hD hl0 hl1 hn2 hlen
  have I0 := Lib.hid (((((Blk.new w 40 #[.int .i64 ix, .slice A n c]).alloc (.cells #[txb s.body, .int .i64 s.limb, .int .i64 s.lo, .int .i64 s.hi, .int .i64 s.hs, .int .i64 s.by_, .int .i64 s.hor, .int .i64 s.eye, .int .i64 s.shore, .int .i64 s.temp, .int .i64 s.press] 25)).alloc (.cells #[.int .i64 g0, .int .i64 g1, .int .i64 g2, .int .i64 g3, .int .i64 e0, .int .i64 e1, .int .i64 p0, .int .i64 p1] 43)).alloc (.cells #[.int .i64 h0, .int .i64 h1] 41)).alloc (.cells #[.int .i64 0, .int .i64 0] 41))
  have B0 := Lib.hid ((((Blk.new (w.alloc (.cells #[.int .i64 ix, .slice A n c] 40)) 25 #[txb s.body, .int .i64 s.limb, .int .i64 s.lo, .int .i64 s.hi, .int .i64 s.hs, .int .i64 s.by_, .int .i64 s.hor, .int .i64 s.eye, .int .i64 s.shore, .int .i64 s.temp, .int .i64 s.press]).alloc (.cells #[.int .i64 g0, .int .i64 g1, .int .i64 g2, .int .i64 g3, .int .i64 e0, .int .i64 e1, .int .i64 p0, .int .i64 p1] 43)).alloc (.cells #[.int .i64 h0, .int .i64 h1] 41)).alloc (.cells #[.int .i64 0, .int .i64 0] 41))
  simp only [World.size_alloc] at B0
  have E0 := Lib.hid (((Blk.new ((w.alloc (.cells #[.int .i64 ix, .slice A n c] 40)).alloc (.cells #[txb s.body, .int .i64 s.limb, .int .i64 s.lo, .int .i64 s.hi, .int .i64 s.hs, .int .i64 s.by_, .int .i64 s.hor, .int .i64 s.eye, .int .i64 s.shore, .int .i64 s.temp, .int .i64 s.press] 25)) 43 #[.int .i64 g0, .int .i64 g1, .int .i64 g2, .int .i64 g3, .int .i64 e0, .int .i64 e1, .int .i64 p0, .int .i64 p1]).alloc (.cells #[.int .i64 h0, .int .i64 h1] 41)).alloc (.cells #[.int .i64 0, .int .i64 0] 41))
  simp only [World.size_alloc] at E0
  have H0 := Lib.hid ((Blk.new (((w.alloc (.cells #[.int .i64 ix, .slice A n c] 40)).alloc (.cells #[txb s.body, .int .i64 s.limb, .int .i64 s.lo, .int .i64 s.hi, .int .i64 s.hs, .int .i64 s.by_, .int .i64 s.hor, .int .i64 s.eye, .int .i64 s.shore, .int .i64 s.temp, .int .i64 s.press] 25)).alloc (.cells #[.int .i64 g0, .int .i64 g1, .int .i64 g2, .int .i64 g3, .int .i64 e0, .int .i64 e1, .int .i64 p0, .int .i64 p1] 43)) 41 #[.int .i64 h0, .int .i64 h1]).alloc (.cells #[.int .i64 0, .int .i64 0] 41))
  simp only [World.size_alloc] at H0
  have R0 := Lib.hid (Blk.new ((((w.alloc (.cells #[.int .i64 ix, .slice A n c] 40)).alloc (.cells #[txb s.body, .int .i64 s.limb, .int .i64 s.lo, .int .i64 s.hi, .int .i64 s.hs, .int .i64 s.by_, .int .i64 s.hor, .int .i64 s.eye, .int .i64 s.shore, .int .i64 s.temp, .int .i64 s.press] 25)).alloc (.cells #[.int .i64 g0, .int .i64 g1, .int .i64 g2, .int .i64 g3, .int .i64 e0, .int .i64 e1, .int .i64 p0, .int .i64 p1] 43)).alloc (.cells #[.int .i64 h0, .int .i64 h1] 41)) 41 #[.int .i64 0, .int .i64 0])
  simp only [World.size_alloc] at R0
  have b0 := Lib.hid ((((((Below.refl w.heap.size w).alloc (Nat.le_refl _) (.cells #[.int .i64 ix, .slice A n c] 40)).alloc (by simp) (.cells #[txb s.body, .int .i64 s.limb, .int .i64 s.lo, .int .i64 s.hi, .int .i64 s.hs, .int .i64 s.by_, .int .i64 s.hor, .int .i64 s.eye, .int .i64 s.shore, .int .i64 s.temp, .int .i64 s.press] 25)).alloc (by simp; omega) (.cells #[.int .i64 g0, .int .i64 g1, .int .i64 g2, .int .i64 g3, .int .i64 e0, .int .i64 e1, .int .i64 p0, .int .i64 p1] 43)).alloc (by simp; omega) (.cells #[.int .i64 h0, .int .i64 h1] 41)).alloc (by simp; omega) (.cells #[.int .i64 0, .int .i64 0] 41))
  go_enter Tryz.func17, Tryz.ntmps17
  go_upto_region 1 with fail
  generalize (((((w.alloc (.cells #[.int .i64 ix, .slice A n c] 40)).alloc (.cells #[txb s.body, .int .i64 s.limb, .int .i64 s.lo, .int .i64 s.hi, .int .i64 s.hs, .int .i64 s.by_, .int .i64 s.hor, .int .i64 s.eye, .int .i64 s.shore, .int .i64 s.temp, .int .i64 s.press] 25)).alloc (.cells #[.int .i64 g0, .int .i64 g1, .int .i64 g2, .int .i64 g3, .int .i64 e0, .int .i64 e1, .int .i64 p0, .int .i64 p1] 43)).alloc (.cells #[.int .i64 h0, .int .i64 h1] 41)).alloc (.cells #[.int .i64 0, .int .i64 0] 41)) = w1 at *
  obtain ⟨aR, haR⟩ : ∃ a, w.heap.size + 1 + 1 + 1 + 1 = a := ⟨_, rfl⟩
  rw [haR] at R0 ⊢
  obtain ⟨aH, haH⟩ : ∃ a, w.heap.size + 1 + 1 + 1 = a := ⟨_, rfl⟩
  rw [haH] at H0 ⊢
  obtain ⟨aE, haE⟩ : ∃ a, w.heap.size + 1 + 1 = a := ⟨_, rfl⟩
  rw [haE] at E0 ⊢
  obtain ⟨aB, haB⟩ : ∃ a, w.heap.size + 1 = a := ⟨_, rfl⟩
  rw [haB] at B0 ⊢
  obtain ⟨aI, haI⟩ : ∃ a, w.heap.size = a := ⟨_, rfl⟩
  rw [haI] at I0 ⊢
  have oB : aI < aB := by omega
  have oE : aB < aE := by omega
  have oH : aE < aH := by omega
  have oR : aH < aR := by omega
  have ow : w.heap.size ≤ aI := by omega
  clear haR haH haE haB haI
  have yI : ∀ i, w1.cell? ⟨aI, i, none⟩ = (#[.int .i64 ix, .slice A n c] : Array Value)[i]? := fun i => I0.out.cell i
  have yB : ∀ i, w1.cell? ⟨aB, i, none⟩ = (#[txb s.body, .int .i64 s.limb, .int .i64 s.lo, .int .i64 s.hi, .int .i64 s.hs, .int .i64 s.by_, .int .i64 s.hor, .int .i64 s.eye, .int .i64 s.shore, .int .i64 s.temp, .int .i64 s.press] : Array Value)[i]? := fun i => B0.out.cell i
  have yE : ∀ i, w1.cell? ⟨aE, i, none⟩ = (#[.int .i64 g0, .int .i64 g1, .int .i64 g2, .int .i64 g3, .int .i64 e0, .int .i64 e1, .int .i64 p0, .int .i64 p1] : Array Value)[i]? := fun i => E0.out.cell i
  go_wp2_with fail
  (with_reducible refine (KG.out _ b0.out).mono ?_)
  rintro e w2 ⟨rfl, hb⟩
  have I2 := Lib.hid (I0.out.below hb I0.out.lt)
  have B2 := Lib.hid (B0.out.below hb B0.out.lt)
  have E2 := Lib.hid (E0.out.below hb E0.out.lt)
  have H2 := Lib.hid (H0.out.below hb H0.out.lt)
  have R2 := Lib.hid (R0.out.below hb R0.out.lt)
  have b2 := Lib.hid (b0.out.trans (hb.mono b0.out.size))
  clear hb I0 B0 E0 H0 R0 b0 yI yB yE
  have yH : ∀ i, w2.cell? ⟨aH, i, none⟩ = (#[.int .i64 h0, .int .i64 h1] : Array Value)[i]? := fun i => H2.out.cell i
  go_wp2_with fail
  (with_reducible refine (KV.out _).mono ?_)
  rintro e w3 ⟨rfl, hb⟩
  have I3 := Lib.hid (I2.out.below hb I2.out.lt)
  have B3 := Lib.hid (B2.out.below hb B2.out.lt)
  have E3 := Lib.hid (E2.out.below hb E2.out.lt)
  have H3 := Lib.hid (H2.out.below hb H2.out.lt)
  have R3 := Lib.hid (R2.out.below hb R2.out.lt)
  have b3 := Lib.hid (b2.out.trans (hb.mono b2.out.size))
  clear hb I2 B2 E2 H2 R2 b2 yH
  have yH : ∀ i, w3.cell? ⟨aH, i, none⟩ = (#[.int .i64 h0, .int .i64 h1] : Array Value)[i]? := fun i => H3.out.cell i
  go_wp2_with fail
  (with_reducible refine (KN.out _).mono ?_)
  rintro e w4 ⟨rfl, hb⟩
  have I4 := Lib.hid (I3.out.below hb I3.out.lt)
  have B4 := Lib.hid (B3.out.below hb B3.out.lt)
  have E4 := Lib.hid (E3.out.below hb E3.out.lt)
  have H4 := Lib.hid (H3.out.below hb H3.out.lt)
  have R4 := Lib.hid (R3.out.below hb R3.out.lt)
  have b4 := Lib.hid (b3.out.trans (hb.mono b3.out.size))
  clear hb I3 B3 E3 H3 R3 b3 yH
  have oG : aR < w4.heap.size := R4.out.lt
  have I5 := Lib.hid (I4.out.alloc (.cells #[.int .i64 0] 86))
  have B5 := Lib.hid (B4.out.alloc (.cells #[.int .i64 0] 86))
  have E5 := Lib.hid (E4.out.alloc (.cells #[.int .i64 0] 86))
  have H5 := Lib.hid (H4.out.alloc (.cells #[.int .i64 0] 86))
  have R5 := Lib.hid (R4.out.alloc (.cells #[.int .i64 0] 86))
  have G5 := Lib.hid (Blk.new w4 86 #[.int .i64 0])
  have b5 := Lib.hid (b4.out.trans ((bl_alloc w4 (.cells #[.int .i64 0] 86)).mono b4.out.size))
  clear I4 B4 E4 H4 R4 b4
  go_upto_region 6 with fail
  generalize w4.alloc (.cells #[.int .i64 0] 86) = w6 at *
  obtain ⟨aG, haG⟩ : ∃ a, w4.heap.size = a := ⟨_, rfl⟩
  rw [haG] at oG G5 ⊢
  clear haG
  have KK := Lib.hid (fun (a b : Int) W h => KK0.out aG a b W h)
  clear KK0 KG KV KN
  have yH : ∀ i, w6.cell? ⟨aH, i, none⟩ = (#[.int .i64 h0, .int .i64 h1] : Array Value)[i]? := fun i => H5.out.cell i
  go_wp2_with fail
  (with_reducible refine (KW.out _).mono ?_)
  rintro e w7 ⟨rfl, hb⟩
  have I7 := Lib.hid (I5.out.below hb I5.out.lt)
  have B7 := Lib.hid (B5.out.below hb B5.out.lt)
  have E7 := Lib.hid (E5.out.below hb E5.out.lt)
  have H7 := Lib.hid (H5.out.below hb H5.out.lt)
  have R7 := Lib.hid (R5.out.below hb R5.out.lt)
  have G7 := Lib.hid (G5.out.below hb G5.out.lt)
  have b7 := Lib.hid (b5.out.trans (hb.mono b5.out.size))
  clear hb I5 B5 E5 H5 R5 G5 b5 yH
  go_wp2_with fail
  (with_reducible refine (KPo.out _).mono ?_)
  rintro e w8 ⟨rfl, hb⟩
  have I8 := Lib.hid (I7.out.below hb I7.out.lt)
  have B8 := Lib.hid (B7.out.below hb B7.out.lt)
  have E8 := Lib.hid (E7.out.below hb E7.out.lt)
  have H8 := Lib.hid (H7.out.below hb H7.out.lt)
  have R8 := Lib.hid (R7.out.below hb R7.out.lt)
  have G8 := Lib.hid (G7.out.below hb G7.out.lt)
  have b8 := Lib.hid (b7.out.trans (hb.mono b7.out.size))
  clear hb I7 B7 E7 H7 R7 G7 b7
  go_wp2_with fail
  (with_reducible refine (KM.out _).mono ?_)
  rintro e w9 ⟨rfl, hb⟩
  have I9 := Lib.hid (I8.out.below hb I8.out.lt)
  have B9 := Lib.hid (B8.out.below hb B8.out.lt)
  have E9 := Lib.hid (E8.out.below hb E8.out.lt)
  have H9 := Lib.hid (H8.out.below hb H8.out.lt)
  have R9 := Lib.hid (R8.out.below hb R8.out.lt)
  have G9 := Lib.hid (G8.out.below hb G8.out.lt)
  have b9 := Lib.hid (b8.out.trans (hb.mono b8.out.size))
  clear hb I8 B8 E8 H8 R8 G8 b8
  go_wp2_with fail
  (with_reducible refine (KK.out l0 l1 _ G9.out).mono ?_)
  rintro e w10 ⟨rfl, hb⟩
  have I10 := Lib.hid (I9.out.below hb I9.out.lt)
  have B10 := Lib.hid (B9.out.below hb B9.out.lt)
  have E10 := Lib.hid (E9.out.below hb E9.out.lt)
  have H10 := Lib.hid (H9.out.below hb H9.out.lt)
  have R10 := Lib.hid (R9.out.below hb R9.out.lt)
  have G10 := Lib.hid (G9.out.below hb G9.out.lt)
  have b10 := Lib.hid (b9.out.trans (hb.mono b9.out.size))
  clear hb I9 B9 E9 H9 R9 G9 b9
  have oA : aG < w10.heap.size := G10.out.lt
  have I11 := Lib.hid (I10.out.alloc (.cells #[.int .i64 l0, .int .i64 l1] 41))
  have B11 := Lib.hid (B10.out.alloc (.cells #[.int .i64 l0, .int .i64 l1] 41))
  have E11 := Lib.hid (E10.out.alloc (.cells #[.int .i64 l0, .int .i64 l1] 41))
  have H11 := Lib.hid (H10.out.alloc (.cells #[.int .i64 l0, .int .i64 l1] 41))
  have R11 := Lib.hid (R10.out.alloc (.cells #[.int .i64 l0, .int .i64 l1] 41))
  have G11 := Lib.hid (G10.out.alloc (.cells #[.int .i64 l0, .int .i64 l1] 41))
  have A11 := Lib.hid (Blk.new w10 41 #[.int .i64 l0, .int .i64 l1])
  have b11 := Lib.hid (b10.out.trans ((bl_alloc w10 (.cells #[.int .i64 l0, .int .i64 l1] 41)).mono b10.out.size))
  clear I10 B10 E10 H10 R10 G10 b10
  go_upto_region 7 with fail
  generalize w10.alloc (.cells #[.int .i64 l0, .int .i64 l1] 41) = w12 at *
  obtain ⟨aA, haA⟩ : ∃ a, w10.heap.size = a := ⟨_, rfl⟩
  rw [haA] at oA A11 ⊢
  clear haA
  clear KW KPo KM
  go_wp2
  go_loopg [12] 8 (fun gz s12 wr => ∃ (k : Nat) (lo hi : Int), s12 = .int .i64 (k : Int) ∧ k ≤ 8 ∧ 8 - k ≤ gz ∧ U (8 - k) lo hi = some (x, y) ∧ -60000 ≤ lo ∧ lo ≤ hi ∧ hi ≤ 5400000 ∧ Blk wr aI 40 #[.int .i64 ix, .slice A n c] ∧ Blk wr aB 25 #[txb s.body, .int .i64 s.limb, .int .i64 s.lo, .int .i64 s.hi, .int .i64 s.hs, .int .i64 s.by_, .int .i64 s.hor, .int .i64 s.eye, .int .i64 s.shore, .int .i64 s.temp, .int .i64 s.press] ∧ Blk wr aE 43 #[.int .i64 g0, .int .i64 g1, .int .i64 g2, .int .i64 g3, .int .i64 e0, .int .i64 e1, .int .i64 p0, .int .i64 p1] ∧ Blk wr aH 41 #[.int .i64 h0, .int .i64 h1] ∧ Blk wr aR 41 #[.int .i64 0, .int .i64 0] ∧ Blk wr aG 86 #[.int .i64 0] ∧ Blk wr aA 41 #[.int .i64 lo, .int .i64 hi] ∧ Below w.heap.size w wr)
  case atStart => exact ⟨0, l0, l1, rfl, by omega, by omega, hUU.out, lb.1, hn1, lb.2, I11.out, B11.out, E11.out, H11.out, R11.out, G11.out, A11.out, b11.out⟩
  case round =>
    obtain ⟨k, lo, hi, rfl, hk, hgz, hU, q0, q1, q2, gI, gB, gE, gH, gR, gG, gA, gb⟩ := hrel
    have I40 := Lib.hid gI
    have B40 := Lib.hid gB
    have E40 := Lib.hid gE
    have H40 := Lib.hid gH
    have R40 := Lib.hid gR
    have G40 := Lib.hid gG
    have A40 := Lib.hid gA
    have b40 := Lib.hid gb
    have HUk := Lib.hid hU
    clear hU gb hUU gI gB gE gH gR gG gA I11 B11 E11 H11 R11 G11 A11 b11
    by_cases hlt : k < 8
    case neg =>
      obtain rfl : k = 8 := by omega
      have hx9 : (lo, hi) = (x, y) := by
        have h := HUk.out
        rw [show 8 - 8 = 0 from rfl, HU0.out] at h
        exact Option.some.inj h
      simp only [Prod.mk.injEq] at hx9
      obtain ⟨rfl, rfl⟩ := hx9
      clear HUk HU0 HU1 hlt hgz hk
      have oC : aA < wr.heap.size := A40.out.lt
      have m1 : wrap64 (2 * lo) = 2 * lo := IntWalk.wrap64_in _ (by omega)
      have m2 : wrap64 (2 * hi) = 2 * hi := IntWalk.wrap64_in _ (by omega)
      have yG : ∀ i, wr.cell? ⟨aG, i, none⟩ = (#[.int .i64 0] : Array Value)[i]? := fun i => G40.out.cell i
      have yA : ∀ i, wr.cell? ⟨aA, i, none⟩ = (#[.int .i64 lo, .int .i64 hi] : Array Value)[i]? := fun i => A40.out.cell i
      have I41 := Lib.hid (I40.out.alloc (.cells #[.int .i64 (2 * lo), .int .i64 (2 * hi)] 41))
      have B41 := Lib.hid (B40.out.alloc (.cells #[.int .i64 (2 * lo), .int .i64 (2 * hi)] 41))
      have E41 := Lib.hid (E40.out.alloc (.cells #[.int .i64 (2 * lo), .int .i64 (2 * hi)] 41))
      have H41 := Lib.hid (H40.out.alloc (.cells #[.int .i64 (2 * lo), .int .i64 (2 * hi)] 41))
      have R41 := Lib.hid (R40.out.alloc (.cells #[.int .i64 (2 * lo), .int .i64 (2 * hi)] 41))
      have G41 := Lib.hid (G40.out.alloc (.cells #[.int .i64 (2 * lo), .int .i64 (2 * hi)] 41))
      have A41 := Lib.hid (A40.out.alloc (.cells #[.int .i64 (2 * lo), .int .i64 (2 * hi)] 41))
      have C41 := Lib.hid (Blk.new wr 41 #[.int .i64 (2 * lo), .int .i64 (2 * hi)])
      have b41 := Lib.hid (b40.out.trans ((bl_alloc wr (.cells #[.int .i64 (2 * lo), .int .i64 (2 * hi)] 41)).mono b40.out.size))
      clear I40 B40 E40 H40 R40 G40 A40 b40
      go_upto_region 18 with fail
      clear yG yA
      generalize wr.alloc (.cells #[.int .i64 (2 * lo), .int .i64 (2 * hi)] 41) = w42 at *
      obtain ⟨aC, haC⟩ : ∃ a, wr.heap.size = a := ⟨_, rfl⟩
      rw [haC] at oC C41 ⊢
      clear haC
      by_cases hh2 : s.hor = 2
      case pos =>
        obtain ⟨hf1, hf2⟩ := HFT.out hh2
        have dh : ((s.hor : Int) != 2) = false := by rw [hh2]; rfl
        rw [← hf1, ← hf2] at C41
        have hfb : -1000000 ≤ fa ∧ fa ≤ fb ∧ fb ≤ 200000000 := by omega
        clear hf1 hf2
        have yB : ∀ i, w42.cell? ⟨aB, i, none⟩ = (#[txb s.body, .int .i64 s.limb, .int .i64 s.lo, .int .i64 s.hi, .int .i64 s.hs, .int .i64 s.by_, .int .i64 s.hor, .int .i64 s.eye, .int .i64 s.shore, .int .i64 s.temp, .int .i64 s.press] : Array Value)[i]? := fun i => B41.out.cell i
        go_upto_region 20 with fail
        clear yB
        have KW := Lib.hid (fun W => widerC_any fa fb 120000 W (by omega) (by omega) (by omega) (by omega) (by omega) (by omega))
        have hn2 := HN2.out
        have KM := Lib.hid (fun W => Meet_yes (fa - 120000) (fb + 120000) (-60000) 7800000 W (by rw [avB_true]; omega) (by rw [avB_true]; omega) hn2)
        have hD := hDD.out
        obtain ⟨m0, hm0⟩ : ∃ z, max (fa - 120000) (-60000) = z := ⟨_, rfl⟩
        obtain ⟨m1', hm1⟩ : ∃ z, min (fb + 120000) 7800000 = z := ⟨_, rfl⟩
        rw [hm0, hm1] at KM hD hn2
        have mb : -60000 ≤ m0 ∧ m1' ≤ 7800000 := by omega
        have HDq := Lib.hid hD
        clear hD hDD hm0 hm1 HN2
        have yC : ∀ i, w42.cell? ⟨aC, i, none⟩ = (#[.int .i64 fa, .int .i64 fb] : Array Value)[i]? := fun i => C41.out.cell i
        go_wp2_with fail
        (with_reducible refine (KW.out _).mono ?_)
        rintro e w43 ⟨rfl, hb⟩
        have I43 := Lib.hid (I41.out.below hb I41.out.lt)
        have B43 := Lib.hid (B41.out.below hb B41.out.lt)
        have E43 := Lib.hid (E41.out.below hb E41.out.lt)
        have H43 := Lib.hid (H41.out.below hb H41.out.lt)
        have R43 := Lib.hid (R41.out.below hb R41.out.lt)
        have G43 := Lib.hid (G41.out.below hb G41.out.lt)
        have A43 := Lib.hid (A41.out.below hb A41.out.lt)
        have C43 := Lib.hid (C41.out.below hb C41.out.lt)
        have b43 := Lib.hid (b41.out.trans (hb.mono b41.out.size))
        clear hb I41 B41 E41 H41 R41 G41 A41 C41 b41 yC
        go_wp2_with fail
        (with_reducible refine (KM.out _).mono ?_)
        rintro e w44 ⟨rfl, hb⟩
        have I44 := Lib.hid (I43.out.below hb I43.out.lt)
        have B44 := Lib.hid (B43.out.below hb B43.out.lt)
        have E44 := Lib.hid (E43.out.below hb E43.out.lt)
        have H44 := Lib.hid (H43.out.below hb H43.out.lt)
        have R44 := Lib.hid (R43.out.below hb R43.out.lt)
        have G44 := Lib.hid (G43.out.below hb G43.out.lt)
        have A44 := Lib.hid (A43.out.below hb A43.out.lt)
        have C44 := Lib.hid (C43.out.below hb C43.out.lt)
        have b44 := Lib.hid (b43.out.trans (hb.mono b43.out.size))
        clear hb I43 B43 E43 H43 R43 G43 A43 C43 b43
        go_wp2_with fail
        (with_reducible refine (KK.out m0 m1' _ G44.out).mono ?_)
        rintro e w45 ⟨rfl, hb⟩
        have I45 := Lib.hid (I44.out.below hb I44.out.lt)
        have B45 := Lib.hid (B44.out.below hb B44.out.lt)
        have E45 := Lib.hid (E44.out.below hb E44.out.lt)
        have H45 := Lib.hid (H44.out.below hb H44.out.lt)
        have R45 := Lib.hid (R44.out.below hb R44.out.lt)
        have G45 := Lib.hid (G44.out.below hb G44.out.lt)
        have A45 := Lib.hid (A44.out.below hb A44.out.lt)
        have C45 := Lib.hid (C44.out.below hb C44.out.lt)
        have b45 := Lib.hid (b44.out.trans (hb.mono b44.out.size))
        clear hb I44 B44 E44 H44 R44 G44 A44 C44 b44
        have oO : aC < w45.heap.size := C45.out.lt
        have I46 := Lib.hid (I45.out.alloc (.cells #[.int .i64 m0, .int .i64 (m1')] 41))
        have B46 := Lib.hid (B45.out.alloc (.cells #[.int .i64 m0, .int .i64 (m1')] 41))
        have E46 := Lib.hid (E45.out.alloc (.cells #[.int .i64 m0, .int .i64 (m1')] 41))
        have H46 := Lib.hid (H45.out.alloc (.cells #[.int .i64 m0, .int .i64 (m1')] 41))
        have R46 := Lib.hid (R45.out.alloc (.cells #[.int .i64 m0, .int .i64 (m1')] 41))
        have G46 := Lib.hid (G45.out.alloc (.cells #[.int .i64 m0, .int .i64 (m1')] 41))
        have A46 := Lib.hid (A45.out.alloc (.cells #[.int .i64 m0, .int .i64 (m1')] 41))
        have C46 := Lib.hid (C45.out.alloc (.cells #[.int .i64 m0, .int .i64 (m1')] 41))
        have O46 := Lib.hid (Blk.new w45 41 #[.int .i64 m0, .int .i64 (m1')])
        have b46 := Lib.hid (b45.out.trans ((bl_alloc w45 (.cells #[.int .i64 m0, .int .i64 (m1')] 41)).mono b45.out.size))
        clear I45 B45 E45 H45 R45 G45 A45 C45 b45
        go_upto_region 21 with fail
        generalize w45.alloc (.cells #[.int .i64 m0, .int .i64 (m1')] 41) = w47 at *
        obtain ⟨aO, haO⟩ : ∃ a, w45.heap.size = a := ⟨_, rfl⟩
        rw [haO] at oO O46 ⊢
        clear haO
        clear KW KM
        go_wp2
        go_loopg [17] 4 (fun gz s17 wr => ∃ (k : Nat) (po qo : Int), s17 = .int .i64 (k : Int) ∧ k ≤ 4 ∧ 4 - k ≤ gz ∧ DD fa fb (4 - k) po qo = some (a, b) ∧ -60000 ≤ po ∧ po ≤ qo ∧ qo ≤ 7800000 ∧ Blk wr aI 40 #[.int .i64 ix, .slice A n c] ∧ Blk wr aB 25 #[txb s.body, .int .i64 s.limb, .int .i64 s.lo, .int .i64 s.hi, .int .i64 s.hs, .int .i64 s.by_, .int .i64 s.hor, .int .i64 s.eye, .int .i64 s.shore, .int .i64 s.temp, .int .i64 s.press] ∧ Blk wr aE 43 #[.int .i64 g0, .int .i64 g1, .int .i64 g2, .int .i64 g3, .int .i64 e0, .int .i64 e1, .int .i64 p0, .int .i64 p1] ∧ Blk wr aH 41 #[.int .i64 h0, .int .i64 h1] ∧ Blk wr aR 41 #[.int .i64 0, .int .i64 0] ∧ Blk wr aG 86 #[.int .i64 0] ∧ Blk wr aA 41 #[.int .i64 lo, .int .i64 hi] ∧ Blk wr aC 41 #[.int .i64 fa, .int .i64 fb] ∧ Blk wr aO 41 #[.int .i64 po, .int .i64 qo] ∧ Below w.heap.size w wr)
        case atStart => exact ⟨0, m0, m1', rfl, by omega, by omega, HDq.out, mb.1, hn2, mb.2, I46.out, B46.out, E46.out, H46.out, R46.out, G46.out, A46.out, C46.out, O46.out, b46.out⟩
        case round =>
          obtain ⟨k, po, qo, rfl, hk, hgz, hU, q0, q1, q2, gI, gB, gE, gH, gR, gG, gA, gC, gO, gb⟩ := hrel
          have I80 := Lib.hid gI
          have B80 := Lib.hid gB
          have E80 := Lib.hid gE
          have H80 := Lib.hid gH
          have R80 := Lib.hid gR
          have G80 := Lib.hid gG
          have A80 := Lib.hid gA
          have C80 := Lib.hid gC
          have O80 := Lib.hid gO
          have b80 := Lib.hid gb
          have HUk := Lib.hid hU
          clear hU gb HDq gI gB gE gH gR gG gA gC gO I46 B46 E46 H46 R46 G46 A46 C46 O46 b46
          by_cases hlt : k < 4
          case neg =>
            obtain rfl : k = 4 := by omega
            have hx9 : (po, qo) = (a, b) := by
              have h := HUk.out
              rw [show 4 - 4 = 0 from rfl, HD0.out] at h
              exact Option.some.inj h
            simp only [Prod.mk.injEq] at hx9
            obtain ⟨rfl, rfl⟩ := hx9
            clear HUk HD0 HD1 hlt hgz hk
            have yG : ∀ i, wr.cell? ⟨aG, i, none⟩ = (#[.int .i64 0] : Array Value)[i]? := fun i => G80.out.cell i
            have yO : ∀ i, wr.cell? ⟨aO, i, none⟩ = (#[.int .i64 po, .int .i64 qo] : Array Value)[i]? := fun i => O80.out.cell i
            have yR : ∀ i, wr.cell? ⟨aR, i, none⟩ = (#[.int .i64 0, .int .i64 0] : Array Value)[i]? := fun i => R80.out.cell i
            have zR : ∀ i, wr.frozen? ⟨aR, i, none⟩ = false := fun i => R80.out.frozen i
            go_wp2
            refine bodyPost_ret (v := .tuple #[.agg #[.int .i64 po, .int .i64 qo], .int .i64 0]) (by simp [results, Tryz.results17, go_sem, *]; done) rfl ⟨rfl, ?_⟩
            exact (b80.out.setCell (p := ⟨aR, 0, none⟩) (show w.heap.size ≤ aR by omega) _).setCell (p := ⟨aR, 1, none⟩) (show w.heap.size ≤ aR by omega) _
          case pos =>
            have dl : decide (k < 4) = true := decide_eq_true hlt
            obtain ⟨j, hj⟩ : ∃ j, 4 - k = j + 1 := ⟨3 - k, by omega⟩
            have hst := HUk.out
            rw [hj] at hst
            obtain ⟨hne, hst⟩ := HD1.out _ _ _ _ _ _ hst
            have hb := HHU.out po qo
            have KCr := Lib.hid (fun W hG hW => KC.out aG po qo W hG hW q0 q1 q2)
            obtain ⟨d0, hd0⟩ : ∃ z, (HU po qo).1 = z := ⟨_, rfl⟩
            obtain ⟨d1, hd1⟩ : ∃ z, (HU po qo).2 = z := ⟨_, rfl⟩
            rw [hd0, hd1] at KCr hst hne hb
            clear hd0 hd1
            have KS := Lib.hid (fun W => arSub_any fa fb d0 d1 W (by rw [avB_true]; omega) (by rw [avB_true]; omega) (rch_iff.2 (by omega)) (rch_iff.2 (by omega)))
            obtain ⟨t0, ht0⟩ : ∃ t, fa - d1 = t := ⟨_, rfl⟩
            obtain ⟨t1, ht1⟩ : ∃ t, fb - d0 = t := ⟨_, rfl⟩
            rw [ht0, ht1] at KS hst hne
            have KM := Lib.hid (fun W => Meet_yes po qo t0 t1 W (by rw [avB_true]; omega) (by rw [avB_true]; omega) hne)
            obtain ⟨v0, hv0⟩ : ∃ t, max po t0 = t := ⟨_, rfl⟩
            obtain ⟨v1, hv1⟩ : ∃ t, min qo t1 = t := ⟨_, rfl⟩
            rw [hv0, hv1] at KM hst hne
            have vb : -60000 ≤ v0 ∧ v1 ≤ 7800000 := by omega
            have HST := Lib.hid hst
            have hj2 : j = 4 - (k + 1) := by omega
            rw [hj2] at HST
            clear hst hv0 hv1 ht0 ht1 hj2 hj HUk
            have yG : ∀ i, wr.cell? ⟨aG, i, none⟩ = (#[.int .i64 0] : Array Value)[i]? := fun i => G80.out.cell i
            have yI : ∀ i, wr.cell? ⟨aI, i, none⟩ = (#[.int .i64 ix, .slice A n c] : Array Value)[i]? := fun i => I80.out.cell i
            have yO : ∀ i, wr.cell? ⟨aO, i, none⟩ = (#[.int .i64 po, .int .i64 qo] : Array Value)[i]? := fun i => O80.out.cell i
            go_wp2_with fail
            (with_reducible refine (KCr.out _ G80.out b80.out).mono ?_)
            rintro e w81 ⟨rfl, hb⟩
            have I81 := Lib.hid (I80.out.below hb I80.out.lt)
            have B81 := Lib.hid (B80.out.below hb B80.out.lt)
            have E81 := Lib.hid (E80.out.below hb E80.out.lt)
            have H81 := Lib.hid (H80.out.below hb H80.out.lt)
            have R81 := Lib.hid (R80.out.below hb R80.out.lt)
            have G81 := Lib.hid (G80.out.below hb G80.out.lt)
            have A81 := Lib.hid (A80.out.below hb A80.out.lt)
            have C81 := Lib.hid (C80.out.below hb C80.out.lt)
            have O81 := Lib.hid (O80.out.below hb O80.out.lt)
            have b81 := Lib.hid (b80.out.trans (hb.mono b80.out.size))
            clear hb I80 B80 E80 H80 R80 G80 A80 C80 O80 b80 yG yI yO
            have oD : aO < w81.heap.size := O81.out.lt
            have I82 := Lib.hid (I81.out.alloc (.cells #[.int .i64 d0, .int .i64 d1] 41))
            have B82 := Lib.hid (B81.out.alloc (.cells #[.int .i64 d0, .int .i64 d1] 41))
            have E82 := Lib.hid (E81.out.alloc (.cells #[.int .i64 d0, .int .i64 d1] 41))
            have H82 := Lib.hid (H81.out.alloc (.cells #[.int .i64 d0, .int .i64 d1] 41))
            have R82 := Lib.hid (R81.out.alloc (.cells #[.int .i64 d0, .int .i64 d1] 41))
            have G82 := Lib.hid (G81.out.alloc (.cells #[.int .i64 d0, .int .i64 d1] 41))
            have A82 := Lib.hid (A81.out.alloc (.cells #[.int .i64 d0, .int .i64 d1] 41))
            have C82 := Lib.hid (C81.out.alloc (.cells #[.int .i64 d0, .int .i64 d1] 41))
            have O82 := Lib.hid (O81.out.alloc (.cells #[.int .i64 d0, .int .i64 d1] 41))
            have D82 := Lib.hid (Blk.new w81 41 #[.int .i64 d0, .int .i64 d1])
            have b82 := Lib.hid (b81.out.trans ((bl_alloc w81 (.cells #[.int .i64 d0, .int .i64 d1] 41)).mono b81.out.size))
            clear I81 B81 E81 H81 R81 G81 A81 C81 O81 b81
            go_upto_region 25 with fail
            generalize w81.alloc (.cells #[.int .i64 d0, .int .i64 d1] 41) = w83 at *
            obtain ⟨aD, haD⟩ : ∃ a, w81.heap.size = a := ⟨_, rfl⟩
            rw [haD] at oD D82 ⊢
            clear haD
            have yC : ∀ i, w83.cell? ⟨aC, i, none⟩ = (#[.int .i64 fa, .int .i64 fb] : Array Value)[i]? := fun i => C82.out.cell i
            have yD : ∀ i, w83.cell? ⟨aD, i, none⟩ = (#[.int .i64 d0, .int .i64 d1] : Array Value)[i]? := fun i => D82.out.cell i
            go_wp2_with fail
            (with_reducible refine (KS.out _).mono ?_)
            rintro e w84 ⟨rfl, hb⟩
            have I84 := Lib.hid (I82.out.below hb I82.out.lt)
            have B84 := Lib.hid (B82.out.below hb B82.out.lt)
            have E84 := Lib.hid (E82.out.below hb E82.out.lt)
            have H84 := Lib.hid (H82.out.below hb H82.out.lt)
            have R84 := Lib.hid (R82.out.below hb R82.out.lt)
            have G84 := Lib.hid (G82.out.below hb G82.out.lt)
            have A84 := Lib.hid (A82.out.below hb A82.out.lt)
            have C84 := Lib.hid (C82.out.below hb C82.out.lt)
            have O84 := Lib.hid (O82.out.below hb O82.out.lt)
            have D84 := Lib.hid (D82.out.below hb D82.out.lt)
            have b84 := Lib.hid (b82.out.trans (hb.mono b82.out.size))
            clear hb I82 B82 E82 H82 R82 G82 A82 C82 O82 D82 b82 yC yD
            go_wp2_with fail
            (with_reducible refine (KK.out t0 t1 _ G84.out).mono ?_)
            rintro e w85 ⟨rfl, hb⟩
            have I85 := Lib.hid (I84.out.below hb I84.out.lt)
            have B85 := Lib.hid (B84.out.below hb B84.out.lt)
            have E85 := Lib.hid (E84.out.below hb E84.out.lt)
            have H85 := Lib.hid (H84.out.below hb H84.out.lt)
            have R85 := Lib.hid (R84.out.below hb R84.out.lt)
            have G85 := Lib.hid (G84.out.below hb G84.out.lt)
            have A85 := Lib.hid (A84.out.below hb A84.out.lt)
            have C85 := Lib.hid (C84.out.below hb C84.out.lt)
            have O85 := Lib.hid (O84.out.below hb O84.out.lt)
            have D85 := Lib.hid (D84.out.below hb D84.out.lt)
            have b85 := Lib.hid (b84.out.trans (hb.mono b84.out.size))
            clear hb I84 B84 E84 H84 R84 G84 A84 C84 O84 D84 b84
            have yD : ∀ i, w85.cell? ⟨aD, i, none⟩ = (#[.int .i64 d0, .int .i64 d1] : Array Value)[i]? := fun i => D85.out.cell i
            have zD : ∀ i, w85.frozen? ⟨aD, i, none⟩ = false := fun i => D85.out.frozen i
            have I86 := Lib.hid (((I85.out).far (p := ⟨aD, 0, none⟩) (show aI ≠ aD by omega) (.int .i64 t0)).far (p := ⟨aD, 1, none⟩) (show aI ≠ aD by omega) (.int .i64 t1))
            have B86 := Lib.hid (((B85.out).far (p := ⟨aD, 0, none⟩) (show aB ≠ aD by omega) (.int .i64 t0)).far (p := ⟨aD, 1, none⟩) (show aB ≠ aD by omega) (.int .i64 t1))
            have E86 := Lib.hid (((E85.out).far (p := ⟨aD, 0, none⟩) (show aE ≠ aD by omega) (.int .i64 t0)).far (p := ⟨aD, 1, none⟩) (show aE ≠ aD by omega) (.int .i64 t1))
            have H86 := Lib.hid (((H85.out).far (p := ⟨aD, 0, none⟩) (show aH ≠ aD by omega) (.int .i64 t0)).far (p := ⟨aD, 1, none⟩) (show aH ≠ aD by omega) (.int .i64 t1))
            have R86 := Lib.hid (((R85.out).far (p := ⟨aD, 0, none⟩) (show aR ≠ aD by omega) (.int .i64 t0)).far (p := ⟨aD, 1, none⟩) (show aR ≠ aD by omega) (.int .i64 t1))
            have G86 := Lib.hid (((G85.out).far (p := ⟨aD, 0, none⟩) (show aG ≠ aD by omega) (.int .i64 t0)).far (p := ⟨aD, 1, none⟩) (show aG ≠ aD by omega) (.int .i64 t1))
            have A86 := Lib.hid (((A85.out).far (p := ⟨aD, 0, none⟩) (show aA ≠ aD by omega) (.int .i64 t0)).far (p := ⟨aD, 1, none⟩) (show aA ≠ aD by omega) (.int .i64 t1))
            have C86 := Lib.hid (((C85.out).far (p := ⟨aD, 0, none⟩) (show aC ≠ aD by omega) (.int .i64 t0)).far (p := ⟨aD, 1, none⟩) (show aC ≠ aD by omega) (.int .i64 t1))
            have O86 := Lib.hid (((O85.out).far (p := ⟨aD, 0, none⟩) (show aO ≠ aD by omega) (.int .i64 t0)).far (p := ⟨aD, 1, none⟩) (show aO ≠ aD by omega) (.int .i64 t1))
            have D86 := Lib.hid ((show Blk ((w85.setCell ⟨aD, 0, none⟩ (.int .i64 t0)).setCell ⟨aD, 1, none⟩ (.int .i64 t1)) aD 41 #[.int .i64 t0, .int .i64 t1] from by simpa using ((show Blk (w85.setCell ⟨aD, 0, none⟩ (.int .i64 t0)) aD 41 #[.int .i64 t0, .int .i64 d1] from by simpa using (D85.out).set_ 0 (.int .i64 t0))).set_ 1 (.int .i64 t1)))
            have b86 := Lib.hid (((b85.out).setCell (p := ⟨aD, 0, none⟩) (show w.heap.size ≤ aD by omega) (.int .i64 t0)).setCell (p := ⟨aD, 1, none⟩) (show w.heap.size ≤ aD by omega) (.int .i64 t1))
            clear I85 B85 E85 H85 R85 G85 A85 C85 O85 D85 b85
            go_upto_region 26 with fail
            clear yD zD
            generalize ((w85.setCell ⟨aD, 0, none⟩ (.int .i64 t0)).setCell ⟨aD, 1, none⟩ (.int .i64 t1)) = w87 at *
            have yG : ∀ i, w87.cell? ⟨aG, i, none⟩ = (#[.int .i64 0] : Array Value)[i]? := fun i => G86.out.cell i
            go_upto_region 27 with fail
            clear yG
            have yO : ∀ i, w87.cell? ⟨aO, i, none⟩ = (#[.int .i64 po, .int .i64 qo] : Array Value)[i]? := fun i => O86.out.cell i
            have yD : ∀ i, w87.cell? ⟨aD, i, none⟩ = (#[.int .i64 t0, .int .i64 t1] : Array Value)[i]? := fun i => D86.out.cell i
            go_wp2_with fail
            (with_reducible refine (KM.out _).mono ?_)
            rintro e w88 ⟨rfl, hb⟩
            have I88 := Lib.hid (I86.out.below hb I86.out.lt)
            have B88 := Lib.hid (B86.out.below hb B86.out.lt)
            have E88 := Lib.hid (E86.out.below hb E86.out.lt)
            have H88 := Lib.hid (H86.out.below hb H86.out.lt)
            have R88 := Lib.hid (R86.out.below hb R86.out.lt)
            have G88 := Lib.hid (G86.out.below hb G86.out.lt)
            have A88 := Lib.hid (A86.out.below hb A86.out.lt)
            have C88 := Lib.hid (C86.out.below hb C86.out.lt)
            have O88 := Lib.hid (O86.out.below hb O86.out.lt)
            have D88 := Lib.hid (D86.out.below hb D86.out.lt)
            have b88 := Lib.hid (b86.out.trans (hb.mono b86.out.size))
            clear hb I86 B86 E86 H86 R86 G86 A86 C86 O86 D86 b86 yO yD
            go_wp2_with fail
            (with_reducible refine (KK.out v0 v1 _ G88.out).mono ?_)
            rintro e w89 ⟨rfl, hb⟩
            have I89 := Lib.hid (I88.out.below hb I88.out.lt)
            have B89 := Lib.hid (B88.out.below hb B88.out.lt)
            have E89 := Lib.hid (E88.out.below hb E88.out.lt)
            have H89 := Lib.hid (H88.out.below hb H88.out.lt)
            have R89 := Lib.hid (R88.out.below hb R88.out.lt)
            have G89 := Lib.hid (G88.out.below hb G88.out.lt)
            have A89 := Lib.hid (A88.out.below hb A88.out.lt)
            have C89 := Lib.hid (C88.out.below hb C88.out.lt)
            have O89 := Lib.hid (O88.out.below hb O88.out.lt)
            have D89 := Lib.hid (D88.out.below hb D88.out.lt)
            have b89 := Lib.hid (b88.out.trans (hb.mono b88.out.size))
            clear hb I88 B88 E88 H88 R88 G88 A88 C88 O88 D88 b88
            have yO : ∀ i, w89.cell? ⟨aO, i, none⟩ = (#[.int .i64 po, .int .i64 qo] : Array Value)[i]? := fun i => O89.out.cell i
            have zO : ∀ i, w89.frozen? ⟨aO, i, none⟩ = false := fun i => O89.out.frozen i
            have I90 := Lib.hid (((I89.out).far (p := ⟨aO, 0, none⟩) (show aI ≠ aO by omega) (.int .i64 v0)).far (p := ⟨aO, 1, none⟩) (show aI ≠ aO by omega) (.int .i64 v1))
            have B90 := Lib.hid (((B89.out).far (p := ⟨aO, 0, none⟩) (show aB ≠ aO by omega) (.int .i64 v0)).far (p := ⟨aO, 1, none⟩) (show aB ≠ aO by omega) (.int .i64 v1))
            have E90 := Lib.hid (((E89.out).far (p := ⟨aO, 0, none⟩) (show aE ≠ aO by omega) (.int .i64 v0)).far (p := ⟨aO, 1, none⟩) (show aE ≠ aO by omega) (.int .i64 v1))
            have H90 := Lib.hid (((H89.out).far (p := ⟨aO, 0, none⟩) (show aH ≠ aO by omega) (.int .i64 v0)).far (p := ⟨aO, 1, none⟩) (show aH ≠ aO by omega) (.int .i64 v1))
            have R90 := Lib.hid (((R89.out).far (p := ⟨aO, 0, none⟩) (show aR ≠ aO by omega) (.int .i64 v0)).far (p := ⟨aO, 1, none⟩) (show aR ≠ aO by omega) (.int .i64 v1))
            have G90 := Lib.hid (((G89.out).far (p := ⟨aO, 0, none⟩) (show aG ≠ aO by omega) (.int .i64 v0)).far (p := ⟨aO, 1, none⟩) (show aG ≠ aO by omega) (.int .i64 v1))
            have A90 := Lib.hid (((A89.out).far (p := ⟨aO, 0, none⟩) (show aA ≠ aO by omega) (.int .i64 v0)).far (p := ⟨aO, 1, none⟩) (show aA ≠ aO by omega) (.int .i64 v1))
            have C90 := Lib.hid (((C89.out).far (p := ⟨aO, 0, none⟩) (show aC ≠ aO by omega) (.int .i64 v0)).far (p := ⟨aO, 1, none⟩) (show aC ≠ aO by omega) (.int .i64 v1))
            have D90 := Lib.hid (((D89.out).far (p := ⟨aO, 0, none⟩) (show aD ≠ aO by omega) (.int .i64 v0)).far (p := ⟨aO, 1, none⟩) (show aD ≠ aO by omega) (.int .i64 v1))
            have O90 := Lib.hid ((show Blk ((w89.setCell ⟨aO, 0, none⟩ (.int .i64 v0)).setCell ⟨aO, 1, none⟩ (.int .i64 v1)) aO 41 #[.int .i64 v0, .int .i64 v1] from by simpa using ((show Blk (w89.setCell ⟨aO, 0, none⟩ (.int .i64 v0)) aO 41 #[.int .i64 v0, .int .i64 qo] from by simpa using (O89.out).set_ 0 (.int .i64 v0))).set_ 1 (.int .i64 v1)))
            have b90 := Lib.hid (((b89.out).setCell (p := ⟨aO, 0, none⟩) (show w.heap.size ≤ aO by omega) (.int .i64 v0)).setCell (p := ⟨aO, 1, none⟩) (show w.heap.size ≤ aO by omega) (.int .i64 v1))
            clear I89 B89 E89 H89 R89 G89 A89 C89 D89 O89 b89
            go_upto_region 23 with fail
            clear yO zO
            generalize ((w89.setCell ⟨aO, 0, none⟩ (.int .i64 v0)).setCell ⟨aO, 1, none⟩ (.int .i64 v1)) = w91 at *
            go_wp2
            go_roundg (4 - (k + 1))
            case measure => omega
            case rel => exact ⟨k + 1, v0, v1, by go_num, by omega, Nat.le_refl _, HST.out, vb.1, hne, vb.2, I90.out, B90.out, E90.out, H90.out, R90.out, G90.out, A90.out, C90.out, O90.out, b90.out⟩
      case neg =>
        obtain ⟨hf1, hf2⟩ := HFN.out hh2
        have dh : ((s.hor : Int) != 2) = true := by simpa using hh2
        obtain ⟨u0, u1, u2⟩ := HDB.out
        have KA := Lib.hid (fun W => arAdd_any lo hi da db W (by rw [avB_true]; omega) (by rw [avB_true]; omega) (rch_iff.2 (by omega)) (rch_iff.2 (by omega)))
        rw [← hf1, ← hf2] at KA
        have hfb : -1000000 ≤ fa ∧ fa ≤ fb ∧ fb ≤ 200000000 := by omega
        clear hf1 hf2
        have yB : ∀ i, w42.cell? ⟨aB, i, none⟩ = (#[txb s.body, .int .i64 s.limb, .int .i64 s.lo, .int .i64 s.hi, .int .i64 s.hs, .int .i64 s.by_, .int .i64 s.hor, .int .i64 s.eye, .int .i64 s.shore, .int .i64 s.temp, .int .i64 s.press] : Array Value)[i]? := fun i => B41.out.cell i
        go_upto_region 19 with fail
        clear yB
        have KDq := Lib.hid (fun (s9 : BQ w42) => KD.out aG s9.w (G41.out.below s9.hb G41.out.lt))
        have KKq := Lib.hid (fun (a b : Int) (s9 : BQ w42) => KK.out a b s9.w (G41.out.below s9.hb G41.out.lt))
        have yA : ∀ (sq : BQ w42) i, sq.w.cell? ⟨aA, i, none⟩ = (#[.int .i64 lo, .int .i64 hi] : Array Value)[i]? := fun sq i => (A41.out.below sq.hb A41.out.lt).cell i
        have yB : ∀ (sq : BQ w42) i, sq.w.cell? ⟨aB, i, none⟩ = (#[txb s.body, .int .i64 s.limb, .int .i64 s.lo, .int .i64 s.hi, .int .i64 s.hs, .int .i64 s.by_, .int .i64 s.hor, .int .i64 s.eye, .int .i64 s.shore, .int .i64 s.temp, .int .i64 s.press] : Array Value)[i]? := fun sq i => (B41.out.below sq.hb B41.out.lt).cell i
        refine wp_region_bqt 7 w42 (by kernel_rfl) (by kernel_rfl) (by kernel_rfl) (by kernel_rfl) (Below.refl _ _) ?_
        simp only [List.take_succ_cons, List.take_zero, List.drop_succ_cons, List.drop_zero]
        repeat (go_big_quiet_step (first | (go_at_call 55; exact quiet_bq (KDq.out _)) | (go_at_call 59; exact quiet_bq (KA.out _)) | (go_at_call 51; exact quiet_bq (KKq.out _ _ _)) | fail))
        refine wpQuiet_nil ?_
        intro w43 hb
        have I43 := Lib.hid (I41.out.below hb I41.out.lt)
        have B43 := Lib.hid (B41.out.below hb B41.out.lt)
        have E43 := Lib.hid (E41.out.below hb E41.out.lt)
        have H43 := Lib.hid (H41.out.below hb H41.out.lt)
        have R43 := Lib.hid (R41.out.below hb R41.out.lt)
        have G43 := Lib.hid (G41.out.below hb G41.out.lt)
        have A43 := Lib.hid (A41.out.below hb A41.out.lt)
        have C43 := Lib.hid (C41.out.below hb C41.out.lt)
        have b43 := Lib.hid (b41.out.trans (hb.mono b41.out.size))
        clear hb I41 B41 E41 H41 R41 G41 A41 C41 b41 yA yB
        clear KDq KKq KA
        have yC : ∀ i, w43.cell? ⟨aC, i, none⟩ = (#[.int .i64 (2 * lo), .int .i64 (2 * hi)] : Array Value)[i]? := fun i => C43.out.cell i
        have zC : ∀ i, w43.frozen? ⟨aC, i, none⟩ = false := fun i => C43.out.frozen i
        have I44 := Lib.hid (((I43.out).far (p := ⟨aC, 0, none⟩) (show aI ≠ aC by omega) (.int .i64 fa)).far (p := ⟨aC, 1, none⟩) (show aI ≠ aC by omega) (.int .i64 fb))
        have B44 := Lib.hid (((B43.out).far (p := ⟨aC, 0, none⟩) (show aB ≠ aC by omega) (.int .i64 fa)).far (p := ⟨aC, 1, none⟩) (show aB ≠ aC by omega) (.int .i64 fb))
        have E44 := Lib.hid (((E43.out).far (p := ⟨aC, 0, none⟩) (show aE ≠ aC by omega) (.int .i64 fa)).far (p := ⟨aC, 1, none⟩) (show aE ≠ aC by omega) (.int .i64 fb))
        have H44 := Lib.hid (((H43.out).far (p := ⟨aC, 0, none⟩) (show aH ≠ aC by omega) (.int .i64 fa)).far (p := ⟨aC, 1, none⟩) (show aH ≠ aC by omega) (.int .i64 fb))
        have R44 := Lib.hid (((R43.out).far (p := ⟨aC, 0, none⟩) (show aR ≠ aC by omega) (.int .i64 fa)).far (p := ⟨aC, 1, none⟩) (show aR ≠ aC by omega) (.int .i64 fb))
        have G44 := Lib.hid (((G43.out).far (p := ⟨aC, 0, none⟩) (show aG ≠ aC by omega) (.int .i64 fa)).far (p := ⟨aC, 1, none⟩) (show aG ≠ aC by omega) (.int .i64 fb))
        have A44 := Lib.hid (((A43.out).far (p := ⟨aC, 0, none⟩) (show aA ≠ aC by omega) (.int .i64 fa)).far (p := ⟨aC, 1, none⟩) (show aA ≠ aC by omega) (.int .i64 fb))
        have C44 := Lib.hid ((show Blk ((w43.setCell ⟨aC, 0, none⟩ (.int .i64 fa)).setCell ⟨aC, 1, none⟩ (.int .i64 fb)) aC 41 #[.int .i64 fa, .int .i64 fb] from by simpa using ((show Blk (w43.setCell ⟨aC, 0, none⟩ (.int .i64 fa)) aC 41 #[.int .i64 fa, .int .i64 (2 * hi)] from by simpa using (C43.out).set_ 0 (.int .i64 fa))).set_ 1 (.int .i64 fb)))
        have b44 := Lib.hid (((b43.out).setCell (p := ⟨aC, 0, none⟩) (show w.heap.size ≤ aC by omega) (.int .i64 fa)).setCell (p := ⟨aC, 1, none⟩) (show w.heap.size ≤ aC by omega) (.int .i64 fb))
        clear I43 B43 E43 H43 R43 G43 A43 C43 b43
        go_upto_region 20 with fail
        clear yC zC
        generalize ((w43.setCell ⟨aC, 0, none⟩ (.int .i64 fa)).setCell ⟨aC, 1, none⟩ (.int .i64 fb)) = w45 at *
        have KW := Lib.hid (fun W => widerC_any fa fb 120000 W (by omega) (by omega) (by omega) (by omega) (by omega) (by omega))
        have hn2 := HN2.out
        have KM := Lib.hid (fun W => Meet_yes (fa - 120000) (fb + 120000) (-60000) 7800000 W (by rw [avB_true]; omega) (by rw [avB_true]; omega) hn2)
        have hD := hDD.out
        obtain ⟨m0, hm0⟩ : ∃ z, max (fa - 120000) (-60000) = z := ⟨_, rfl⟩
        obtain ⟨m1', hm1⟩ : ∃ z, min (fb + 120000) 7800000 = z := ⟨_, rfl⟩
        rw [hm0, hm1] at KM hD hn2
        have mb : -60000 ≤ m0 ∧ m1' ≤ 7800000 := by omega
        have HDq := Lib.hid hD
        clear hD hDD hm0 hm1 HN2
        have yC : ∀ i, w45.cell? ⟨aC, i, none⟩ = (#[.int .i64 fa, .int .i64 fb] : Array Value)[i]? := fun i => C44.out.cell i
        go_wp2_with fail
        (with_reducible refine (KW.out _).mono ?_)
        rintro e w46 ⟨rfl, hb⟩
        have I46 := Lib.hid (I44.out.below hb I44.out.lt)
        have B46 := Lib.hid (B44.out.below hb B44.out.lt)
        have E46 := Lib.hid (E44.out.below hb E44.out.lt)
        have H46 := Lib.hid (H44.out.below hb H44.out.lt)
        have R46 := Lib.hid (R44.out.below hb R44.out.lt)
        have G46 := Lib.hid (G44.out.below hb G44.out.lt)
        have A46 := Lib.hid (A44.out.below hb A44.out.lt)
        have C46 := Lib.hid (C44.out.below hb C44.out.lt)
        have b46 := Lib.hid (b44.out.trans (hb.mono b44.out.size))
        clear hb I44 B44 E44 H44 R44 G44 A44 C44 b44 yC
        go_wp2_with fail
        (with_reducible refine (KM.out _).mono ?_)
        rintro e w47 ⟨rfl, hb⟩
        have I47 := Lib.hid (I46.out.below hb I46.out.lt)
        have B47 := Lib.hid (B46.out.below hb B46.out.lt)
        have E47 := Lib.hid (E46.out.below hb E46.out.lt)
        have H47 := Lib.hid (H46.out.below hb H46.out.lt)
        have R47 := Lib.hid (R46.out.below hb R46.out.lt)
        have G47 := Lib.hid (G46.out.below hb G46.out.lt)
        have A47 := Lib.hid (A46.out.below hb A46.out.lt)
        have C47 := Lib.hid (C46.out.below hb C46.out.lt)
        have b47 := Lib.hid (b46.out.trans (hb.mono b46.out.size))
        clear hb I46 B46 E46 H46 R46 G46 A46 C46 b46
        go_wp2_with fail
        (with_reducible refine (KK.out m0 m1' _ G47.out).mono ?_)
        rintro e w48 ⟨rfl, hb⟩
        have I48 := Lib.hid (I47.out.below hb I47.out.lt)
        have B48 := Lib.hid (B47.out.below hb B47.out.lt)
        have E48 := Lib.hid (E47.out.below hb E47.out.lt)
        have H48 := Lib.hid (H47.out.below hb H47.out.lt)
        have R48 := Lib.hid (R47.out.below hb R47.out.lt)
        have G48 := Lib.hid (G47.out.below hb G47.out.lt)
        have A48 := Lib.hid (A47.out.below hb A47.out.lt)
        have C48 := Lib.hid (C47.out.below hb C47.out.lt)
        have b48 := Lib.hid (b47.out.trans (hb.mono b47.out.size))
        clear hb I47 B47 E47 H47 R47 G47 A47 C47 b47
        have oO : aC < w48.heap.size := C48.out.lt
        have I49 := Lib.hid (I48.out.alloc (.cells #[.int .i64 m0, .int .i64 (m1')] 41))
        have B49 := Lib.hid (B48.out.alloc (.cells #[.int .i64 m0, .int .i64 (m1')] 41))
        have E49 := Lib.hid (E48.out.alloc (.cells #[.int .i64 m0, .int .i64 (m1')] 41))
        have H49 := Lib.hid (H48.out.alloc (.cells #[.int .i64 m0, .int .i64 (m1')] 41))
        have R49 := Lib.hid (R48.out.alloc (.cells #[.int .i64 m0, .int .i64 (m1')] 41))
        have G49 := Lib.hid (G48.out.alloc (.cells #[.int .i64 m0, .int .i64 (m1')] 41))
        have A49 := Lib.hid (A48.out.alloc (.cells #[.int .i64 m0, .int .i64 (m1')] 41))
        have C49 := Lib.hid (C48.out.alloc (.cells #[.int .i64 m0, .int .i64 (m1')] 41))
        have O49 := Lib.hid (Blk.new w48 41 #[.int .i64 m0, .int .i64 (m1')])
        have b49 := Lib.hid (b48.out.trans ((bl_alloc w48 (.cells #[.int .i64 m0, .int .i64 (m1')] 41)).mono b48.out.size))
        clear I48 B48 E48 H48 R48 G48 A48 C48 b48
        go_upto_region 21 with fail
        generalize w48.alloc (.cells #[.int .i64 m0, .int .i64 (m1')] 41) = w50 at *
        obtain ⟨aO, haO⟩ : ∃ a, w48.heap.size = a := ⟨_, rfl⟩
        rw [haO] at oO O49 ⊢
        clear haO
        clear KW KM
        go_wp2
        go_loopg [17] 4 (fun gz s17 wr => ∃ (k : Nat) (po qo : Int), s17 = .int .i64 (k : Int) ∧ k ≤ 4 ∧ 4 - k ≤ gz ∧ DD fa fb (4 - k) po qo = some (a, b) ∧ -60000 ≤ po ∧ po ≤ qo ∧ qo ≤ 7800000 ∧ Blk wr aI 40 #[.int .i64 ix, .slice A n c] ∧ Blk wr aB 25 #[txb s.body, .int .i64 s.limb, .int .i64 s.lo, .int .i64 s.hi, .int .i64 s.hs, .int .i64 s.by_, .int .i64 s.hor, .int .i64 s.eye, .int .i64 s.shore, .int .i64 s.temp, .int .i64 s.press] ∧ Blk wr aE 43 #[.int .i64 g0, .int .i64 g1, .int .i64 g2, .int .i64 g3, .int .i64 e0, .int .i64 e1, .int .i64 p0, .int .i64 p1] ∧ Blk wr aH 41 #[.int .i64 h0, .int .i64 h1] ∧ Blk wr aR 41 #[.int .i64 0, .int .i64 0] ∧ Blk wr aG 86 #[.int .i64 0] ∧ Blk wr aA 41 #[.int .i64 lo, .int .i64 hi] ∧ Blk wr aC 41 #[.int .i64 fa, .int .i64 fb] ∧ Blk wr aO 41 #[.int .i64 po, .int .i64 qo] ∧ Below w.heap.size w wr)
        case atStart => exact ⟨0, m0, m1', rfl, by omega, by omega, HDq.out, mb.1, hn2, mb.2, I49.out, B49.out, E49.out, H49.out, R49.out, G49.out, A49.out, C49.out, O49.out, b49.out⟩
        case round =>
          obtain ⟨k, po, qo, rfl, hk, hgz, hU, q0, q1, q2, gI, gB, gE, gH, gR, gG, gA, gC, gO, gb⟩ := hrel
          have I80 := Lib.hid gI
          have B80 := Lib.hid gB
          have E80 := Lib.hid gE
          have H80 := Lib.hid gH
          have R80 := Lib.hid gR
          have G80 := Lib.hid gG
          have A80 := Lib.hid gA
          have C80 := Lib.hid gC
          have O80 := Lib.hid gO
          have b80 := Lib.hid gb
          have HUk := Lib.hid hU
          clear hU gb HDq gI gB gE gH gR gG gA gC gO I49 B49 E49 H49 R49 G49 A49 C49 O49 b49
          by_cases hlt : k < 4
          case neg =>
            obtain rfl : k = 4 := by omega
            have hx9 : (po, qo) = (a, b) := by
              have h := HUk.out
              rw [show 4 - 4 = 0 from rfl, HD0.out] at h
              exact Option.some.inj h
            simp only [Prod.mk.injEq] at hx9
            obtain ⟨rfl, rfl⟩ := hx9
            clear HUk HD0 HD1 hlt hgz hk
            have yG : ∀ i, wr.cell? ⟨aG, i, none⟩ = (#[.int .i64 0] : Array Value)[i]? := fun i => G80.out.cell i
            have yO : ∀ i, wr.cell? ⟨aO, i, none⟩ = (#[.int .i64 po, .int .i64 qo] : Array Value)[i]? := fun i => O80.out.cell i
            have yR : ∀ i, wr.cell? ⟨aR, i, none⟩ = (#[.int .i64 0, .int .i64 0] : Array Value)[i]? := fun i => R80.out.cell i
            have zR : ∀ i, wr.frozen? ⟨aR, i, none⟩ = false := fun i => R80.out.frozen i
            go_wp2
            refine bodyPost_ret (v := .tuple #[.agg #[.int .i64 po, .int .i64 qo], .int .i64 0]) (by simp [results, Tryz.results17, go_sem, *]; done) rfl ⟨rfl, ?_⟩
            exact (b80.out.setCell (p := ⟨aR, 0, none⟩) (show w.heap.size ≤ aR by omega) _).setCell (p := ⟨aR, 1, none⟩) (show w.heap.size ≤ aR by omega) _
          case pos =>
            have dl : decide (k < 4) = true := decide_eq_true hlt
            obtain ⟨j, hj⟩ : ∃ j, 4 - k = j + 1 := ⟨3 - k, by omega⟩
            have hst := HUk.out
            rw [hj] at hst
            obtain ⟨hne, hst⟩ := HD1.out _ _ _ _ _ _ hst
            have hb := HHU.out po qo
            have KCr := Lib.hid (fun W hG hW => KC.out aG po qo W hG hW q0 q1 q2)
            obtain ⟨d0, hd0⟩ : ∃ z, (HU po qo).1 = z := ⟨_, rfl⟩
            obtain ⟨d1, hd1⟩ : ∃ z, (HU po qo).2 = z := ⟨_, rfl⟩
            rw [hd0, hd1] at KCr hst hne hb
            clear hd0 hd1
            have KS := Lib.hid (fun W => arSub_any fa fb d0 d1 W (by rw [avB_true]; omega) (by rw [avB_true]; omega) (rch_iff.2 (by omega)) (rch_iff.2 (by omega)))
            obtain ⟨t0, ht0⟩ : ∃ t, fa - d1 = t := ⟨_, rfl⟩
            obtain ⟨t1, ht1⟩ : ∃ t, fb - d0 = t := ⟨_, rfl⟩
            rw [ht0, ht1] at KS hst hne
            have KM := Lib.hid (fun W => Meet_yes po qo t0 t1 W (by rw [avB_true]; omega) (by rw [avB_true]; omega) hne)
            obtain ⟨v0, hv0⟩ : ∃ t, max po t0 = t := ⟨_, rfl⟩
            obtain ⟨v1, hv1⟩ : ∃ t, min qo t1 = t := ⟨_, rfl⟩
            rw [hv0, hv1] at KM hst hne
            have vb : -60000 ≤ v0 ∧ v1 ≤ 7800000 := by omega
            have HST := Lib.hid hst
            have hj2 : j = 4 - (k + 1) := by omega
            rw [hj2] at HST
            clear hst hv0 hv1 ht0 ht1 hj2 hj HUk
            have yG : ∀ i, wr.cell? ⟨aG, i, none⟩ = (#[.int .i64 0] : Array Value)[i]? := fun i => G80.out.cell i
            have yI : ∀ i, wr.cell? ⟨aI, i, none⟩ = (#[.int .i64 ix, .slice A n c] : Array Value)[i]? := fun i => I80.out.cell i
            have yO : ∀ i, wr.cell? ⟨aO, i, none⟩ = (#[.int .i64 po, .int .i64 qo] : Array Value)[i]? := fun i => O80.out.cell i
            go_wp2_with fail
            (with_reducible refine (KCr.out _ G80.out b80.out).mono ?_)
            rintro e w81 ⟨rfl, hb⟩
            have I81 := Lib.hid (I80.out.below hb I80.out.lt)
            have B81 := Lib.hid (B80.out.below hb B80.out.lt)
            have E81 := Lib.hid (E80.out.below hb E80.out.lt)
            have H81 := Lib.hid (H80.out.below hb H80.out.lt)
            have R81 := Lib.hid (R80.out.below hb R80.out.lt)
            have G81 := Lib.hid (G80.out.below hb G80.out.lt)
            have A81 := Lib.hid (A80.out.below hb A80.out.lt)
            have C81 := Lib.hid (C80.out.below hb C80.out.lt)
            have O81 := Lib.hid (O80.out.below hb O80.out.lt)
            have b81 := Lib.hid (b80.out.trans (hb.mono b80.out.size))
            clear hb I80 B80 E80 H80 R80 G80 A80 C80 O80 b80 yG yI yO
            have oD : aO < w81.heap.size := O81.out.lt
            have I82 := Lib.hid (I81.out.alloc (.cells #[.int .i64 d0, .int .i64 d1] 41))
            have B82 := Lib.hid (B81.out.alloc (.cells #[.int .i64 d0, .int .i64 d1] 41))
            have E82 := Lib.hid (E81.out.alloc (.cells #[.int .i64 d0, .int .i64 d1] 41))
            have H82 := Lib.hid (H81.out.alloc (.cells #[.int .i64 d0, .int .i64 d1] 41))
            have R82 := Lib.hid (R81.out.alloc (.cells #[.int .i64 d0, .int .i64 d1] 41))
            have G82 := Lib.hid (G81.out.alloc (.cells #[.int .i64 d0, .int .i64 d1] 41))
            have A82 := Lib.hid (A81.out.alloc (.cells #[.int .i64 d0, .int .i64 d1] 41))
            have C82 := Lib.hid (C81.out.alloc (.cells #[.int .i64 d0, .int .i64 d1] 41))
            have O82 := Lib.hid (O81.out.alloc (.cells #[.int .i64 d0, .int .i64 d1] 41))
            have D82 := Lib.hid (Blk.new w81 41 #[.int .i64 d0, .int .i64 d1])
            have b82 := Lib.hid (b81.out.trans ((bl_alloc w81 (.cells #[.int .i64 d0, .int .i64 d1] 41)).mono b81.out.size))
            clear I81 B81 E81 H81 R81 G81 A81 C81 O81 b81
            go_upto_region 25 with fail
            generalize w81.alloc (.cells #[.int .i64 d0, .int .i64 d1] 41) = w83 at *
            obtain ⟨aD, haD⟩ : ∃ a, w81.heap.size = a := ⟨_, rfl⟩
            rw [haD] at oD D82 ⊢
            clear haD
            have yC : ∀ i, w83.cell? ⟨aC, i, none⟩ = (#[.int .i64 fa, .int .i64 fb] : Array Value)[i]? := fun i => C82.out.cell i
            have yD : ∀ i, w83.cell? ⟨aD, i, none⟩ = (#[.int .i64 d0, .int .i64 d1] : Array Value)[i]? := fun i => D82.out.cell i
            go_wp2_with fail
            (with_reducible refine (KS.out _).mono ?_)
            rintro e w84 ⟨rfl, hb⟩
            have I84 := Lib.hid (I82.out.below hb I82.out.lt)
            have B84 := Lib.hid (B82.out.below hb B82.out.lt)
            have E84 := Lib.hid (E82.out.below hb E82.out.lt)
            have H84 := Lib.hid (H82.out.below hb H82.out.lt)
            have R84 := Lib.hid (R82.out.below hb R82.out.lt)
            have G84 := Lib.hid (G82.out.below hb G82.out.lt)
            have A84 := Lib.hid (A82.out.below hb A82.out.lt)
            have C84 := Lib.hid (C82.out.below hb C82.out.lt)
            have O84 := Lib.hid (O82.out.below hb O82.out.lt)
            have D84 := Lib.hid (D82.out.below hb D82.out.lt)
            have b84 := Lib.hid (b82.out.trans (hb.mono b82.out.size))
            clear hb I82 B82 E82 H82 R82 G82 A82 C82 O82 D82 b82 yC yD
            go_wp2_with fail
            (with_reducible refine (KK.out t0 t1 _ G84.out).mono ?_)
            rintro e w85 ⟨rfl, hb⟩
            have I85 := Lib.hid (I84.out.below hb I84.out.lt)
            have B85 := Lib.hid (B84.out.below hb B84.out.lt)
            have E85 := Lib.hid (E84.out.below hb E84.out.lt)
            have H85 := Lib.hid (H84.out.below hb H84.out.lt)
            have R85 := Lib.hid (R84.out.below hb R84.out.lt)
            have G85 := Lib.hid (G84.out.below hb G84.out.lt)
            have A85 := Lib.hid (A84.out.below hb A84.out.lt)
            have C85 := Lib.hid (C84.out.below hb C84.out.lt)
            have O85 := Lib.hid (O84.out.below hb O84.out.lt)
            have D85 := Lib.hid (D84.out.below hb D84.out.lt)
            have b85 := Lib.hid (b84.out.trans (hb.mono b84.out.size))
            clear hb I84 B84 E84 H84 R84 G84 A84 C84 O84 D84 b84
            have yD : ∀ i, w85.cell? ⟨aD, i, none⟩ = (#[.int .i64 d0, .int .i64 d1] : Array Value)[i]? := fun i => D85.out.cell i
            have zD : ∀ i, w85.frozen? ⟨aD, i, none⟩ = false := fun i => D85.out.frozen i
            have I86 := Lib.hid (((I85.out).far (p := ⟨aD, 0, none⟩) (show aI ≠ aD by omega) (.int .i64 t0)).far (p := ⟨aD, 1, none⟩) (show aI ≠ aD by omega) (.int .i64 t1))
            have B86 := Lib.hid (((B85.out).far (p := ⟨aD, 0, none⟩) (show aB ≠ aD by omega) (.int .i64 t0)).far (p := ⟨aD, 1, none⟩) (show aB ≠ aD by omega) (.int .i64 t1))
            have E86 := Lib.hid (((E85.out).far (p := ⟨aD, 0, none⟩) (show aE ≠ aD by omega) (.int .i64 t0)).far (p := ⟨aD, 1, none⟩) (show aE ≠ aD by omega) (.int .i64 t1))
            have H86 := Lib.hid (((H85.out).far (p := ⟨aD, 0, none⟩) (show aH ≠ aD by omega) (.int .i64 t0)).far (p := ⟨aD, 1, none⟩) (show aH ≠ aD by omega) (.int .i64 t1))
            have R86 := Lib.hid (((R85.out).far (p := ⟨aD, 0, none⟩) (show aR ≠ aD by omega) (.int .i64 t0)).far (p := ⟨aD, 1, none⟩) (show aR ≠ aD by omega) (.int .i64 t1))
            have G86 := Lib.hid (((G85.out).far (p := ⟨aD, 0, none⟩) (show aG ≠ aD by omega) (.int .i64 t0)).far (p := ⟨aD, 1, none⟩) (show aG ≠ aD by omega) (.int .i64 t1))
            have A86 := Lib.hid (((A85.out).far (p := ⟨aD, 0, none⟩) (show aA ≠ aD by omega) (.int .i64 t0)).far (p := ⟨aD, 1, none⟩) (show aA ≠ aD by omega) (.int .i64 t1))
            have C86 := Lib.hid (((C85.out).far (p := ⟨aD, 0, none⟩) (show aC ≠ aD by omega) (.int .i64 t0)).far (p := ⟨aD, 1, none⟩) (show aC ≠ aD by omega) (.int .i64 t1))
            have O86 := Lib.hid (((O85.out).far (p := ⟨aD, 0, none⟩) (show aO ≠ aD by omega) (.int .i64 t0)).far (p := ⟨aD, 1, none⟩) (show aO ≠ aD by omega) (.int .i64 t1))
            have D86 := Lib.hid ((show Blk ((w85.setCell ⟨aD, 0, none⟩ (.int .i64 t0)).setCell ⟨aD, 1, none⟩ (.int .i64 t1)) aD 41 #[.int .i64 t0, .int .i64 t1] from by simpa using ((show Blk (w85.setCell ⟨aD, 0, none⟩ (.int .i64 t0)) aD 41 #[.int .i64 t0, .int .i64 d1] from by simpa using (D85.out).set_ 0 (.int .i64 t0))).set_ 1 (.int .i64 t1)))
            have b86 := Lib.hid (((b85.out).setCell (p := ⟨aD, 0, none⟩) (show w.heap.size ≤ aD by omega) (.int .i64 t0)).setCell (p := ⟨aD, 1, none⟩) (show w.heap.size ≤ aD by omega) (.int .i64 t1))
            clear I85 B85 E85 H85 R85 G85 A85 C85 O85 D85 b85
            go_upto_region 26 with fail
            clear yD zD
            generalize ((w85.setCell ⟨aD, 0, none⟩ (.int .i64 t0)).setCell ⟨aD, 1, none⟩ (.int .i64 t1)) = w87 at *
            have yG : ∀ i, w87.cell? ⟨aG, i, none⟩ = (#[.int .i64 0] : Array Value)[i]? := fun i => G86.out.cell i
            go_upto_region 27 with fail
            clear yG
            have yO : ∀ i, w87.cell? ⟨aO, i, none⟩ = (#[.int .i64 po, .int .i64 qo] : Array Value)[i]? := fun i => O86.out.cell i
            have yD : ∀ i, w87.cell? ⟨aD, i, none⟩ = (#[.int .i64 t0, .int .i64 t1] : Array Value)[i]? := fun i => D86.out.cell i
            go_wp2_with fail
            (with_reducible refine (KM.out _).mono ?_)
            rintro e w88 ⟨rfl, hb⟩
            have I88 := Lib.hid (I86.out.below hb I86.out.lt)
            have B88 := Lib.hid (B86.out.below hb B86.out.lt)
            have E88 := Lib.hid (E86.out.below hb E86.out.lt)
            have H88 := Lib.hid (H86.out.below hb H86.out.lt)
            have R88 := Lib.hid (R86.out.below hb R86.out.lt)
            have G88 := Lib.hid (G86.out.below hb G86.out.lt)
            have A88 := Lib.hid (A86.out.below hb A86.out.lt)
            have C88 := Lib.hid (C86.out.below hb C86.out.lt)
            have O88 := Lib.hid (O86.out.below hb O86.out.lt)
            have D88 := Lib.hid (D86.out.below hb D86.out.lt)
            have b88 := Lib.hid (b86.out.trans (hb.mono b86.out.size))
            clear hb I86 B86 E86 H86 R86 G86 A86 C86 O86 D86 b86 yO yD
            go_wp2_with fail
            (with_reducible refine (KK.out v0 v1 _ G88.out).mono ?_)
            rintro e w89 ⟨rfl, hb⟩
            have I89 := Lib.hid (I88.out.below hb I88.out.lt)
            have B89 := Lib.hid (B88.out.below hb B88.out.lt)
            have E89 := Lib.hid (E88.out.below hb E88.out.lt)
            have H89 := Lib.hid (H88.out.below hb H88.out.lt)
            have R89 := Lib.hid (R88.out.below hb R88.out.lt)
            have G89 := Lib.hid (G88.out.below hb G88.out.lt)
            have A89 := Lib.hid (A88.out.below hb A88.out.lt)
            have C89 := Lib.hid (C88.out.below hb C88.out.lt)
            have O89 := Lib.hid (O88.out.below hb O88.out.lt)
            have D89 := Lib.hid (D88.out.below hb D88.out.lt)
            have b89 := Lib.hid (b88.out.trans (hb.mono b88.out.size))
            clear hb I88 B88 E88 H88 R88 G88 A88 C88 O88 D88 b88
            have yO : ∀ i, w89.cell? ⟨aO, i, none⟩ = (#[.int .i64 po, .int .i64 qo] : Array Value)[i]? := fun i => O89.out.cell i
            have zO : ∀ i, w89.frozen? ⟨aO, i, none⟩ = false := fun i => O89.out.frozen i
            have I90 := Lib.hid (((I89.out).far (p := ⟨aO, 0, none⟩) (show aI ≠ aO by omega) (.int .i64 v0)).far (p := ⟨aO, 1, none⟩) (show aI ≠ aO by omega) (.int .i64 v1))
            have B90 := Lib.hid (((B89.out).far (p := ⟨aO, 0, none⟩) (show aB ≠ aO by omega) (.int .i64 v0)).far (p := ⟨aO, 1, none⟩) (show aB ≠ aO by omega) (.int .i64 v1))
            have E90 := Lib.hid (((E89.out).far (p := ⟨aO, 0, none⟩) (show aE ≠ aO by omega) (.int .i64 v0)).far (p := ⟨aO, 1, none⟩) (show aE ≠ aO by omega) (.int .i64 v1))
            have H90 := Lib.hid (((H89.out).far (p := ⟨aO, 0, none⟩) (show aH ≠ aO by omega) (.int .i64 v0)).far (p := ⟨aO, 1, none⟩) (show aH ≠ aO by omega) (.int .i64 v1))
            have R90 := Lib.hid (((R89.out).far (p := ⟨aO, 0, none⟩) (show aR ≠ aO by omega) (.int .i64 v0)).far (p := ⟨aO, 1, none⟩) (show aR ≠ aO by omega) (.int .i64 v1))
            have G90 := Lib.hid (((G89.out).far (p := ⟨aO, 0, none⟩) (show aG ≠ aO by omega) (.int .i64 v0)).far (p := ⟨aO, 1, none⟩) (show aG ≠ aO by omega) (.int .i64 v1))
            have A90 := Lib.hid (((A89.out).far (p := ⟨aO, 0, none⟩) (show aA ≠ aO by omega) (.int .i64 v0)).far (p := ⟨aO, 1, none⟩) (show aA ≠ aO by omega) (.int .i64 v1))
            have C90 := Lib.hid (((C89.out).far (p := ⟨aO, 0, none⟩) (show aC ≠ aO by omega) (.int .i64 v0)).far (p := ⟨aO, 1, none⟩) (show aC ≠ aO by omega) (.int .i64 v1))
            have D90 := Lib.hid (((D89.out).far (p := ⟨aO, 0, none⟩) (show aD ≠ aO by omega) (.int .i64 v0)).far (p := ⟨aO, 1, none⟩) (show aD ≠ aO by omega) (.int .i64 v1))
            have O90 := Lib.hid ((show Blk ((w89.setCell ⟨aO, 0, none⟩ (.int .i64 v0)).setCell ⟨aO, 1, none⟩ (.int .i64 v1)) aO 41 #[.int .i64 v0, .int .i64 v1] from by simpa using ((show Blk (w89.setCell ⟨aO, 0, none⟩ (.int .i64 v0)) aO 41 #[.int .i64 v0, .int .i64 qo] from by simpa using (O89.out).set_ 0 (.int .i64 v0))).set_ 1 (.int .i64 v1)))
            have b90 := Lib.hid (((b89.out).setCell (p := ⟨aO, 0, none⟩) (show w.heap.size ≤ aO by omega) (.int .i64 v0)).setCell (p := ⟨aO, 1, none⟩) (show w.heap.size ≤ aO by omega) (.int .i64 v1))
            clear I89 B89 E89 H89 R89 G89 A89 C89 D89 O89 b89
            go_upto_region 23 with fail
            clear yO zO
            generalize ((w89.setCell ⟨aO, 0, none⟩ (.int .i64 v0)).setCell ⟨aO, 1, none⟩ (.int .i64 v1)) = w91 at *
            go_wp2
            go_roundg (4 - (k + 1))
            case measure => omega
            case rel => exact ⟨k + 1, v0, v1, by go_num, by omega, Nat.le_refl _, HST.out, vb.1, hne, vb.2, I90.out, B90.out, E90.out, H90.out, R90.out, G90.out, A90.out, C90.out, O90.out, b90.out⟩
    case pos =>
      have dl : decide (k < 8) = true := decide_eq_true hlt
      obtain ⟨j, hj⟩ : ∃ j, 8 - k = j + 1 := ⟨7 - k, by omega⟩
      have hst := HUk.out
      rw [hj] at hst
      obtain ⟨hne, hst⟩ := HU1.out _ _ _ _ hst
      obtain ⟨c1, c2, c3⟩ := HBD.out lo hi q0 q1 q2
      have KUr := Lib.hid (fun (G Q : Nat) W hG hQ hne => KU.out G Q lo hi W hG hQ hne q0 q1 q2)
      unfold rdA rdB at hst hne
      obtain ⟨r0, hr0⟩ : ∃ z, rfL hi s.temp s.press = z := ⟨_, rfl⟩
      obtain ⟨r1, hr1⟩ : ∃ z, rfH lo s.temp s.press = z := ⟨_, rfl⟩
      obtain ⟨x0, hx0⟩ : ∃ z, pxA p0 p1 lo hi = z := ⟨_, rfl⟩
      obtain ⟨x1, hx1⟩ : ∃ z, pxB p0 p1 lo hi = z := ⟨_, rfl⟩
      obtain ⟨s0, hs0⟩ : ∃ z, seA s.limb e0 e1 p0 p1 lo hi = z := ⟨_, rfl⟩
      obtain ⟨s1, hs1⟩ : ∃ z, seB s.limb e0 e1 p0 p1 lo hi = z := ⟨_, rfl⟩
      rw [hr0, hr1, hx0, hx1, hs0, hs1] at KUr
      rw [hr0, hr1] at c1 hst hne
      rw [hx0, hx1] at c2 hst hne
      rw [hs0, hs1] at c3 hst hne
      clear hr0 hr1 hx0 hx1 hs0 hs1
      have K1 := Lib.hid (fun W => arAdd_any h0 h1 r0 r1 W (by rw [avB_true]; omega) (by rw [avB_true]; omega) (rch_iff.2 (by omega)) (rch_iff.2 (by omega)))
      obtain ⟨t0, ht0⟩ : ∃ t, h0 + r0 = t := ⟨_, rfl⟩
      obtain ⟨t1, ht1⟩ : ∃ t, h1 + r1 = t := ⟨_, rfl⟩
      rw [ht0, ht1] at K1 hst hne
      have K2 := Lib.hid (fun W => arSub_any t0 t1 x0 x1 W (by rw [avB_true]; omega) (by rw [avB_true]; omega) (rch_iff.2 (by omega)) (rch_iff.2 (by omega)))
      obtain ⟨u0, hu0⟩ : ∃ t, t0 - x1 = t := ⟨_, rfl⟩
      obtain ⟨u1, hu1⟩ : ∃ t, t1 - x0 = t := ⟨_, rfl⟩
      rw [hu0, hu1] at K2 hst hne
      have K3 := Lib.hid (fun W => arSub_any u0 u1 s0 s1 W (by rw [avB_true]; omega) (by rw [avB_true]; omega) (rch_iff.2 (by omega)) (rch_iff.2 (by omega)))
      obtain ⟨v0, hv0⟩ : ∃ t, u0 - s1 = t := ⟨_, rfl⟩
      obtain ⟨v1, hv1⟩ : ∃ t, u1 - s0 = t := ⟨_, rfl⟩
      rw [hv0, hv1] at K3 hst hne
      have KM := Lib.hid (fun W => Meet_yes lo hi v0 v1 W (by rw [avB_true]; omega) (by rw [avB_true]; omega) hne)
      obtain ⟨y0, hy0⟩ : ∃ t, max lo v0 = t := ⟨_, rfl⟩
      obtain ⟨y1, hy1⟩ : ∃ t, min hi v1 = t := ⟨_, rfl⟩
      rw [hy0, hy1] at KM hst hne
      have yb : -60000 ≤ y0 ∧ y1 ≤ 5400000 := by omega
      have HST := Lib.hid hst
      have hj2 : j = 8 - (k + 1) := by omega
      rw [hj2] at HST
      clear hst ht0 ht1 hu0 hu1 hv0 hv1 hy0 hy1 hj2 hj HUk c1 c2 c3 HBD HFT HFN HDB hDD HN2 HD0 HD1 HHU KC KD HU0 HU1 KU
      have oQ : aA < wr.heap.size := A40.out.lt
      have yG : ∀ i, wr.cell? ⟨aG, i, none⟩ = (#[.int .i64 0] : Array Value)[i]? := fun i => G40.out.cell i
      have I41 := Lib.hid (I40.out.alloc (.cells #[.int .i64 0, .int .i64 0, .int .i64 0, .int .i64 0, .int .i64 0, .int .i64 0, .int .i64 0, .int .i64 0, .int .i64 0, .int .i64 0, .int .i64 0, .int .i64 0, .int .i64 0, .int .i64 0] 46))
      have B41 := Lib.hid (B40.out.alloc (.cells #[.int .i64 0, .int .i64 0, .int .i64 0, .int .i64 0, .int .i64 0, .int .i64 0, .int .i64 0, .int .i64 0, .int .i64 0, .int .i64 0, .int .i64 0, .int .i64 0, .int .i64 0, .int .i64 0] 46))
      have E41 := Lib.hid (E40.out.alloc (.cells #[.int .i64 0, .int .i64 0, .int .i64 0, .int .i64 0, .int .i64 0, .int .i64 0, .int .i64 0, .int .i64 0, .int .i64 0, .int .i64 0, .int .i64 0, .int .i64 0, .int .i64 0, .int .i64 0] 46))
      have H41 := Lib.hid (H40.out.alloc (.cells #[.int .i64 0, .int .i64 0, .int .i64 0, .int .i64 0, .int .i64 0, .int .i64 0, .int .i64 0, .int .i64 0, .int .i64 0, .int .i64 0, .int .i64 0, .int .i64 0, .int .i64 0, .int .i64 0] 46))
      have R41 := Lib.hid (R40.out.alloc (.cells #[.int .i64 0, .int .i64 0, .int .i64 0, .int .i64 0, .int .i64 0, .int .i64 0, .int .i64 0, .int .i64 0, .int .i64 0, .int .i64 0, .int .i64 0, .int .i64 0, .int .i64 0, .int .i64 0] 46))
      have G41 := Lib.hid (G40.out.alloc (.cells #[.int .i64 0, .int .i64 0, .int .i64 0, .int .i64 0, .int .i64 0, .int .i64 0, .int .i64 0, .int .i64 0, .int .i64 0, .int .i64 0, .int .i64 0, .int .i64 0, .int .i64 0, .int .i64 0] 46))
      have A41 := Lib.hid (A40.out.alloc (.cells #[.int .i64 0, .int .i64 0, .int .i64 0, .int .i64 0, .int .i64 0, .int .i64 0, .int .i64 0, .int .i64 0, .int .i64 0, .int .i64 0, .int .i64 0, .int .i64 0, .int .i64 0, .int .i64 0] 46))
      have Q41 := Lib.hid (Blk.new wr 46 #[.int .i64 0, .int .i64 0, .int .i64 0, .int .i64 0, .int .i64 0, .int .i64 0, .int .i64 0, .int .i64 0, .int .i64 0, .int .i64 0, .int .i64 0, .int .i64 0, .int .i64 0, .int .i64 0])
      have b41 := Lib.hid (b40.out.trans ((bl_alloc wr (.cells #[.int .i64 0, .int .i64 0, .int .i64 0, .int .i64 0, .int .i64 0, .int .i64 0, .int .i64 0, .int .i64 0, .int .i64 0, .int .i64 0, .int .i64 0, .int .i64 0, .int .i64 0, .int .i64 0] 46)).mono b40.out.size))
      clear I40 B40 E40 H40 R40 G40 A40 b40
      go_upto_region 11 with fail
      clear yG
      generalize wr.alloc (.cells #[.int .i64 0, .int .i64 0, .int .i64 0, .int .i64 0, .int .i64 0, .int .i64 0, .int .i64 0, .int .i64 0, .int .i64 0, .int .i64 0, .int .i64 0, .int .i64 0, .int .i64 0, .int .i64 0] 46) = w42 at *
      obtain ⟨aQ, haQ⟩ : ∃ a, wr.heap.size = a := ⟨_, rfl⟩
      rw [haQ] at oQ Q41 ⊢
      clear haQ
      have yB : ∀ i, w42.cell? ⟨aB, i, none⟩ = (#[txb s.body, .int .i64 s.limb, .int .i64 s.lo, .int .i64 s.hi, .int .i64 s.hs, .int .i64 s.by_, .int .i64 s.hor, .int .i64 s.eye, .int .i64 s.shore, .int .i64 s.temp, .int .i64 s.press] : Array Value)[i]? := fun i => B41.out.cell i
      have yE : ∀ i, w42.cell? ⟨aE, i, none⟩ = (#[.int .i64 g0, .int .i64 g1, .int .i64 g2, .int .i64 g3, .int .i64 e0, .int .i64 e1, .int .i64 p0, .int .i64 p1] : Array Value)[i]? := fun i => E41.out.cell i
      have yA : ∀ i, w42.cell? ⟨aA, i, none⟩ = (#[.int .i64 lo, .int .i64 hi] : Array Value)[i]? := fun i => A41.out.cell i
      go_wp2_with fail
      (refine (KUr.out aG aQ _ G41.out Q41.out (by omega)).mono ?_)
      rintro e w43 ⟨⟨vv, rfl⟩, hQ, hK⟩
      have I43 := Lib.hid (I41.out.kps hK (show aI ≠ aQ by omega))
      have B43 := Lib.hid (B41.out.kps hK (show aB ≠ aQ by omega))
      have E43 := Lib.hid (E41.out.kps hK (show aE ≠ aQ by omega))
      have H43 := Lib.hid (H41.out.kps hK (show aH ≠ aQ by omega))
      have R43 := Lib.hid (R41.out.kps hK (show aR ≠ aQ by omega))
      have G43 := Lib.hid (G41.out.kps hK (show aG ≠ aQ by omega))
      have A43 := Lib.hid (A41.out.kps hK (show aA ≠ aQ by omega))
      have Q43 := Lib.hid hQ
      have b43 := Lib.hid (b41.out.trans (hK.below (by omega) b41.out.size))
      clear hQ hK I41 B41 E41 H41 R41 G41 A41 Q41 b41 yB yE yA
      go_upto_region 12 with fail
      have I9 := Lib.hid I43.out.drew
      have B9 := Lib.hid B43.out.drew
      have E9 := Lib.hid E43.out.drew
      have H9 := Lib.hid H43.out.drew
      have R9 := Lib.hid R43.out.drew
      have G9 := Lib.hid G43.out.drew
      have A9 := Lib.hid A43.out.drew
      have Q9 := Lib.hid Q43.out.drew
      have b9 := Lib.hid (bl_drew b43.out)
      obtain ⟨W9, hW9⟩ : ∃ W, w43.drew = W := ⟨_, rfl⟩
      rw [hW9] at I9 B9 E9 H9 R9 G9 A9 Q9 b9
      have HW9 := Lib.hid hW9
      clear hW9 I43 B43 E43 H43 R43 G43 A43 Q43 b43
      refine wp_region_inv3 (by kernel_rfl) (RdI W9 #[(.agg #[.int .i64 h0, .int .i64 h1]), (.pointer (some ⟨aQ, 4, none⟩)), (.agg #[.int .i64 r0, .int .i64 r1]), (.tuple #[.agg #[.int .i64 t0, .int .i64 t1], .int .i64 0]), (.agg #[.int .i64 t0, .int .i64 t1]), (.int .i64 0), (.agg #[.int .i64 t0, .int .i64 t1]), (.pointer (some ⟨aQ, 6, none⟩)), (.agg #[.int .i64 x0, .int .i64 x1]), (.tuple #[.agg #[.int .i64 u0, .int .i64 u1], .int .i64 0]), (.agg #[.int .i64 u0, .int .i64 u1]), (.int .i64 0), (.agg #[.int .i64 u0, .int .i64 u1]), (.pointer (some ⟨aQ, 8, none⟩)), (.agg #[.int .i64 s0, .int .i64 s1]), (.tuple #[.agg #[.int .i64 v0, .int .i64 v1], .int .i64 0]), (.agg #[.int .i64 v0, .int .i64 v1]), (.int .i64 0), (.agg #[.int .i64 v0, .int .i64 v1]), undef, undef] #[.int .i64 v0, .int .i64 v1]) (waits_bind (by kernel_rfl)) ?start ?step ?fin
      case start => rw [HW9.out]; exact RdI.start _ _ _ _
      case step =>
        rintro M i o a1' w' ho hL haf ⟨v, rfl, hD, hF, hG⟩
        have HD := Lib.hid hD
        have HF := Lib.hid hF
        clear hD hF hG
        rcases i with _ | _ | _ | _ | _ | _ | _ | _ | _ | _ | _ | _ | _ | _ | _ | _ | _ | _ | _ | _ | _ | i
        all_goals (simp at ho; try subst ho)
        all_goals (try simp [Region.binds] at haf)
        · have ns : M 20 = false := by cases h8 : M 20 with | false => rfl | true => exact absurd (HD.out h8 0 (by omega)) (by simp [hL])
          obtain ⟨hB, hS⟩ := HF.out ns
          have HB := Lib.hid hB
          have HS := Lib.hid hS
          clear hB hS
          have yH : ∀ i, w'.cell? ⟨aH, i, none⟩ = (#[.int .i64 h0, .int .i64 h1] : Array Value)[i]? := fun i => (H9.out.below HB.out H9.out.lt).cell i
          go_wp2
          exact ⟨upd v 0 (.agg #[.int .i64 h0, .int .i64 h1]), by simp [upd, Act.put], fun h => absurd h (by simp [mkd, ns]), fun _ => ⟨HB.out, stepS HS.out (fun _ _ h => h) (show _ from rfl)⟩, fun h => absurd h (by simp [mkd, ns])⟩
        · have ns : M 20 = false := by cases h8 : M 20 with | false => rfl | true => exact absurd (HD.out h8 1 (by omega)) (by simp [hL])
          obtain ⟨hB, hS⟩ := HF.out ns
          have HB := Lib.hid hB
          have HS := Lib.hid hS
          clear hB hS
          go_wp2
          exact ⟨upd v 1 (.pointer (some ⟨aQ, 4, none⟩)), by simp [upd, Act.put], fun h => absurd h (by simp [mkd, ns]), fun _ => ⟨HB.out, stepS HS.out (fun _ _ h => h) (show _ from rfl)⟩, fun h => absurd h (by simp [mkd, ns])⟩
        · have ns : M 20 = false := by cases h8 : M 20 with | false => rfl | true => exact absurd (HD.out h8 2 (by omega)) (by simp [hL])
          obtain ⟨hB, hS⟩ := HF.out ns
          have HB := Lib.hid hB
          have HS := Lib.hid hS
          clear hB hS
          have e1 : v 1 = (.pointer (some ⟨aQ, 4, none⟩)) := HS.out 1 (by simp [haf])
          have yQ : ∀ i, w'.cell? ⟨aQ, i, none⟩ = (#[.int .i64 0, .int .i64 0, .int .i64 0, .int .i64 0, .int .i64 r0, .int .i64 r1, .int .i64 x0, .int .i64 x1, .int .i64 s0, .int .i64 s1, .int .i64 0, .int .i64 0, .int .i64 0, .int .i64 0] : Array Value)[i]? := fun i => (Q9.out.below HB.out Q9.out.lt).cell i
          go_wp2
          exact ⟨upd v 2 (.agg #[.int .i64 r0, .int .i64 r1]), by simp [upd, Act.put, e1], fun h => absurd h (by simp [mkd, ns]), fun _ => ⟨HB.out, stepS HS.out (fun _ _ h => h) (show _ from rfl)⟩, fun h => absurd h (by simp [mkd, ns])⟩
        · have ns : M 20 = false := by cases h8 : M 20 with | false => rfl | true => exact absurd (HD.out h8 3 (by omega)) (by simp [hL])
          obtain ⟨hB, hS⟩ := HF.out ns
          have HB := Lib.hid hB
          have HS := Lib.hid hS
          clear hB hS
          have e0 : v 0 = (.agg #[.int .i64 h0, .int .i64 h1]) := HS.out 0 (by simp [haf])
          have e2 : v 2 = (.agg #[.int .i64 r0, .int .i64 r1]) := HS.out 2 (by simp [haf])
          go_wp2_with fail
          (with_reducible refine (K1.out w').mono ?_)
          rintro e9 w9 ⟨rfl, hb9⟩
          go_wp2
          exact ⟨upd v 3 (.tuple #[.agg #[.int .i64 t0, .int .i64 t1], .int .i64 0]), by simp [upd, Act.put, e0, e2], fun h => absurd h (by simp [mkd, ns]), fun _ => ⟨(HB.out.trans (hb9.mono HB.out.size)), stepS HS.out (fun j y h => RdS.keep hb9 j y h) (show _ from rfl)⟩, fun h => absurd h (by simp [mkd, ns])⟩
        · have ns : M 20 = false := by cases h8 : M 20 with | false => rfl | true => exact absurd (HD.out h8 4 (by omega)) (by simp [hL])
          obtain ⟨hB, hS⟩ := HF.out ns
          have HB := Lib.hid hB
          have HS := Lib.hid hS
          clear hB hS
          have e3 : v 3 = (.tuple #[.agg #[.int .i64 t0, .int .i64 t1], .int .i64 0]) := HS.out 3 (by simp [haf])
          go_wp2
          exact ⟨upd v 4 (.agg #[.int .i64 t0, .int .i64 t1]), by simp [upd, Act.put, e3], fun h => absurd h (by simp [mkd, ns]), fun _ => ⟨HB.out, stepS HS.out (fun _ _ h => h) (show _ from rfl)⟩, fun h => absurd h (by simp [mkd, ns])⟩
        · have ns : M 20 = false := by cases h8 : M 20 with | false => rfl | true => exact absurd (HD.out h8 5 (by omega)) (by simp [hL])
          obtain ⟨hB, hS⟩ := HF.out ns
          have HB := Lib.hid hB
          have HS := Lib.hid hS
          clear hB hS
          have e3 : v 3 = (.tuple #[.agg #[.int .i64 t0, .int .i64 t1], .int .i64 0]) := HS.out 3 (by simp [haf])
          go_wp2
          exact ⟨upd v 5 (.int .i64 0), by simp [upd, Act.put, e3], fun h => absurd h (by simp [mkd, ns]), fun _ => ⟨HB.out, stepS HS.out (fun _ _ h => h) (show _ from rfl)⟩, fun h => absurd h (by simp [mkd, ns])⟩
        · have ns : M 20 = false := by cases h8 : M 20 with | false => rfl | true => exact absurd (HD.out h8 6 (by omega)) (by simp [hL])
          obtain ⟨hB, hS⟩ := HF.out ns
          have HB := Lib.hid hB
          have HS := Lib.hid hS
          clear hB hS
          have e4 : v 4 = (.agg #[.int .i64 t0, .int .i64 t1]) := HS.out 4 (by simp [haf])
          have e5 : v 5 = (.int .i64 0) := HS.out 5 (by simp [haf])
          go_wp2_with fail
          (with_reducible refine (KK.out t0 t1 w' (G9.out.below HB.out G9.out.lt)).mono ?_)
          rintro e9 w9 ⟨rfl, hb9⟩
          go_wp2
          exact ⟨upd v 6 (.agg #[.int .i64 t0, .int .i64 t1]), by simp [upd, Act.put, e4, e5], fun h => absurd h (by simp [mkd, ns]), fun _ => ⟨(HB.out.trans (hb9.mono HB.out.size)), stepS HS.out (fun j y h => RdS.keep hb9 j y h) (show _ from rfl)⟩, fun h => absurd h (by simp [mkd, ns])⟩
        · have ns : M 20 = false := by cases h8 : M 20 with | false => rfl | true => exact absurd (HD.out h8 7 (by omega)) (by simp [hL])
          obtain ⟨hB, hS⟩ := HF.out ns
          have HB := Lib.hid hB
          have HS := Lib.hid hS
          clear hB hS
          go_wp2
          exact ⟨upd v 7 (.pointer (some ⟨aQ, 6, none⟩)), by simp [upd, Act.put], fun h => absurd h (by simp [mkd, ns]), fun _ => ⟨HB.out, stepS HS.out (fun _ _ h => h) (show _ from rfl)⟩, fun h => absurd h (by simp [mkd, ns])⟩
        · have ns : M 20 = false := by cases h8 : M 20 with | false => rfl | true => exact absurd (HD.out h8 8 (by omega)) (by simp [hL])
          obtain ⟨hB, hS⟩ := HF.out ns
          have HB := Lib.hid hB
          have HS := Lib.hid hS
          clear hB hS
          have e7 : v 7 = (.pointer (some ⟨aQ, 6, none⟩)) := HS.out 7 (by simp [haf])
          have yQ : ∀ i, w'.cell? ⟨aQ, i, none⟩ = (#[.int .i64 0, .int .i64 0, .int .i64 0, .int .i64 0, .int .i64 r0, .int .i64 r1, .int .i64 x0, .int .i64 x1, .int .i64 s0, .int .i64 s1, .int .i64 0, .int .i64 0, .int .i64 0, .int .i64 0] : Array Value)[i]? := fun i => (Q9.out.below HB.out Q9.out.lt).cell i
          go_wp2
          exact ⟨upd v 8 (.agg #[.int .i64 x0, .int .i64 x1]), by simp [upd, Act.put, e7], fun h => absurd h (by simp [mkd, ns]), fun _ => ⟨HB.out, stepS HS.out (fun _ _ h => h) (show _ from rfl)⟩, fun h => absurd h (by simp [mkd, ns])⟩
        · have ns : M 20 = false := by cases h8 : M 20 with | false => rfl | true => exact absurd (HD.out h8 9 (by omega)) (by simp [hL])
          obtain ⟨hB, hS⟩ := HF.out ns
          have HB := Lib.hid hB
          have HS := Lib.hid hS
          clear hB hS
          have e6 : v 6 = (.agg #[.int .i64 t0, .int .i64 t1]) := HS.out 6 (by simp [haf])
          have e8 : v 8 = (.agg #[.int .i64 x0, .int .i64 x1]) := HS.out 8 (by simp [haf])
          go_wp2_with fail
          (with_reducible refine (K2.out w').mono ?_)
          rintro e9 w9 ⟨rfl, hb9⟩
          go_wp2
          exact ⟨upd v 9 (.tuple #[.agg #[.int .i64 u0, .int .i64 u1], .int .i64 0]), by simp [upd, Act.put, e6, e8], fun h => absurd h (by simp [mkd, ns]), fun _ => ⟨(HB.out.trans (hb9.mono HB.out.size)), stepS HS.out (fun j y h => RdS.keep hb9 j y h) (show _ from rfl)⟩, fun h => absurd h (by simp [mkd, ns])⟩
        · have ns : M 20 = false := by cases h8 : M 20 with | false => rfl | true => exact absurd (HD.out h8 10 (by omega)) (by simp [hL])
          obtain ⟨hB, hS⟩ := HF.out ns
          have HB := Lib.hid hB
          have HS := Lib.hid hS
          clear hB hS
          have e9 : v 9 = (.tuple #[.agg #[.int .i64 u0, .int .i64 u1], .int .i64 0]) := HS.out 9 (by simp [haf])
          go_wp2
          exact ⟨upd v 10 (.agg #[.int .i64 u0, .int .i64 u1]), by simp [upd, Act.put, e9], fun h => absurd h (by simp [mkd, ns]), fun _ => ⟨HB.out, stepS HS.out (fun _ _ h => h) (show _ from rfl)⟩, fun h => absurd h (by simp [mkd, ns])⟩
        · have ns : M 20 = false := by cases h8 : M 20 with | false => rfl | true => exact absurd (HD.out h8 11 (by omega)) (by simp [hL])
          obtain ⟨hB, hS⟩ := HF.out ns
          have HB := Lib.hid hB
          have HS := Lib.hid hS
          clear hB hS
          have e9 : v 9 = (.tuple #[.agg #[.int .i64 u0, .int .i64 u1], .int .i64 0]) := HS.out 9 (by simp [haf])
          go_wp2
          exact ⟨upd v 11 (.int .i64 0), by simp [upd, Act.put, e9], fun h => absurd h (by simp [mkd, ns]), fun _ => ⟨HB.out, stepS HS.out (fun _ _ h => h) (show _ from rfl)⟩, fun h => absurd h (by simp [mkd, ns])⟩
        · have ns : M 20 = false := by cases h8 : M 20 with | false => rfl | true => exact absurd (HD.out h8 12 (by omega)) (by simp [hL])
          obtain ⟨hB, hS⟩ := HF.out ns
          have HB := Lib.hid hB
          have HS := Lib.hid hS
          clear hB hS
          have e10 : v 10 = (.agg #[.int .i64 u0, .int .i64 u1]) := HS.out 10 (by simp [haf])
          have e11 : v 11 = (.int .i64 0) := HS.out 11 (by simp [haf])
          go_wp2_with fail
          (with_reducible refine (KK.out u0 u1 w' (G9.out.below HB.out G9.out.lt)).mono ?_)
          rintro e9 w9 ⟨rfl, hb9⟩
          go_wp2
          exact ⟨upd v 12 (.agg #[.int .i64 u0, .int .i64 u1]), by simp [upd, Act.put, e10, e11], fun h => absurd h (by simp [mkd, ns]), fun _ => ⟨(HB.out.trans (hb9.mono HB.out.size)), stepS HS.out (fun j y h => RdS.keep hb9 j y h) (show _ from rfl)⟩, fun h => absurd h (by simp [mkd, ns])⟩
        · have ns : M 20 = false := by cases h8 : M 20 with | false => rfl | true => exact absurd (HD.out h8 13 (by omega)) (by simp [hL])
          obtain ⟨hB, hS⟩ := HF.out ns
          have HB := Lib.hid hB
          have HS := Lib.hid hS
          clear hB hS
          go_wp2
          exact ⟨upd v 13 (.pointer (some ⟨aQ, 8, none⟩)), by simp [upd, Act.put], fun h => absurd h (by simp [mkd, ns]), fun _ => ⟨HB.out, stepS HS.out (fun _ _ h => h) (show _ from rfl)⟩, fun h => absurd h (by simp [mkd, ns])⟩
        · have ns : M 20 = false := by cases h8 : M 20 with | false => rfl | true => exact absurd (HD.out h8 14 (by omega)) (by simp [hL])
          obtain ⟨hB, hS⟩ := HF.out ns
          have HB := Lib.hid hB
          have HS := Lib.hid hS
          clear hB hS
          have e13 : v 13 = (.pointer (some ⟨aQ, 8, none⟩)) := HS.out 13 (by simp [haf])
          have yQ : ∀ i, w'.cell? ⟨aQ, i, none⟩ = (#[.int .i64 0, .int .i64 0, .int .i64 0, .int .i64 0, .int .i64 r0, .int .i64 r1, .int .i64 x0, .int .i64 x1, .int .i64 s0, .int .i64 s1, .int .i64 0, .int .i64 0, .int .i64 0, .int .i64 0] : Array Value)[i]? := fun i => (Q9.out.below HB.out Q9.out.lt).cell i
          go_wp2
          exact ⟨upd v 14 (.agg #[.int .i64 s0, .int .i64 s1]), by simp [upd, Act.put, e13], fun h => absurd h (by simp [mkd, ns]), fun _ => ⟨HB.out, stepS HS.out (fun _ _ h => h) (show _ from rfl)⟩, fun h => absurd h (by simp [mkd, ns])⟩
        · have ns : M 20 = false := by cases h8 : M 20 with | false => rfl | true => exact absurd (HD.out h8 15 (by omega)) (by simp [hL])
          obtain ⟨hB, hS⟩ := HF.out ns
          have HB := Lib.hid hB
          have HS := Lib.hid hS
          clear hB hS
          have e12 : v 12 = (.agg #[.int .i64 u0, .int .i64 u1]) := HS.out 12 (by simp [haf])
          have e14 : v 14 = (.agg #[.int .i64 s0, .int .i64 s1]) := HS.out 14 (by simp [haf])
          go_wp2_with fail
          (with_reducible refine (K3.out w').mono ?_)
          rintro e9 w9 ⟨rfl, hb9⟩
          go_wp2
          exact ⟨upd v 15 (.tuple #[.agg #[.int .i64 v0, .int .i64 v1], .int .i64 0]), by simp [upd, Act.put, e12, e14], fun h => absurd h (by simp [mkd, ns]), fun _ => ⟨(HB.out.trans (hb9.mono HB.out.size)), stepS HS.out (fun j y h => RdS.keep hb9 j y h) (show _ from rfl)⟩, fun h => absurd h (by simp [mkd, ns])⟩
        · have ns : M 20 = false := by cases h8 : M 20 with | false => rfl | true => exact absurd (HD.out h8 16 (by omega)) (by simp [hL])
          obtain ⟨hB, hS⟩ := HF.out ns
          have HB := Lib.hid hB
          have HS := Lib.hid hS
          clear hB hS
          have e15 : v 15 = (.tuple #[.agg #[.int .i64 v0, .int .i64 v1], .int .i64 0]) := HS.out 15 (by simp [haf])
          go_wp2
          exact ⟨upd v 16 (.agg #[.int .i64 v0, .int .i64 v1]), by simp [upd, Act.put, e15], fun h => absurd h (by simp [mkd, ns]), fun _ => ⟨HB.out, stepS HS.out (fun _ _ h => h) (show _ from rfl)⟩, fun h => absurd h (by simp [mkd, ns])⟩
        · have ns : M 20 = false := by cases h8 : M 20 with | false => rfl | true => exact absurd (HD.out h8 17 (by omega)) (by simp [hL])
          obtain ⟨hB, hS⟩ := HF.out ns
          have HB := Lib.hid hB
          have HS := Lib.hid hS
          clear hB hS
          have e15 : v 15 = (.tuple #[.agg #[.int .i64 v0, .int .i64 v1], .int .i64 0]) := HS.out 15 (by simp [haf])
          go_wp2
          exact ⟨upd v 17 (.int .i64 0), by simp [upd, Act.put, e15], fun h => absurd h (by simp [mkd, ns]), fun _ => ⟨HB.out, stepS HS.out (fun _ _ h => h) (show _ from rfl)⟩, fun h => absurd h (by simp [mkd, ns])⟩
        · have ns : M 20 = false := by cases h8 : M 20 with | false => rfl | true => exact absurd (HD.out h8 18 (by omega)) (by simp [hL])
          obtain ⟨hB, hS⟩ := HF.out ns
          have HB := Lib.hid hB
          have HS := Lib.hid hS
          clear hB hS
          have e16 : v 16 = (.agg #[.int .i64 v0, .int .i64 v1]) := HS.out 16 (by simp [haf])
          have e17 : v 17 = (.int .i64 0) := HS.out 17 (by simp [haf])
          go_wp2_with fail
          (with_reducible refine (KK.out v0 v1 w' (G9.out.below HB.out G9.out.lt)).mono ?_)
          rintro e9 w9 ⟨rfl, hb9⟩
          go_wp2
          exact ⟨upd v 18 (.agg #[.int .i64 v0, .int .i64 v1]), by simp [upd, Act.put, e16, e17], fun h => absurd h (by simp [mkd, ns]), fun _ => ⟨(HB.out.trans (hb9.mono HB.out.size)), stepS HS.out (fun j y h => RdS.keep hb9 j y h) (show _ from rfl)⟩, fun h => absurd h (by simp [mkd, ns])⟩
        · have ns : M 20 = false := by cases h8 : M 20 with | false => rfl | true => exact absurd (HD.out h8 19 (by omega)) (by simp [hL])
          obtain ⟨hB, hS⟩ := HF.out ns
          have HB := Lib.hid hB
          have HS := Lib.hid hS
          clear hB hS
          have hb9 := bl_alloc w' (.cells #[.int .i64 0, .int .i64 0] 41)
          go_wp2
          exact ⟨upd v 19 (.pointer (some ⟨w'.heap.size, 0, none⟩)), by simp [upd, Act.put], fun h => absurd h (by simp [mkd, ns]), fun _ => ⟨(HB.out.trans (hb9.mono HB.out.size)), stepS HS.out (fun j y h => RdS.keep hb9 j y h) ⟨_, rfl, HB.out.size, Blk.new w' _ _⟩⟩, fun h => absurd h (by simp [mkd, ns])⟩
        · obtain ⟨hB, hS⟩ := HF.out hL
          have HB := Lib.hid hB
          have HS := Lib.hid hS
          clear hB hS
          have e18 : v 18 = (.agg #[.int .i64 v0, .int .i64 v1]) := HS.out 18 (by simp [haf])
          obtain ⟨q, e19, hq1, hq2⟩ : ∃ q, v 19 = .pointer (some ⟨q, 0, none⟩) ∧ W9.heap.size ≤ q ∧ Blk w' q 41 #[.int .i64 0, .int .i64 0] := HS.out 19 (by simp [haf])
          have y0 := hq2.cell 0
          have f0 := hq2.frozen 0
          have y1 := hq2.cell 1
          have f1 := hq2.frozen 1
          have HQ1 := Lib.hid hq1
          have HQ2 := Lib.hid hq2
          clear hq1 hq2
          simp only [List.getElem?_toArray, List.getElem?_cons_succ, List.getElem?_cons_zero] at y0 y1
          go_wp2
          exact ⟨upd v 20 undef, by simp [upd, Act.put, e18, e19], fun _ j hj => by rcases j with _ | _ | _ | _ | _ | _ | _ | _ | _ | _ | _ | _ | _ | _ | _ | _ | _ | _ | _ | _ | j <;> first | (simp [mkd, haf]; done) | omega, fun h => absurd h (by simp [mkd]), fun _ => ⟨q, by simp [upd, e19], HQ1.out, ((HQ2.out).set_ 0 (.int .i64 v0)).set_ 1 (.int .i64 v1), ((HB.out).setCell HQ1.out _).setCell HQ1.out _⟩⟩
      case fin =>
        rintro M a1' w' hall ⟨v, rfl, hD, hF, hG⟩
        obtain ⟨q, eq, hq1, hq2, hB⟩ := hG (hall 20 (by simp))
        clear hD hF hG hall
        simp only [Act.put, List.setIfInBounds_toArray, List.set_cons_zero, List.set_cons_succ]
        rw [eq]
        clear eq
        generalize v 0 = vz0
        generalize v 1 = vz1
        generalize v 2 = vz2
        generalize v 3 = vz3
        generalize v 4 = vz4
        generalize v 5 = vz5
        generalize v 6 = vz6
        generalize v 7 = vz7
        generalize v 8 = vz8
        generalize v 9 = vz9
        generalize v 10 = vz10
        generalize v 11 = vz11
        generalize v 12 = vz12
        generalize v 13 = vz13
        generalize v 14 = vz14
        generalize v 15 = vz15
        generalize v 16 = vz16
        generalize v 17 = vz17
        generalize v 18 = vz18
        clear v
        have I60 := Lib.hid (I9.out.below hB I9.out.lt)
        have B60 := Lib.hid (B9.out.below hB B9.out.lt)
        have E60 := Lib.hid (E9.out.below hB E9.out.lt)
        have H60 := Lib.hid (H9.out.below hB H9.out.lt)
        have R60 := Lib.hid (R9.out.below hB R9.out.lt)
        have G60 := Lib.hid (G9.out.below hB G9.out.lt)
        have A60 := Lib.hid (A9.out.below hB A9.out.lt)
        have Q60 := Lib.hid (Q9.out.below hB Q9.out.lt)
        have oV : aQ < q := Nat.lt_of_lt_of_le Q9.out.lt hq1
        have b60 := Lib.hid (b9.out.trans (hB.mono b9.out.size))
        have V60 := Lib.hid hq2
        obtain ⟨aV, haV⟩ : ∃ a, q = a := ⟨_, rfl⟩
        rw [haV] at V60 oV ⊢
        clear haV hq1 hq2 hB HW9 b9 I9 B9 E9 H9 R9 G9 A9 Q9
        have yG : ∀ i, w'.cell? ⟨aG, i, none⟩ = (#[.int .i64 0] : Array Value)[i]? := fun i => G60.out.cell i
        go_upto_region 14 with fail
        clear yG
        have yA : ∀ i, w'.cell? ⟨aA, i, none⟩ = (#[.int .i64 lo, .int .i64 hi] : Array Value)[i]? := fun i => A60.out.cell i
        have yV : ∀ i, w'.cell? ⟨aV, i, none⟩ = (#[.int .i64 v0, .int .i64 v1] : Array Value)[i]? := fun i => V60.out.cell i
        go_wp2_with fail
        (with_reducible refine (KM.out _).mono ?_)
        rintro e w61 ⟨rfl, hb⟩
        have I61 := Lib.hid (I60.out.below hb I60.out.lt)
        have B61 := Lib.hid (B60.out.below hb B60.out.lt)
        have E61 := Lib.hid (E60.out.below hb E60.out.lt)
        have H61 := Lib.hid (H60.out.below hb H60.out.lt)
        have R61 := Lib.hid (R60.out.below hb R60.out.lt)
        have G61 := Lib.hid (G60.out.below hb G60.out.lt)
        have A61 := Lib.hid (A60.out.below hb A60.out.lt)
        have Q61 := Lib.hid (Q60.out.below hb Q60.out.lt)
        have V61 := Lib.hid (V60.out.below hb V60.out.lt)
        have b61 := Lib.hid (b60.out.trans (hb.mono b60.out.size))
        clear hb I60 B60 E60 H60 R60 G60 A60 Q60 V60 b60 yA yV
        go_wp2_with fail
        (with_reducible refine (KK.out y0 y1 _ G61.out).mono ?_)
        rintro e w62 ⟨rfl, hb⟩
        have I62 := Lib.hid (I61.out.below hb I61.out.lt)
        have B62 := Lib.hid (B61.out.below hb B61.out.lt)
        have E62 := Lib.hid (E61.out.below hb E61.out.lt)
        have H62 := Lib.hid (H61.out.below hb H61.out.lt)
        have R62 := Lib.hid (R61.out.below hb R61.out.lt)
        have G62 := Lib.hid (G61.out.below hb G61.out.lt)
        have A62 := Lib.hid (A61.out.below hb A61.out.lt)
        have Q62 := Lib.hid (Q61.out.below hb Q61.out.lt)
        have V62 := Lib.hid (V61.out.below hb V61.out.lt)
        have b62 := Lib.hid (b61.out.trans (hb.mono b61.out.size))
        clear hb I61 B61 E61 H61 R61 G61 A61 Q61 V61 b61
        have yA : ∀ i, w62.cell? ⟨aA, i, none⟩ = (#[.int .i64 lo, .int .i64 hi] : Array Value)[i]? := fun i => A62.out.cell i
        have zA : ∀ i, w62.frozen? ⟨aA, i, none⟩ = false := fun i => A62.out.frozen i
        have I63 := Lib.hid (((I62.out).far (p := ⟨aA, 0, none⟩) (show aI ≠ aA by omega) (.int .i64 y0)).far (p := ⟨aA, 1, none⟩) (show aI ≠ aA by omega) (.int .i64 y1))
        have B63 := Lib.hid (((B62.out).far (p := ⟨aA, 0, none⟩) (show aB ≠ aA by omega) (.int .i64 y0)).far (p := ⟨aA, 1, none⟩) (show aB ≠ aA by omega) (.int .i64 y1))
        have E63 := Lib.hid (((E62.out).far (p := ⟨aA, 0, none⟩) (show aE ≠ aA by omega) (.int .i64 y0)).far (p := ⟨aA, 1, none⟩) (show aE ≠ aA by omega) (.int .i64 y1))
        have H63 := Lib.hid (((H62.out).far (p := ⟨aA, 0, none⟩) (show aH ≠ aA by omega) (.int .i64 y0)).far (p := ⟨aA, 1, none⟩) (show aH ≠ aA by omega) (.int .i64 y1))
        have R63 := Lib.hid (((R62.out).far (p := ⟨aA, 0, none⟩) (show aR ≠ aA by omega) (.int .i64 y0)).far (p := ⟨aA, 1, none⟩) (show aR ≠ aA by omega) (.int .i64 y1))
        have G63 := Lib.hid (((G62.out).far (p := ⟨aA, 0, none⟩) (show aG ≠ aA by omega) (.int .i64 y0)).far (p := ⟨aA, 1, none⟩) (show aG ≠ aA by omega) (.int .i64 y1))
        have Q63 := Lib.hid (((Q62.out).far (p := ⟨aA, 0, none⟩) (show aQ ≠ aA by omega) (.int .i64 y0)).far (p := ⟨aA, 1, none⟩) (show aQ ≠ aA by omega) (.int .i64 y1))
        have V63 := Lib.hid (((V62.out).far (p := ⟨aA, 0, none⟩) (show aV ≠ aA by omega) (.int .i64 y0)).far (p := ⟨aA, 1, none⟩) (show aV ≠ aA by omega) (.int .i64 y1))
        have A63 := Lib.hid ((show Blk ((w62.setCell ⟨aA, 0, none⟩ (.int .i64 y0)).setCell ⟨aA, 1, none⟩ (.int .i64 y1)) aA 41 #[.int .i64 y0, .int .i64 y1] from by simpa using ((show Blk (w62.setCell ⟨aA, 0, none⟩ (.int .i64 y0)) aA 41 #[.int .i64 y0, .int .i64 hi] from by simpa using (A62.out).set_ 0 (.int .i64 y0))).set_ 1 (.int .i64 y1)))
        have b63 := Lib.hid (((b62.out).setCell (p := ⟨aA, 0, none⟩) (show w.heap.size ≤ aA by omega) (.int .i64 y0)).setCell (p := ⟨aA, 1, none⟩) (show w.heap.size ≤ aA by omega) (.int .i64 y1))
        clear I62 B62 E62 H62 R62 G62 Q62 V62 A62 b62
        go_upto_region 9 with fail
        clear yA zA
        generalize ((w62.setCell ⟨aA, 0, none⟩ (.int .i64 y0)).setCell ⟨aA, 1, none⟩ (.int .i64 y1)) = w64 at *
        go_wp2
        go_roundg (8 - (k + 1))
        case measure => omega
        case rel => exact ⟨k + 1, y0, y1, by go_num, by omega, Nat.le_refl _, HST.out, yb.1, hne, yb.2, I63.out, B63.out, E63.out, H63.out, R63.out, G63.out, A63.out, b63.out⟩
end Go.Proofs.YtbpnacacnncopaaGreatDoor
