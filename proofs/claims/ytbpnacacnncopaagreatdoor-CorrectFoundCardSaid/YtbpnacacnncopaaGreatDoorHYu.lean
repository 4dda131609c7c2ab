/- Plain: the refraction of a lower altitude is not less. -/
import Derived.Test.YtbpnacacnncopaaGreatDoorHYp
import Derived.Test.YtbpnacacnncopaaGreatDoorHYs
import Derived.Test.YtbpnacacnncopaaGreatDoorHXg
import Derived.Test.YtbpnacacnncopaaGreatDoorHMn
import Derived.Test.YtbpnacacnncopaaGreatDoorHYl
set_option linter.unusedVariables false
set_option linter.unusedSimpArgs false
namespace Go.Proofs.YtbpnacacnncopaaGreatDoor
open Go.RowKit Frm
theorem arcC_any (g : Nat) (a b : Int) (w : World) (h : Blk w g 86 #[.int .i64 0]) :
    Calls Tryz.prog 51 #[.pointer (some ⟨g, 0, none⟩), .agg #[.int .i64 a, .int .i64 b], .int .i64 0] w fun e w' => e = .returned (.agg #[.int .i64 a, .int .i64 b]) ∧ Below w.heap.size w w' := by
  have A0 := Lib.hid ((Blk.new w 41 #[.int .i64 a, .int .i64 b]).alloc (.cells #[.int .i64 0, .int .i64 0] 41))
  have R0 := Lib.hid (Blk.new (w.alloc (.cells #[.int .i64 a, .int .i64 b] 41)) 41 #[.int .i64 0, .int .i64 0])
  simp only [World.size_alloc] at R0
  have b0 := Lib.hid (((Below.refl w.heap.size w).alloc (Nat.le_refl _) (.cells #[.int .i64 a, .int .i64 b] 41)).alloc (by simp) (.cells #[.int .i64 0, .int .i64 0] 41))
  have G0 := Lib.hid (((h).alloc (.cells #[.int .i64 a, .int .i64 b] 41)).alloc (.cells #[.int .i64 0, .int .i64 0] 41))
  clear h
  go_enter Tryz.func51, Tryz.ntmps51
  go_upto_region 1 with fail
  generalize ((w.alloc (.cells #[.int .i64 a, .int .i64 b] 41)).alloc (.cells #[.int .i64 0, .int .i64 0] 41)) = w1 at *
  have yG : ∀ i, w1.cell? ⟨g, i, none⟩ = (#[.int .i64 0] : Array Value)[i]? := fun i => G0.out.cell i
  have zG : ∀ i, w1.frozen? ⟨g, i, none⟩ = false := fun i => G0.out.frozen i
  go_upto_region 3 with fail
  have S2 := Lib.hid (bl_sameP (Below.refl w1.heap.size w1) G0.out)
  clear yG zG
  generalize w1.setCell ⟨g, 0, none⟩ (.int .i64 0) = w9 at *
  have A9 := Lib.hid (A0.out.below S2.out A0.out.lt)
  have R9 := Lib.hid (R0.out.below S2.out R0.out.lt)
  have b9 := Lib.hid (b0.out.trans (S2.out.mono b0.out.size))
  have yA : ∀ i, w9.cell? ⟨w.heap.size, i, none⟩ = (#[.int .i64 a, .int .i64 b] : Array Value)[i]? := fun i => A9.out.cell i
  have yR : ∀ i, w9.cell? ⟨w.heap.size + 1, i, none⟩ = (#[.int .i64 0, .int .i64 0] : Array Value)[i]? := fun i => R9.out.cell i
  have zR : ∀ i, w9.frozen? ⟨w.heap.size + 1, i, none⟩ = false := fun i => R9.out.frozen i
  go_wp2
  refine bodyPost_ret (v := .agg #[.int .i64 a, .int .i64 b]) (by simp [results, Tryz.results51, go_sem, *]; done) rfl ⟨rfl, ?_⟩
  exact (b9.out.setCell (by first | exact Nat.le_refl _ | (simp; done) | (simp; omega) | (simp only []; omega)) _).setCell (by first | exact Nat.le_refl _ | (simp; done) | (simp; omega) | (simp only []; omega)) _
theorem ceilC_any (n : Int) (w : World) (h0 : -1000000000 ≤ n) (h1 : n ≤ 1000000000) : Calls Tryz.prog 54 #[.int .i64 n] w fun e w' => e = .returned (.int .i64 (-(-n / 2))) ∧ w' = w := by
  have m1 : wrap64 (-n) = -n := IntWalk.wrap64_in _ (by omega)
  have m2 : wrap64 (-(-n / 2)) = -(-n / 2) := IntWalk.wrap64_in _ (by omega)
  go_enter Tryz.func54, Tryz.ntmps54
  go_wp2
  go_ret
  exact ⟨rfl, rfl⟩
theorem smallC_any (a b : Int) (w : World) : Calls Tryz.prog 93 #[.agg #[.int .i64 a, .int .i64 b]] w fun e w' => e = .returned (.bool (smP a b)) ∧ Below w.heap.size w w' := by
  have hs : smP a b = (decide (0 ≤ a) && decide (a ≤ b) && decide (b ≤ 120000)) := by unfold smP; rw [Bool.eq_iff_iff]; simp [and_assoc]
  rw [hs]
  clear hs
  obtain ⟨p, hp⟩ : ∃ p, decide (0 ≤ a) = p := ⟨_, rfl⟩
  obtain ⟨q, hq⟩ : ∃ q, decide (a ≤ b) = q := ⟨_, rfl⟩
  obtain ⟨r, hr⟩ : ∃ r, decide (b ≤ 120000) = r := ⟨_, rfl⟩
  rw [hp, hq, hr]
  have b0 := Lib.hid (bl_alloc w (.cells #[.int .i64 a, .int .i64 b] 41))
  cases p <;> cases q <;> cases r
  all_goals
    go_enter Tryz.func93, Tryz.ntmps93
    go_wp2
    go_ret
    exact ⟨rfl, b0.out⟩
/-- whether instrument, sight, and data are right -/
def givB (ix : Int) (T : List Ent) (s : Sgt) (e0 e1 p0 p1 : Int) : Bool := insV ix T && (siS s && (smP e0 e1 && smP p0 p1))
set_option maxHeartbeats 8000000 in
set_option maxRecDepth 100000 in
theorem given_any (ix : Int) (T : List Ent) (A : Option Addr) (n c : Nat) (s : Sgt) (g0 g1 g2 g3 e0 e1 p0 p1 : Int) (w : World) (hT : TabAt w w.heap.size A T) (hn : T.length = n) (hn1 : n ≤ 1000) (hl : s.body.length ≤ 100000) :
    Calls Tryz.prog 50 #[.agg #[.int .i64 ix, .slice A n c], sgv s.body s.limb s.lo s.hi s.hs s.by_ s.hor s.eye s.shore s.temp s.press, .agg #[.int .i64 g0, .int .i64 g1, .int .i64 g2, .int .i64 g3, .int .i64 e0, .int .i64 e1, .int .i64 p0, .int .i64 p1]] w fun e w' => e = .returned (.bool (givB ix T s e0 e1 p0 p1)) ∧ Below w.heap.size w w' := by
  have K1 := Lib.hid (fun W (hW : Below w.heap.size w W) => insV_any ix T A n c W (hT.up hW) hn hn1)
  have K2 := Lib.hid (fun W => correctV_any s.body s.limb s.lo s.hi s.hs s.by_ s.hor s.eye s.shore s.temp s.press W hl)
  have K3 := Lib.hid (fun W => smallC_any e0 e1 W)
  have K4 := Lib.hid (fun W => smallC_any p0 p1 W)
  have hsi : siB s.body s.limb s.lo s.hi s.hs s.by_ s.hor s.eye s.shore s.temp s.press = siS s := rfl
  rw [hsi] at K2
  unfold givB
  obtain ⟨x1, h1⟩ : ∃ x, insV ix T = x := ⟨_, rfl⟩
  obtain ⟨x2, h2⟩ : ∃ x, siS s = x := ⟨_, rfl⟩
  obtain ⟨x3, h3⟩ : ∃ x, smP e0 e1 = x := ⟨_, rfl⟩
  obtain ⟨x4, h4⟩ : ∃ x, smP p0 p1 = x := ⟨_, rfl⟩
  rw [h1] at K1 ⊢
  rw [h2] at K2 ⊢
  rw [h3] at K3 ⊢
  rw [h4] at K4 ⊢
  clear h1 h2 h3 h4 hsi hT hn hn1 hl
  obtain ⟨body, limb, lo, hi, hs, by_, hor, eye, shore, temp, press⟩ := s
  simp only [] at K2 ⊢
  have I0 := Lib.hid (((Blk.new w 40 #[.int .i64 ix, .slice A n c]).alloc (.cells #[txb body, .int .i64 limb, .int .i64 lo, .int .i64 hi, .int .i64 hs, .int .i64 by_, .int .i64 hor, .int .i64 eye, .int .i64 shore, .int .i64 temp, .int .i64 press] 25)).alloc (.cells #[.int .i64 g0, .int .i64 g1, .int .i64 g2, .int .i64 g3, .int .i64 e0, .int .i64 e1, .int .i64 p0, .int .i64 p1] 43))
  have B0 := Lib.hid ((Blk.new (w.alloc (.cells #[.int .i64 ix, .slice A n c] 40)) 25 #[txb body, .int .i64 limb, .int .i64 lo, .int .i64 hi, .int .i64 hs, .int .i64 by_, .int .i64 hor, .int .i64 eye, .int .i64 shore, .int .i64 temp, .int .i64 press]).alloc (.cells #[.int .i64 g0, .int .i64 g1, .int .i64 g2, .int .i64 g3, .int .i64 e0, .int .i64 e1, .int .i64 p0, .int .i64 p1] 43))
  simp only [World.size_alloc] at B0
  have G0 := Lib.hid (Blk.new ((w.alloc (.cells #[.int .i64 ix, .slice A n c] 40)).alloc (.cells #[txb body, .int .i64 limb, .int .i64 lo, .int .i64 hi, .int .i64 hs, .int .i64 by_, .int .i64 hor, .int .i64 eye, .int .i64 shore, .int .i64 temp, .int .i64 press] 25)) 43 #[.int .i64 g0, .int .i64 g1, .int .i64 g2, .int .i64 g3, .int .i64 e0, .int .i64 e1, .int .i64 p0, .int .i64 p1])
  simp only [World.size_alloc] at G0
  have b0 := Lib.hid ((((Below.refl w.heap.size w).alloc (Nat.le_refl _) (.cells #[.int .i64 ix, .slice A n c] 40)).alloc (by simp) (.cells #[txb body, .int .i64 limb, .int .i64 lo, .int .i64 hi, .int .i64 hs, .int .i64 by_, .int .i64 hor, .int .i64 eye, .int .i64 shore, .int .i64 temp, .int .i64 press] 25)).alloc (by simp; omega) (.cells #[.int .i64 g0, .int .i64 g1, .int .i64 g2, .int .i64 g3, .int .i64 e0, .int .i64 e1, .int .i64 p0, .int .i64 p1] 43))
  go_enter Tryz.func50, Tryz.ntmps50
  go_upto_region 1 with fail
  generalize (((w.alloc (.cells #[.int .i64 ix, .slice A n c] 40)).alloc (.cells #[txb body, .int .i64 limb, .int .i64 lo, .int .i64 hi, .int .i64 hs, .int .i64 by_, .int .i64 hor, .int .i64 eye, .int .i64 shore, .int .i64 temp, .int .i64 press] 25)).alloc (.cells #[.int .i64 g0, .int .i64 g1, .int .i64 g2, .int .i64 g3, .int .i64 e0, .int .i64 e1, .int .i64 p0, .int .i64 p1] 43)) = w1 at *
  have yI : ∀ i, w1.cell? ⟨w.heap.size, i, none⟩ = (#[.int .i64 ix, .slice A n c] : Array Value)[i]? := fun i => I0.out.cell i
  have yB : ∀ i, w1.cell? ⟨w.heap.size + 1, i, none⟩ = (#[txb body, .int .i64 limb, .int .i64 lo, .int .i64 hi, .int .i64 hs, .int .i64 by_, .int .i64 hor, .int .i64 eye, .int .i64 shore, .int .i64 temp, .int .i64 press] : Array Value)[i]? := fun i => B0.out.cell i
  have yG : ∀ i, w1.cell? ⟨w.heap.size + 1 + 1, i, none⟩ = (#[.int .i64 g0, .int .i64 g1, .int .i64 g2, .int .i64 g3, .int .i64 e0, .int .i64 e1, .int .i64 p0, .int .i64 p1] : Array Value)[i]? := fun i => G0.out.cell i
  cases x1 with
  | false =>
    go_wp2_with fail
    (with_reducible refine (K1.out _ b0.out).mono ?_)
    rintro e w2 ⟨rfl, hb⟩
    have I2 := Lib.hid (I0.out.below hb I0.out.lt)
    have B2 := Lib.hid (B0.out.below hb B0.out.lt)
    have G2 := Lib.hid (G0.out.below hb G0.out.lt)
    have b2 := Lib.hid (b0.out.trans (hb.mono b0.out.size))
    clear hb I0 B0 G0 b0 yI yB yG
    go_wp2
    go_ret
    exact ⟨rfl, b2.out⟩
  | true =>
    go_wp2_with fail
    (with_reducible refine (K1.out _ b0.out).mono ?_)
    rintro e w2 ⟨rfl, hb⟩
    have I2 := Lib.hid (I0.out.below hb I0.out.lt)
    have B2 := Lib.hid (B0.out.below hb B0.out.lt)
    have G2 := Lib.hid (G0.out.below hb G0.out.lt)
    have b2 := Lib.hid (b0.out.trans (hb.mono b0.out.size))
    clear hb I0 B0 G0 b0 yI yB yG
    have yB : ∀ i, w2.cell? ⟨w.heap.size + 1, i, none⟩ = (#[txb body, .int .i64 limb, .int .i64 lo, .int .i64 hi, .int .i64 hs, .int .i64 by_, .int .i64 hor, .int .i64 eye, .int .i64 shore, .int .i64 temp, .int .i64 press] : Array Value)[i]? := fun i => B2.out.cell i
    have yG : ∀ i, w2.cell? ⟨w.heap.size + 1 + 1, i, none⟩ = (#[.int .i64 g0, .int .i64 g1, .int .i64 g2, .int .i64 g3, .int .i64 e0, .int .i64 e1, .int .i64 p0, .int .i64 p1] : Array Value)[i]? := fun i => G2.out.cell i
    cases x2 with
    | false =>
      go_wp2_with fail
      (with_reducible refine (K2.out _).mono ?_)
      rintro e w3 ⟨rfl, hb⟩
      have I3 := Lib.hid (I2.out.below hb I2.out.lt)
      have B3 := Lib.hid (B2.out.below hb B2.out.lt)
      have G3 := Lib.hid (G2.out.below hb G2.out.lt)
      have b3 := Lib.hid (b2.out.trans (hb.mono b2.out.size))
      clear hb I2 B2 G2 b2 yB yG
      go_wp2
      go_ret
      exact ⟨rfl, b3.out⟩
    | true =>
      go_wp2_with fail
      (with_reducible refine (K2.out _).mono ?_)
      rintro e w3 ⟨rfl, hb⟩
      have I3 := Lib.hid (I2.out.below hb I2.out.lt)
      have B3 := Lib.hid (B2.out.below hb B2.out.lt)
      have G3 := Lib.hid (G2.out.below hb G2.out.lt)
      have b3 := Lib.hid (b2.out.trans (hb.mono b2.out.size))
      clear hb I2 B2 G2 b2 yB yG
      have yG : ∀ i, w3.cell? ⟨w.heap.size + 1 + 1, i, none⟩ = (#[.int .i64 g0, .int .i64 g1, .int .i64 g2, .int .i64 g3, .int .i64 e0, .int .i64 e1, .int .i64 p0, .int .i64 p1] : Array Value)[i]? := fun i => G3.out.cell i
      cases x3 with
      | false =>
        go_wp2_with fail
        (with_reducible refine (K3.out _).mono ?_)
        rintro e w4 ⟨rfl, hb⟩
        have I4 := Lib.hid (I3.out.below hb I3.out.lt)
        have B4 := Lib.hid (B3.out.below hb B3.out.lt)
        have G4 := Lib.hid (G3.out.below hb G3.out.lt)
        have b4 := Lib.hid (b3.out.trans (hb.mono b3.out.size))
        clear hb I3 B3 G3 b3 yG
        go_wp2
        go_ret
        exact ⟨rfl, b4.out⟩
      | true =>
        go_wp2_with fail
        (with_reducible refine (K3.out _).mono ?_)
        rintro e w4 ⟨rfl, hb⟩
        have I4 := Lib.hid (I3.out.below hb I3.out.lt)
        have B4 := Lib.hid (B3.out.below hb B3.out.lt)
        have G4 := Lib.hid (G3.out.below hb G3.out.lt)
        have b4 := Lib.hid (b3.out.trans (hb.mono b3.out.size))
        clear hb I3 B3 G3 b3 yG
        have yG : ∀ i, w4.cell? ⟨w.heap.size + 1 + 1, i, none⟩ = (#[.int .i64 g0, .int .i64 g1, .int .i64 g2, .int .i64 g3, .int .i64 e0, .int .i64 e1, .int .i64 p0, .int .i64 p1] : Array Value)[i]? := fun i => G4.out.cell i
        cases x4
        all_goals
          go_wp2_with fail
          (with_reducible refine (K4.out _).mono ?_)
          rintro e w5 ⟨rfl, hb⟩
          have I5 := Lib.hid (I4.out.below hb I4.out.lt)
          have B5 := Lib.hid (B4.out.below hb B4.out.lt)
          have G5 := Lib.hid (G4.out.below hb G4.out.lt)
          have b5 := Lib.hid (b4.out.trans (hb.mono b4.out.size))
          clear hb I4 B4 G4 b4 yG
          go_wp2
          go_ret
          exact ⟨rfl, b5.out⟩
/-- the dip of a sight -/
def depA (s : Sgt) : Int := if s.hor = 1 then (dpL s.eye.toNat : Int) else if s.hor = 3 then shL s.eye s.shore else 0
def depB (s : Sgt) : Int := if s.hor = 1 then (dpH s.eye.toNat : Int) else if s.hor = 3 then shH s.eye s.shore else 0
theorem si_shore {s : Sgt} (h : siS s = true) (h3 : s.hor = 3) : 1 ≤ s.shore ∧ s.shore ≤ 100000 := by
  unfold siS siB at h
  simp only [Bool.and_eq_true] at h
  have := h.2
  unfold shB at this
  rw [if_pos h3, frB_iff] at this
  exact this
set_option maxHeartbeats 8000000 in
set_option maxRecDepth 100000 in
theorem dep_any (g : Nat) (s : Sgt) (w : World) (hg : Blk w g 86 #[.int .i64 0]) (hv : siS s = true) :
    Calls Tryz.prog 55 #[.pointer (some ⟨g, 0, none⟩), sgv s.body s.limb s.lo s.hi s.hs s.by_ s.hor s.eye s.shore s.temp s.press] w fun e w' => (e = .returned (.agg #[.int .i64 (depA s), .int .i64 (depB s)]) ∧ 0 ≤ depA s ∧ depA s ≤ depB s ∧ depB s ≤ 186000000) ∧ Below w.heap.size w w' := by
  have k := si_ok hv
  have hsh := si_shore hv
  have ke := k.eye
  have kh := k.hor
  have KC := Lib.hid (fun (a b : Int) W h => arcC_any g a b W h)
  have h123 : s.hor = 1 ∨ s.hor = 2 ∨ s.hor = 3 := by omega
  rcases h123 with h | h | h
  · have hA : depA s = (dpL s.eye.toNat : Int) := if_pos h
    have hB : depB s = (dpH s.eye.toNat : Int) := if_pos h
    rw [hA, hB]
    have KD := Lib.hid (fun W => Dip_any s.eye.toNat W (by omega))
    rw [show ((s.eye.toNat : Nat) : Int) = s.eye by omega] at KD
    have hdh : dpH s.eye.toNat = if dpL s.eye.toNat * dpL s.eye.toNat = 30976 * s.eye.toNat then dpL s.eye.toNat else dpL s.eye.toNat + 1 := rfl
    have hd2 : dpL s.eye.toNat ≤ dpH s.eye.toNat ∧ dpH s.eye.toNat ≤ dpL s.eye.toNat + 1 := by rw [hdh]; split <;> omega
    have HD := Lib.hid hd2
    clear hA hB hdh hd2 hv k hsh
    generalize dpL s.eye.toNat = dl at *
    generalize dpH s.eye.toNat = dh at *
    obtain ⟨body, limb, lo, hi, hs, by_, hor, eye, shore, temp, press⟩ := s
    simp only [] at h ke kh KD ⊢
    subst h
    have B0 := Lib.hid ((Blk.new w 25 #[txb body, .int .i64 limb, .int .i64 lo, .int .i64 hi, .int .i64 hs, .int .i64 by_, .int .i64 1, .int .i64 eye, .int .i64 shore, .int .i64 temp, .int .i64 press]).alloc (.cells #[.int .i64 0, .int .i64 0] 41))
    have R0 := Lib.hid (Blk.new (w.alloc (.cells #[txb body, .int .i64 limb, .int .i64 lo, .int .i64 hi, .int .i64 hs, .int .i64 by_, .int .i64 1, .int .i64 eye, .int .i64 shore, .int .i64 temp, .int .i64 press] 25)) 41 #[.int .i64 0, .int .i64 0])
    simp only [World.size_alloc] at R0
    have b0 := Lib.hid (((Below.refl w.heap.size w).alloc (Nat.le_refl _) (.cells #[txb body, .int .i64 limb, .int .i64 lo, .int .i64 hi, .int .i64 hs, .int .i64 by_, .int .i64 1, .int .i64 eye, .int .i64 shore, .int .i64 temp, .int .i64 press] 25)).alloc (by simp) (.cells #[.int .i64 0, .int .i64 0] 41))
    have G0 := Lib.hid (((hg).alloc (.cells #[txb body, .int .i64 limb, .int .i64 lo, .int .i64 hi, .int .i64 hs, .int .i64 by_, .int .i64 1, .int .i64 eye, .int .i64 shore, .int .i64 temp, .int .i64 press] 25)).alloc (.cells #[.int .i64 0, .int .i64 0] 41))
    clear hg
    go_enter Tryz.func55, Tryz.ntmps55
    go_upto_region 1 with fail
    generalize ((w.alloc (.cells #[txb body, .int .i64 limb, .int .i64 lo, .int .i64 hi, .int .i64 hs, .int .i64 by_, .int .i64 1, .int .i64 eye, .int .i64 shore, .int .i64 temp, .int .i64 press] 25)).alloc (.cells #[.int .i64 0, .int .i64 0] 41)) = w1 at *
    have yB : ∀ i, w1.cell? ⟨w.heap.size, i, none⟩ = (#[txb body, .int .i64 limb, .int .i64 lo, .int .i64 hi, .int .i64 hs, .int .i64 by_, .int .i64 1, .int .i64 eye, .int .i64 shore, .int .i64 temp, .int .i64 press] : Array Value)[i]? := fun i => B0.out.cell i
    go_wp2_with fail
    (with_reducible refine (KD.out _).mono ?_)
    rintro e w2 ⟨⟨rfl, hle⟩, hb⟩
    have B2 := Lib.hid (B0.out.below hb B0.out.lt)
    have R2 := Lib.hid (R0.out.below hb R0.out.lt)
    have G2 := Lib.hid (G0.out.below hb G0.out.lt)
    have b2 := Lib.hid (b0.out.trans (hb.mono b0.out.size))
    clear hb B0 R0 G0 b0 yB
    have HLE := Lib.hid hle
    clear hle
    go_wp2_with fail
    (with_reducible refine (KC.out _ _ _ G2.out).mono ?_)
    rintro e w3 ⟨rfl, hb⟩
    have B3 := Lib.hid (B2.out.below hb B2.out.lt)
    have R3 := Lib.hid (R2.out.below hb R2.out.lt)
    have G3 := Lib.hid (G2.out.below hb G2.out.lt)
    have b3 := Lib.hid (b2.out.trans (hb.mono b2.out.size))
    clear hb B2 R2 G2 b2
    have yR : ∀ i, w3.cell? ⟨w.heap.size + 1, i, none⟩ = (#[.int .i64 0, .int .i64 0] : Array Value)[i]? := fun i => R3.out.cell i
    have zR : ∀ i, w3.frozen? ⟨w.heap.size + 1, i, none⟩ = false := fun i => R3.out.frozen i
    go_wp2
    refine bodyPost_ret (v := .agg #[.int .i64 (dl : Int), .int .i64 (dh : Int)]) (by simp [results, Tryz.results55, go_sem, *]; done) rfl ⟨⟨rfl, by omega, by have := HD.out; omega, by have := HD.out; have := HLE.out; omega⟩, ?_⟩
    exact (b3.out.setCell (by first | exact Nat.le_refl _ | (simp; done) | (simp; omega) | (simp only []; omega)) _).setCell (by first | exact Nat.le_refl _ | (simp; done) | (simp; omega) | (simp only []; omega)) _
  · have hA : depA s = 0 := by unfold depA; rw [if_neg (by omega), if_neg (by omega)]
    have hB : depB s = 0 := by unfold depB; rw [if_neg (by omega), if_neg (by omega)]
    rw [hA, hB]
    clear hA hB hv k hsh
    obtain ⟨body, limb, lo, hi, hs, by_, hor, eye, shore, temp, press⟩ := s
    simp only [] at h ke kh ⊢
    subst h
    have B0 := Lib.hid ((Blk.new w 25 #[txb body, .int .i64 limb, .int .i64 lo, .int .i64 hi, .int .i64 hs, .int .i64 by_, .int .i64 2, .int .i64 eye, .int .i64 shore, .int .i64 temp, .int .i64 press]).alloc (.cells #[.int .i64 0, .int .i64 0] 41))
    have R0 := Lib.hid (Blk.new (w.alloc (.cells #[txb body, .int .i64 limb, .int .i64 lo, .int .i64 hi, .int .i64 hs, .int .i64 by_, .int .i64 2, .int .i64 eye, .int .i64 shore, .int .i64 temp, .int .i64 press] 25)) 41 #[.int .i64 0, .int .i64 0])
    simp only [World.size_alloc] at R0
    have b0 := Lib.hid (((Below.refl w.heap.size w).alloc (Nat.le_refl _) (.cells #[txb body, .int .i64 limb, .int .i64 lo, .int .i64 hi, .int .i64 hs, .int .i64 by_, .int .i64 2, .int .i64 eye, .int .i64 shore, .int .i64 temp, .int .i64 press] 25)).alloc (by simp) (.cells #[.int .i64 0, .int .i64 0] 41))
    have G0 := Lib.hid (((hg).alloc (.cells #[txb body, .int .i64 limb, .int .i64 lo, .int .i64 hi, .int .i64 hs, .int .i64 by_, .int .i64 2, .int .i64 eye, .int .i64 shore, .int .i64 temp, .int .i64 press] 25)).alloc (.cells #[.int .i64 0, .int .i64 0] 41))
    clear hg
    go_enter Tryz.func55, Tryz.ntmps55
    go_upto_region 1 with fail
    generalize ((w.alloc (.cells #[txb body, .int .i64 limb, .int .i64 lo, .int .i64 hi, .int .i64 hs, .int .i64 by_, .int .i64 2, .int .i64 eye, .int .i64 shore, .int .i64 temp, .int .i64 press] 25)).alloc (.cells #[.int .i64 0, .int .i64 0] 41)) = w1 at *
    have yB : ∀ i, w1.cell? ⟨w.heap.size, i, none⟩ = (#[txb body, .int .i64 limb, .int .i64 lo, .int .i64 hi, .int .i64 hs, .int .i64 by_, .int .i64 2, .int .i64 eye, .int .i64 shore, .int .i64 temp, .int .i64 press] : Array Value)[i]? := fun i => B0.out.cell i
    have yR : ∀ i, w1.cell? ⟨w.heap.size + 1, i, none⟩ = (#[.int .i64 0, .int .i64 0] : Array Value)[i]? := fun i => R0.out.cell i
    have zR : ∀ i, w1.frozen? ⟨w.heap.size + 1, i, none⟩ = false := fun i => R0.out.frozen i
    go_wp2
    refine bodyPost_ret (v := .agg #[.int .i64 0, .int .i64 0]) (by simp [results, Tryz.results55, go_sem, *]; done) rfl ⟨⟨rfl, by omega, by omega, by omega⟩, ?_⟩
    exact (b0.out.setCell (by first | exact Nat.le_refl _ | (simp; done) | (simp; omega) | (simp only []; omega)) _).setCell (by first | exact Nat.le_refl _ | (simp; done) | (simp; omega) | (simp only []; omega)) _
  · have hA : depA s = shL s.eye s.shore := by unfold depA; rw [if_neg (by omega), if_pos h]
    have hB : depB s = shH s.eye s.shore := by unfold depB; rw [if_neg (by omega), if_pos h]
    rw [hA, hB]
    have hs2 := hsh h
    have KD := Lib.hid (fun W => Short_any s.eye s.shore W ke.1 ke.2 hs2.1 hs2.2)
    have HD := Lib.hid (sh_bd ke.1 ke.2 hs2.1 hs2.2)
    clear hA hB hv k hsh
    generalize shL s.eye s.shore = dl at *
    generalize shH s.eye s.shore = dh at *
    obtain ⟨body, limb, lo, hi, hs, by_, hor, eye, shore, temp, press⟩ := s
    simp only [] at h ke kh KD hs2 ⊢
    subst h
    have B0 := Lib.hid ((Blk.new w 25 #[txb body, .int .i64 limb, .int .i64 lo, .int .i64 hi, .int .i64 hs, .int .i64 by_, .int .i64 3, .int .i64 eye, .int .i64 shore, .int .i64 temp, .int .i64 press]).alloc (.cells #[.int .i64 0, .int .i64 0] 41))
    have R0 := Lib.hid (Blk.new (w.alloc (.cells #[txb body, .int .i64 limb, .int .i64 lo, .int .i64 hi, .int .i64 hs, .int .i64 by_, .int .i64 3, .int .i64 eye, .int .i64 shore, .int .i64 temp, .int .i64 press] 25)) 41 #[.int .i64 0, .int .i64 0])
    simp only [World.size_alloc] at R0
    have b0 := Lib.hid (((Below.refl w.heap.size w).alloc (Nat.le_refl _) (.cells #[txb body, .int .i64 limb, .int .i64 lo, .int .i64 hi, .int .i64 hs, .int .i64 by_, .int .i64 3, .int .i64 eye, .int .i64 shore, .int .i64 temp, .int .i64 press] 25)).alloc (by simp) (.cells #[.int .i64 0, .int .i64 0] 41))
    have G0 := Lib.hid (((hg).alloc (.cells #[txb body, .int .i64 limb, .int .i64 lo, .int .i64 hi, .int .i64 hs, .int .i64 by_, .int .i64 3, .int .i64 eye, .int .i64 shore, .int .i64 temp, .int .i64 press] 25)).alloc (.cells #[.int .i64 0, .int .i64 0] 41))
    clear hg
    go_enter Tryz.func55, Tryz.ntmps55
    go_upto_region 1 with fail
    generalize ((w.alloc (.cells #[txb body, .int .i64 limb, .int .i64 lo, .int .i64 hi, .int .i64 hs, .int .i64 by_, .int .i64 3, .int .i64 eye, .int .i64 shore, .int .i64 temp, .int .i64 press] 25)).alloc (.cells #[.int .i64 0, .int .i64 0] 41)) = w1 at *
    have yB : ∀ i, w1.cell? ⟨w.heap.size, i, none⟩ = (#[txb body, .int .i64 limb, .int .i64 lo, .int .i64 hi, .int .i64 hs, .int .i64 by_, .int .i64 3, .int .i64 eye, .int .i64 shore, .int .i64 temp, .int .i64 press] : Array Value)[i]? := fun i => B0.out.cell i
    go_wp2_with fail
    (with_reducible refine (KD.out _).mono ?_)
    rintro e w2 ⟨rfl, hb⟩
    have B2 := Lib.hid (B0.out.below hb B0.out.lt)
    have R2 := Lib.hid (R0.out.below hb R0.out.lt)
    have G2 := Lib.hid (G0.out.below hb G0.out.lt)
    have b2 := Lib.hid (b0.out.trans (hb.mono b0.out.size))
    clear hb B0 R0 G0 b0 yB
    go_wp2_with fail
    (with_reducible refine (KC.out _ _ _ G2.out).mono ?_)
    rintro e w3 ⟨rfl, hb⟩
    have B3 := Lib.hid (B2.out.below hb B2.out.lt)
    have R3 := Lib.hid (R2.out.below hb R2.out.lt)
    have G3 := Lib.hid (G2.out.below hb G2.out.lt)
    have b3 := Lib.hid (b2.out.trans (hb.mono b2.out.size))
    clear hb B2 R2 G2 b2
    have yR : ∀ i, w3.cell? ⟨w.heap.size + 1, i, none⟩ = (#[.int .i64 0, .int .i64 0] : Array Value)[i]? := fun i => R3.out.cell i
    have zR : ∀ i, w3.frozen? ⟨w.heap.size + 1, i, none⟩ = false := fun i => R3.out.frozen i
    go_wp2
    refine bodyPost_ret (v := .agg #[.int .i64 dl, .int .i64 dh]) (by simp [results, Tryz.results55, go_sem, *]; done) rfl ⟨⟨rfl, HD.out⟩, ?_⟩
    exact (b3.out.setCell (by first | exact Nat.le_refl _ | (simp; done) | (simp; omega) | (simp only []; omega)) _).setCell (by first | exact Nat.le_refl _ | (simp; done) | (simp; omega) | (simp only []; omega)) _
end Go.Proofs.YtbpnacacnncopaaGreatDoor
namespace Go.Proofs.YtbpnacacnncopaaGreatDoor.Trig
theorem hi_upF {n : Int} (h0 : 0 ≤ n) (h1 : n ≤ 5400000) : hiB n = upF n := by
  have e : sth n = false := by unfold sth; rw [decide_eq_false_iff_not]; omega
  have q : qrt n = n := by unfold qrt; omega
  unfold hiB; rw [e, q]; rfl
theorem hi_sF {n : Int} (h0 : 0 < n) (h1 : n ≤ 5400000) : hiB (-n) = - sF n := by
  have e : sth (-n) = true := by unfold sth; rw [decide_eq_true_eq]; omega
  have q : qrt (-n) = n := by unfold qrt; omega
  unfold hiB; rw [e, q]; rfl
theorem hiB_neg {n : Int} (h0 : -5400000 ≤ n) (h1 : n ≤ 5400000) : hiB (-n) = - loB n := by
  rcases Int.lt_trichotomy n 0 with g | g | g
  · have h2 := low_upF (n := -n) (by omega) (by omega)
    rw [Int.neg_neg] at h2
    rw [h2, hi_upF (by omega) (by omega)]; omega
  · subst g; decide +kernel
  · rw [hi_sF g h1, low_sF (by omega) h1]
theorem hiB_mono {a b : Int} (h0 : -5400000 ≤ a) (h : a ≤ b) (h1 : b ≤ 5400000) : hiB a ≤ hiB b := by
  have h2 := loB_mono (a := -b) (b := -a) (by omega) (by omega) (by omega)
  have ea := hiB_neg (n := -a) (by omega) (by omega)
  have eb := hiB_neg (n := -b) (by omega) (by omega)
  rw [Int.neg_neg] at ea eb
  omega
end Go.Proofs.YtbpnacacnncopaaGreatDoor.Trig
namespace Go.Proofs.YtbpnacacnncopaaGreatDoor.Trig
theorem sth_turn (n k : Int) : sth (n + 21600000 * k) = sth n := by unfold sth; rw [show (n + 21600000 * k) % 21600000 = n % 21600000 by omega]
theorem qrt_turn (n k : Int) : qrt (n + 21600000 * k) = qrt n := by unfold qrt; rw [show (n + 21600000 * k) % 21600000 = n % 21600000 by omega]
theorem lo_turn (n k : Int) : loB (n + 21600000 * k) = loB n := by unfold loB; rw [sth_turn, qrt_turn]
theorem hi_turn (n k : Int) : hiB (n + 21600000 * k) = hiB n := by unfold hiB; rw [sth_turn, qrt_turn]
theorem sth_mirror (n : Int) : sth (10800000 - n) = sth n := by
  unfold sth
  rw [decide_eq_decide]
  omega
theorem qrt_mirror (n : Int) : qrt (10800000 - n) = qrt n := by
  unfold qrt
  omega
theorem lo_mirror (n : Int) : loB (10800000 - n) = loB n := by unfold loB; rw [sth_mirror, qrt_mirror]
theorem hi_mirror (n : Int) : hiB (10800000 - n) = hiB n := by unfold hiB; rw [sth_mirror, qrt_mirror]
/-- the enclosure of the sine over an arc has the sine at each of its angles -/
theorem en_has {lo n hi : Int} (h1 : lo ≤ n) (h2 : n ≤ hi) : enLo lo hi ≤ loB n ∧ hiB n ≤ enHi lo hi := by
  have hb := hi_le n
  constructor
  · unfold enLo
    split
    · exact hb.1
    · rename_i hm
      unfold metB at hm
      rw [decide_eq_true_eq] at hm
      obtain ⟨k, hk⟩ : ∃ k, (lo + 5400000) / 21600000 = k := ⟨_, rfl⟩
      have e : ∀ x, loB x = loB (x - 21600000 * k) := fun x => by
        have := lo_turn (x - 21600000 * k) k
        rw [show x - 21600000 * k + 21600000 * k = x by omega] at this
        exact this
      have a1 : -5400000 < lo - 21600000 * k := by omega
      have a2 : hi - 21600000 * k < 16200000 := by omega
      rw [e n, e lo, e hi]
      by_cases c : n - 21600000 * k ≤ 5400000
      · have := loB_mono (a := lo - 21600000 * k) (b := n - 21600000 * k) (by omega) (by omega) c
        omega
      · have := loB_mono (a := 10800000 - (hi - 21600000 * k)) (b := 10800000 - (n - 21600000 * k)) (by omega) (by omega) (by omega)
        rw [lo_mirror, lo_mirror] at this
        omega
  · unfold enHi
    split
    · exact hb.2.2.2.1
    · rename_i hm
      unfold metB at hm
      rw [decide_eq_true_eq] at hm
      obtain ⟨k, hk⟩ : ∃ k, (lo + 16200000) / 21600000 = k := ⟨_, rfl⟩
      have e : ∀ x, hiB x = hiB (x - 21600000 * k) := fun x => by
        have := hi_turn (x - 21600000 * k) k
        rw [show x - 21600000 * k + 21600000 * k = x by omega] at this
        exact this
      have e2 : ∀ x, hiB x = hiB (-10800000 - x) := fun x => by
        have h3 := hi_mirror x
        have h4 := hi_turn (-10800000 - x) 1
        rw [show -10800000 - x + 21600000 * 1 = 10800000 - x by omega] at h4
        rw [← h3, h4]
      have a1 : -16200000 < lo - 21600000 * k := by omega
      have a2 : hi - 21600000 * k < 5400000 := by omega
      rw [e n, e lo, e hi]
      by_cases c : -5400000 ≤ n - 21600000 * k
      · have := hiB_mono (a := n - 21600000 * k) (b := hi - 21600000 * k) c (by omega) (by omega)
        omega
      · have := hiB_mono (a := -10800000 - (n - 21600000 * k)) (b := -10800000 - (lo - 21600000 * k)) (by omega) (by omega) (by omega)
        rw [← e2, ← e2] at this
        omega
/-- less of an arc: a narrower enclosure -/
theorem en_sub {lo lo' hi' hi : Int} (h1 : lo ≤ lo') (h2 : lo' ≤ hi') (h3 : hi' ≤ hi) : enLo lo hi ≤ enLo lo' hi' ∧ enHi lo' hi' ≤ enHi lo hi := by
  constructor
  · by_cases hm : metB lo' hi' 16200000 = true
    · have hm2 : metB lo hi 16200000 = true := by unfold metB at *; rw [decide_eq_true_eq] at *; omega
      unfold enLo
      rw [if_pos hm, if_pos hm2]
      exact Int.le_refl _
    · have a := (en_has (lo := lo) (n := lo') (hi := hi) h1 (by omega)).1
      have b := (en_has (lo := lo) (n := hi') (hi := hi) (by omega) h3).1
      conv => rhs; unfold enLo
      rw [if_neg hm]
      omega
  · by_cases hm : metB lo' hi' 5400000 = true
    · have hm2 : metB lo hi 5400000 = true := by unfold metB at *; rw [decide_eq_true_eq] at *; omega
      unfold enHi
      rw [if_pos hm, if_pos hm2]
      exact Int.le_refl _
    · have a := (en_has (lo := lo) (n := lo') (hi := hi) h1 (by omega)).2
      have b := (en_has (lo := lo) (n := hi') (hi := hi) (by omega) h3).2
      conv => lhs; unfold enHi
      rw [if_neg hm]
      omega
end Go.Proofs.YtbpnacacnncopaaGreatDoor.Trig
namespace Go.Proofs.YtbpnacacnncopaaGreatDoor
open Trig
theorem btH_ceil (u : Int) (h : 0 < u + 264000) : btH u = u + -(-26316000000 / (u + 264000)) := by
  unfold btH btL
  obtain ⟨x, hx⟩ : ∃ x, u + 264000 = x := ⟨_, rfl⟩
  rw [hx] at h ⊢
  have h1 := Int.mul_ediv_add_emod 26316000000 x
  have h2 := Int.emod_nonneg 26316000000 (show x ≠ 0 by omega)
  have h3 := Int.emod_lt_of_pos 26316000000 h
  obtain ⟨q, hq⟩ : ∃ q, (26316000000 : Int) / x = q := ⟨_, rfl⟩
  obtain ⟨r, hr⟩ : ∃ r, (26316000000 : Int) % x = r := ⟨_, rfl⟩
  rw [hq, hr] at h1
  rw [hr] at h2 h3
  rw [hq, hr]
  by_cases h0 : r = 0
  · rw [if_pos h0]
    have : (-26316000000 : Int) / x = -q := ((Int.ediv_emod_unique (a := -26316000000) (q := -q) (r := 0) h).2 ⟨by rw [Int.mul_neg]; omega, by omega, h⟩).1
    rw [this]
    omega
  · rw [if_neg h0]
    have : (-26316000000 : Int) / x = -q - 1 := ((Int.ediv_emod_unique (a := -26316000000) (q := -q - 1) (r := x - r) h).2 ⟨by rw [Int.mul_sub, Int.mul_neg]; omega, by omega, by omega⟩).1
    rw [this]
    omega
theorem bt_step {u : Int} (h0 : -60000 ≤ u) (h1 : u ≤ 5400000) : btL u ≤ btL (u + 1) ∧ btH u ≤ btH (u + 1) := by
  rw [btH_ceil u (by omega), btH_ceil (u + 1) (by omega)]
  unfold btL
  obtain ⟨x, hx⟩ : ∃ x, u + 264000 = x := ⟨_, rfl⟩
  rw [show u + 1 + 264000 = x + 1 by omega, hx]
  have hx0 : 204000 ≤ x := by omega
  obtain ⟨q, hq⟩ : ∃ q, (26316000000 : Int) / x = q := ⟨_, rfl⟩
  obtain ⟨r, hr⟩ : ∃ r, -((-26316000000 : Int) / (x + 1)) = r := ⟨_, rfl⟩
  have q1 := Int.mul_ediv_self_le (x := 26316000000) (k := x) (by omega)
  rw [hq] at q1
  have q2 : q ≤ 129000 := by
    rw [← hq]
    have := Int.ediv_lt_of_lt_mul (a := 26316000000) (b := 129001) (c := x) (by omega) (by omega)
    omega
  have a1 : q - 1 ≤ 26316000000 / (x + 1) := (Int.le_ediv_iff_mul_le (by omega)).2 (by
    rw [Int.sub_mul, Int.mul_add, Int.mul_comm q x]
    omega)
  have r1 := Int.mul_ediv_self_le (x := -26316000000) (k := x + 1) (by omega)
  have r2 : r ≤ 129001 := by
    have := (Int.le_ediv_iff_mul_le (a := -129001) (b := -26316000000) (c := x + 1) (by omega)).2 (by omega)
    omega
  have a2 : -(r + 1) ≤ -26316000000 / x := (Int.le_ediv_iff_mul_le (by omega)).2 (by
    have e : -26316000000 / (x + 1) = -r := by omega
    rw [e, Int.add_mul, Int.mul_neg] at r1
    rw [Int.neg_mul, Int.add_mul, Int.mul_comm r x]
    omega)
  omega
theorem bt_mono {u v : Int} (h0 : -60000 ≤ u) (h : u ≤ v) (h1 : v ≤ 5400000) : btL u ≤ btL v ∧ btH u ≤ btH v := by
  obtain ⟨k, rfl⟩ : ∃ k : Nat, v = u + k := ⟨(v - u).toNat, by omega⟩
  clear h
  induction k with
  | zero => simp
  | succ k ih =>
    have i := ih (by omega)
    have s := bt_step (u := u + k) (by omega) (by omega)
    rw [show u + ((k + 1 : Nat) : Int) = u + k + 1 by omega]
    omega
theorem hiB_up {a b : Int} (h0 : -5400000 ≤ a) (h : a ≤ b) (h1 : b ≤ 5400000) : hiB a ≤ hiB b := by
  have step : ∀ n : Int, -5400000 ≤ n → n + 1 ≤ 5400000 → hiB n ≤ hiB (n + 1) := fun n n0 n1 => by
    rcases Int.lt_or_le n 0 with hn | hn
    · have e1 : hiB n = - sF (-n) := by
        have : sth n = true := by unfold sth; rw [decide_eq_true_eq]; omega
        have hq : qrt n = -n := by unfold qrt; omega
        unfold hiB
        rw [this, if_pos rfl, hq]
      rcases Int.lt_or_le (n + 1) 0 with hm | hm
      · have e2 : hiB (n + 1) = - sF (-(n + 1)) := by
          have : sth (n + 1) = true := by unfold sth; rw [decide_eq_true_eq]; omega
          have hq : qrt (n + 1) = -(n + 1) := by unfold qrt; omega
          unfold hiB
          rw [this, if_pos rfl, hq]
        rw [e1, e2]
        have := sF_mono (a := -(n + 1)) (b := -n) (by omega) (by omega) (by omega)
        omega
      · obtain rfl : n = -1 := by omega
        have := sF_bd (q := 1) (by omega) (by omega)
        have h2 := (hi_le 0).2.2.2.2
        have h3 : loB 0 = 0 := by decide +kernel
        rw [e1]
        show - sF 1 ≤ hiB 0
        omega
    · rw [half_hi hn (by omega), half_hi (by omega) (by omega), half_qrt hn (by omega), half_qrt (by omega) (by omega), if_neg (by omega), if_neg (by omega)]
      exact upF_mono hn (by omega) n1
  obtain ⟨k, rfl⟩ : ∃ k : Nat, b = a + k := ⟨(b - a).toNat, by omega⟩
  clear h
  induction k with
  | zero => simp
  | succ k ih =>
    have i := ih (by omega)
    have s := step (a + k) (by omega) (by omega)
    rw [show a + ((k + 1 : Nat) : Int) = a + k + 1 by omega]
    omega
theorem met_no {lo hi n : Int} (h : ∀ k : Int, ¬ (lo ≤ n + 21600000 * k ∧ n + 21600000 * k ≤ hi)) : metB lo hi n = false := by
  unfold metB
  rw [decide_eq_false_iff_not]
  intro hh
  refine h (-((n - lo) / 21600000)) ⟨?_, ?_⟩ <;> omega
theorem cos_ends {u : Int} (h0 : -60000 ≤ u) (h1 : u ≤ 5400000) : cLo u = loB (5400000 - btH u) ∧ cHi u = hiB (5400000 - btL u) := by
  obtain ⟨a, b, c, d⟩ := bt_bd h0 h1
  have m1 : ∀ n, loB (n + 5400000) = loB (5400000 - n) := fun n => by rw [← lo_mirror (5400000 - n)]; congr 1; omega
  have m2 : ∀ n, hiB (n + 5400000) = hiB (5400000 - n) := fun n => by rw [← hi_mirror (5400000 - n)]; congr 1; omega
  unfold cLo cHi enLo enHi
  rw [met_no (fun k => by omega), met_no (fun k => by omega), if_neg (by simp), if_neg (by simp), m1, m1, m2, m2]
  have e1 := loB_mono (a := 5400000 - btH u) (b := 5400000 - btL u) (by omega) (by omega) (by omega)
  have e2 := hiB_up (a := 5400000 - btH u) (b := 5400000 - btL u) (by omega) (by omega) (by omega)
  omega
theorem cos_anti {u v : Int} (h0 : -60000 ≤ u) (h : u ≤ v) (h1 : v ≤ 5400000) : cLo v ≤ cLo u ∧ cHi v ≤ cHi u := by
  obtain ⟨a, b⟩ := bt_mono h0 h h1
  obtain ⟨a1, b1, c1, d1⟩ := bt_bd h0 (show u ≤ 5400000 by omega)
  obtain ⟨a2, b2, c2, d2⟩ := bt_bd (show -60000 ≤ v by omega) h1
  obtain ⟨e1, e2⟩ := cos_ends h0 (show u ≤ 5400000 by omega)
  obtain ⟨e3, e4⟩ := cos_ends (show -60000 ≤ v by omega) h1
  rw [e1, e2, e3, e4]
  exact ⟨loB_mono (by omega) (by omega) (by omega), hiB_up (by omega) (by omega) (by omega)⟩
theorem zero_ends : loB 0 = 0 ∧ hiB 0 = 0 := by decide +kernel
/-- below the zenith -/
theorem sin_low {u : Int} (h0 : -60000 ≤ u) (h1 : u ≤ 5400000) (hz : btH u ≤ 5400000) : sLo u = loB (btL u) ∧ sHi u = hiB (btH u) ∧ 0 ≤ cLo u := by
  obtain ⟨a, b, c, d⟩ := bt_bd h0 h1
  obtain ⟨e1, e2⟩ := cos_ends h0 h1
  have hp : hiB 5400000 = 1073741824 := by decide +kernel
  refine ⟨?_, ?_, ?_⟩
  · unfold sLo
    rw [(half_en (by omega) b (by omega)).1]
    have := loB_mono (a := btL u) (b := btH u) (by omega) b (by omega)
    omega
  · unfold sHi
    rw [(half_en (by omega) b (by omega)).2]
    split
    · have : btH u = 5400000 := by omega
      rw [this, hp]
    · have := hiB_up (a := btL u) (b := btH u) (by omega) b (by omega)
      omega
  · rw [e1]
    have := loB_mono (a := 0) (b := 5400000 - btH u) (by omega) (by omega) (by omega)
    rw [zero_ends.1] at this
    exact this
/-- at the zenith and beyond -/
theorem sin_high {u : Int} (h0 : -60000 ≤ u) (h1 : u ≤ 5400000) (hz : 5400000 ≤ btL u) : sLo u = loB (10800000 - btH u) ∧ sHi u = hiB (10800000 - btL u) ∧ cHi u ≤ 0 := by
  obtain ⟨a, b, c, d⟩ := bt_bd h0 h1
  obtain ⟨e1, e2⟩ := cos_ends h0 h1
  have hp : hiB 5400000 = 1073741824 := by decide +kernel
  refine ⟨?_, ?_, ?_⟩
  · unfold sLo
    rw [(half_en (by omega) b (by omega)).1, lo_mirror]
    have := loB_mono (a := 10800000 - btH u) (b := 10800000 - btL u) (by omega) (by omega) (by omega)
    rw [lo_mirror, lo_mirror] at this
    omega
  · unfold sHi
    rw [(half_en (by omega) b (by omega)).2]
    split
    · have : btL u = 5400000 := by omega
      rw [this]
      exact hp.symm
    · have := hiB_up (a := 10800000 - btH u) (b := 10800000 - btL u) (by omega) (by omega) (by omega)
      rw [hi_mirror, hi_mirror] at this
      rw [hi_mirror]
      omega
  · rw [e2]
    have := hiB_up (a := 5400000 - btL u) (b := 0) (by omega) (by omega) (by omega)
    rw [zero_ends.2] at this
    exact this
theorem q_pos {x p q : Int} (hx : 0 ≤ x) (hp : 0 < p) (h : p ≤ q) : x / q ≤ x / p := by
  refine (Int.le_ediv_iff_mul_le hp).2 ?_
  have h1 := Int.mul_ediv_self_le (x := x) (k := q) (by omega)
  have h2 := Int.ediv_nonneg hx (show 0 ≤ q by omega)
  have h3 := Int.mul_le_mul_of_nonneg_left h h2
  rw [Int.mul_comm q] at h1
  omega
theorem q_neg {x p q : Int} (hx : x ≤ 0) (hp : 0 < p) (h : p ≤ q) : x / p ≤ x / q := by
  refine (Int.le_ediv_iff_mul_le (by omega)).2 ?_
  have h1 := Int.mul_ediv_self_le (x := x) (k := p) (by omega)
  have h2 : x / p ≤ 0 := by
    have := Int.ediv_le_ediv hp hx
    simpa using this
  have h3 := Int.mul_le_mul_of_nonneg_left h (show 0 ≤ -(x / p) by omega)
  rw [Int.neg_mul, Int.neg_mul] at h3
  rw [Int.mul_comm p] at h1
  omega
theorem o_low {u : Int} (h0 : -60000 ≤ u) (h1 : u ≤ 5400000) (hz : btH u ≤ 5400000) : oLo u = cLo u * 1000 / sHi u ∧ oHi u = -(-(cHi u * 1000) / sLo u) := by
  obtain ⟨-, -, c0⟩ := sin_low h0 h1 hz
  obtain ⟨s0, s1, s2⟩ := sLo_bd h0 h1
  obtain ⟨-, c1, c2⟩ := cLo_bd u
  have a1 := q_pos (x := cLo u * 1000) (p := sLo u) (q := sHi u) (by omega) (by omega) s1
  have a2 := q_pos (x := cHi u * 1000) (p := sLo u) (q := sHi u) (by omega) (by omega) s1
  have a3 := Int.ediv_le_ediv (a := cLo u * 1000) (b := cHi u * 1000) (c := sHi u) (by omega) (by omega)
  have b1 := q_neg (x := -(cLo u * 1000)) (p := sLo u) (q := sHi u) (by omega) (by omega) s1
  have b2 := q_neg (x := -(cHi u * 1000)) (p := sLo u) (q := sHi u) (by omega) (by omega) s1
  have b3 := Int.ediv_le_ediv (a := -(cHi u * 1000)) (b := -(cLo u * 1000)) (c := sLo u) (by omega) (by omega)
  simp only [oLo, oHi, qgA, qgB, loR, hiR]
  omega
theorem o_high {u : Int} (h0 : -60000 ≤ u) (h1 : u ≤ 5400000) (hz : 5400000 ≤ btL u) : oLo u = cLo u * 1000 / sLo u ∧ oHi u = -(-(cHi u * 1000) / sHi u) := by
  obtain ⟨-, -, c0⟩ := sin_high h0 h1 hz
  obtain ⟨s0, s1, s2⟩ := sLo_bd h0 h1
  obtain ⟨-, c1, c2⟩ := cLo_bd u
  have a1 := q_neg (x := cLo u * 1000) (p := sLo u) (q := sHi u) (by omega) (by omega) s1
  have a2 := q_neg (x := cHi u * 1000) (p := sLo u) (q := sHi u) (by omega) (by omega) s1
  have a3 := Int.ediv_le_ediv (a := cLo u * 1000) (b := cHi u * 1000) (c := sLo u) (by omega) (by omega)
  have b1 := q_pos (x := -(cLo u * 1000)) (p := sLo u) (q := sHi u) (by omega) (by omega) s1
  have b2 := q_pos (x := -(cHi u * 1000)) (p := sLo u) (q := sHi u) (by omega) (by omega) s1
  have b3 := Int.ediv_le_ediv (a := -(cHi u * 1000)) (b := -(cLo u * 1000)) (c := sHi u) (by omega) (by omega)
  simp only [oLo, oHi, qgA, qgB, loR, hiR]
  omega
/-- the refraction of a lower altitude is not less -/
theorem o_anti {u v : Int} (h0 : -60000 ≤ u) (h : u ≤ v) (h1 : v ≤ 5400000) : oLo v ≤ oLo u ∧ oHi v ≤ oHi u := by
  have u1 : u ≤ 5400000 := by omega
  have v0 : -60000 ≤ v := by omega
  obtain ⟨m1, m2⟩ := bt_mono h0 h h1
  obtain ⟨a1, a2, a3, a4⟩ := bt_bd h0 u1
  obtain ⟨b1, b2, b3, b4⟩ := bt_bd v0 h1
  obtain ⟨k1, k2⟩ := cos_anti h0 h h1
  obtain ⟨s0, s1, s2⟩ := sLo_bd h0 u1
  obtain ⟨t0, t1, t2⟩ := sLo_bd v0 h1
  obtain ⟨-, c1, -⟩ := cLo_bd u
  obtain ⟨-, d1, -⟩ := cLo_bd v
  rcases Int.lt_or_le (btL u) 5400000 with hu | hu
  · obtain ⟨e1, e2⟩ := o_low h0 u1 (by omega)
    obtain ⟨f1, f2, f3⟩ := sin_low h0 u1 (by omega)
    rcases Int.lt_or_le (btL v) 5400000 with hv | hv
    · obtain ⟨e3, e4⟩ := o_low v0 h1 (by omega)
      obtain ⟨g1, g2, g3⟩ := sin_low v0 h1 (by omega)
      have hs1 : sLo u ≤ sLo v := by rw [f1, g1]; exact loB_mono (by omega) m1 (by omega)
      have hs2 : sHi u ≤ sHi v := by rw [f2, g2]; exact hiB_up (by omega) m2 (by omega)
      rw [e1, e2, e3, e4]
      constructor
      · exact Int.le_trans (Int.ediv_le_ediv (by omega) (by omega)) (q_pos (by omega) (by omega) hs2)
      · have := Int.le_trans (q_neg (x := -(cHi u * 1000)) (p := sLo u) (q := sLo v) (by omega) (by omega) hs1) (Int.ediv_le_ediv (a := -(cHi u * 1000)) (b := -(cHi v * 1000)) (c := sLo v) (by omega) (by omega))
        omega
    · obtain ⟨e3, e4⟩ := o_high v0 h1 hv
      obtain ⟨g1, g2, g3⟩ := sin_high v0 h1 hv
      rw [e1, e2, e3, e4]
      have x1 : cLo v * 1000 / sLo v ≤ 0 := by
        have := Int.ediv_le_ediv (a := cLo v * 1000) (b := 0) (c := sLo v) (by omega) (by omega)
        simpa using this
      have x2 := Int.ediv_nonneg (a := cLo u * 1000) (b := sHi u) (by omega) (by omega)
      have x3 := Int.ediv_nonneg (a := -(cHi v * 1000)) (b := sHi v) (by omega) (by omega)
      have x4 : -(cHi u * 1000) / sLo u ≤ 0 := by
        have := Int.ediv_le_ediv (a := -(cHi u * 1000)) (b := 0) (c := sLo u) (by omega) (by omega)
        simpa using this
      omega
  · obtain ⟨e1, e2⟩ := o_high h0 u1 hu
    obtain ⟨f1, f2, f3⟩ := sin_high h0 u1 hu
    obtain ⟨e3, e4⟩ := o_high v0 h1 (by omega)
    obtain ⟨g1, g2, g3⟩ := sin_high v0 h1 (by omega)
    have hs1 : sLo v ≤ sLo u := by rw [f1, g1]; exact loB_mono (by omega) (by omega) (by omega)
    have hs2 : sHi v ≤ sHi u := by rw [f2, g2]; exact hiB_up (by omega) (by omega) (by omega)
    rw [e1, e2, e3, e4]
    constructor
    · exact Int.le_trans (Int.ediv_le_ediv (by omega) (show cLo v * 1000 ≤ cLo u * 1000 by omega)) (q_neg (by omega) (by omega) hs1)
    · have := Int.le_trans (q_pos (x := -(cHi u * 1000)) (p := sHi v) (q := sHi u) (by omega) (by omega) hs2) (Int.ediv_le_ediv (a := -(cHi u * 1000)) (b := -(cHi v * 1000)) (c := sHi v) (by omega) (by omega))
      omega
theorem rf_bd {lo hi T P : Int} (h0 : -60000 ≤ lo) (h1 : lo ≤ hi) (h2 : hi ≤ 5400000) (t0 : -500 ≤ T) (t1 : T ≤ 600) (p0 : 5000 ≤ P) (p1 : P ≤ 11000) : -100000 ≤ rfL hi T P ∧ rfL hi T P ≤ rfH lo T P ∧ rfH lo T P ≤ 100000 := by
  have a := (o_anti h0 h1 h2).1
  have o1 := o_bd (u := hi) (by omega) h2
  have o2 := o_bd (u := lo) h0 (by omega)
  unfold rfL rfH
  obtain ⟨N, hN⟩ : ∃ N, 283 * P = N := ⟨_, rfl⟩
  obtain ⟨D, hD⟩ : ∃ D, 1010 * (2730 + T) = D := ⟨_, rfl⟩
  rw [hN, hD]
  have m1 := mul_bdN (n := oLo hi) (k := N) (B := 53688) (C := 3113000) (by omega) (by omega) (by omega) (by omega) (by omega)
  have m2 := mul_bdN (n := oHi lo) (k := N) (B := 53688) (C := 3113000) (by omega) (by omega) (by omega) (by omega) (by omega)
  have m3 := Int.mul_le_mul_of_nonneg_right (show oLo hi ≤ oHi lo by omega) (show 0 ≤ N by omega)
  obtain ⟨x, hx⟩ : ∃ x, oLo hi * N = x := ⟨_, rfl⟩
  obtain ⟨y, hy⟩ : ∃ y, oHi lo * N = y := ⟨_, rfl⟩
  have hy2 : -oHi lo * N = -y := by rw [Int.neg_mul, hy]
  rw [hx] at m1 m3 ⊢
  rw [hy] at m2 m3
  rw [hy2]
  have d0 : 0 < D := by omega
  have d1 : 2252300 ≤ D := by omega
  have bx : -100000 * D ≤ x := by omega
  have bY : -100000 * D ≤ -y := by omega
  have q1 : -100000 ≤ x / D := (Int.le_ediv_iff_mul_le d0).2 bx
  have q2 : -100000 ≤ -y / D := (Int.le_ediv_iff_mul_le d0).2 bY
  have q3 := Int.mul_ediv_self_le (x := x) (k := D) (by omega)
  have q4 := Int.mul_ediv_self_le (x := -y) (k := D) (by omega)
  refine ⟨q1, ?_, by omega⟩
  have q5 : D * (x / D + -y / D) ≤ 0 := by rw [Int.mul_add]; omega
  rcases Int.lt_or_le 0 (x / D + -y / D) with h | h
  · have := Int.mul_pos d0 h
    omega
  · omega
end Go.Proofs.YtbpnacacnncopaaGreatDoor
