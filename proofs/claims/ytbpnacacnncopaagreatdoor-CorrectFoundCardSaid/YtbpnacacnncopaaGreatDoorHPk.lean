/- Law 22: CorrectFound returns true. -/
import Derived.Test.YtbpnacacnncopaaGreatDoorHZq
set_option linter.unusedVariables false
set_option linter.unusedSimpArgs false
namespace Go.Proofs.YtbpnacacnncopaaGreatDoor
open Go.RowKit Frm
theorem found_all (ix : Int) (T : List Ent) (A : Option Addr) (n c : Nat) (s : Sgt) (g0 g1 g2 g3 e0 e1 p0 p1 l : Int) (w : World) (hT : TabAt w w.heap.size A T) (hn : T.length = n) (hn1 : n ≤ 1000) (hl : s.body.length ≤ 100000) (hb : s.by_ = 0) (l0 : 0 ≤ l) (l1 : l ≤ 65535) :
    (∃ E : Int, E ≠ 0 ∧ ∀ W, Below w.heap.size w W → Calls Tryz.prog 16 #[.agg #[.int .i64 ix, .slice A n c], sgv s.body s.limb s.lo s.hi s.hs s.by_ s.hor s.eye s.shore s.temp s.press, .agg #[.int .i64 g0, .int .i64 g1, .int .i64 g2, .int .i64 g3, .int .i64 e0, .int .i64 e1, .int .i64 p0, .int .i64 p1]] W fun e w' => e = .returned (.tuple #[wk0, .int .i64 E]) ∧ Below W.heap.size W w') ∨
    (∃ c0 c1 c2 c3 c4 c5 c6 c7 c8 c9 c10 c11 h0 h1 : Int, -1000000 ≤ h0 ∧ h0 ≤ h1 ∧ h1 ≤ 10000000 ∧ (∀ W, Below w.heap.size w W → Calls Tryz.prog 16 #[.agg #[.int .i64 ix, .slice A n c], sgv s.body s.limb s.lo s.hi s.hs s.by_ s.hor s.eye s.shore s.temp s.press, .agg #[.int .i64 g0, .int .i64 g1, .int .i64 g2, .int .i64 g3, .int .i64 e0, .int .i64 e1, .int .i64 p0, .int .i64 p1]] W fun e w' => e = .returned (.tuple #[wkV c0 c1 c2 c3 c4 c5 c6 c7 c8 c9 c10 c11 h0 h1, .int .i64 0]) ∧ Below W.heap.size W w') ∧
      ((altB h0 h1 = false ∧ ∀ W, Below w.heap.size w W → Calls Tryz.prog 17 #[.agg #[.int .i64 ix, .slice A n c], sgv s.body s.limb s.lo s.hi s.hs s.by_ s.hor s.eye s.shore s.temp s.press, .agg #[.int .i64 g0, .int .i64 g1, .int .i64 g2, .int .i64 g3, .int .i64 e0, .int .i64 e1, .int .i64 p0, .int .i64 p1], .agg #[.int .i64 (h0), .int .i64 (h1)]] W fun e w' => e = .returned (.tuple #[.agg #[.int .i64 0, .int .i64 0], .int .i64 2]) ∧ Below W.heap.size W w') ∨ (altB h0 h1 = true ∧ ∃ a b : Int, a ≤ s.hs ∧ s.hs ≤ b ∧ -60000 ≤ a ∧ b ≤ 7800000 ∧ (∀ W, Below w.heap.size w W → Calls Tryz.prog 17 #[.agg #[.int .i64 ix, .slice A n c], sgv s.body s.limb s.lo s.hi s.hs s.by_ s.hor s.eye s.shore s.temp s.press, .agg #[.int .i64 g0, .int .i64 g1, .int .i64 g2, .int .i64 g3, .int .i64 e0, .int .i64 e1, .int .i64 p0, .int .i64 p1], .agg #[.int .i64 (h0), .int .i64 (h1)]] W fun e w' => e = .returned (.tuple #[.agg #[.int .i64 a, .int .i64 b], .int .i64 0]) ∧ Below W.heap.size W w') ∧
        ((altB (h0 - l) (h1 + l) = false ∧ ∀ W, Below w.heap.size w W → Calls Tryz.prog 17 #[.agg #[.int .i64 ix, .slice A n c], sgv s.body s.limb s.lo s.hi s.hs s.by_ s.hor s.eye s.shore s.temp s.press, .agg #[.int .i64 g0, .int .i64 g1, .int .i64 g2, .int .i64 g3, .int .i64 e0, .int .i64 e1, .int .i64 p0, .int .i64 p1], .agg #[.int .i64 (h0 - l), .int .i64 (h1 + l)]] W fun e w' => e = .returned (.tuple #[.agg #[.int .i64 0, .int .i64 0], .int .i64 2]) ∧ Below W.heap.size W w') ∨ (altB (h0 - l) (h1 + l) = true ∧ ∃ a' b' : Int, a' ≤ a ∧ b ≤ b' ∧ -60000 ≤ a' ∧ b' ≤ 7800000 ∧ (∀ W, Below w.heap.size w W → Calls Tryz.prog 17 #[.agg #[.int .i64 ix, .slice A n c], sgv s.body s.limb s.lo s.hi s.hs s.by_ s.hor s.eye s.shore s.temp s.press, .agg #[.int .i64 g0, .int .i64 g1, .int .i64 g2, .int .i64 g3, .int .i64 e0, .int .i64 e1, .int .i64 p0, .int .i64 p1], .agg #[.int .i64 (h0 - l), .int .i64 (h1 + l)]] W fun e w' => e = .returned (.tuple #[.agg #[.int .i64 a', .int .i64 b'], .int .i64 0]) ∧ Below W.heap.size W w')))))) := by
  have KW := fun W (hW : Below w.heap.size w W) => Work_any ix T A n c s g0 g1 g2 g3 e0 e1 p0 p1 W (hT.up hW) hn hn1 hl
  cases hg : givB ix T s e0 e1 p0 p1 with
  | false =>
    refine .inl ⟨1, by omega, fun W hW => (KW W hW).mono fun e w' ⟨hr, hb⟩ => ⟨?_, hb⟩⟩
    rcases hr with ⟨_, h⟩ | ⟨h, _⟩ | ⟨h, _⟩
    · exact h
    · rw [hg] at h; cases h
    · rw [hg] at h; cases h
  | true =>
    cases hi : inHa ix T s with
    | false =>
      refine .inl ⟨2, by omega, fun W hW => (KW W hW).mono fun e w' ⟨hr, hb⟩ => ⟨?_, hb⟩⟩
      rcases hr with ⟨h, _⟩ | ⟨_, _, h⟩ | ⟨_, h, _⟩
      · rw [hg] at h; cases h
      · exact h
      · rw [hi] at h; cases h
    | true =>
      have hh := ho_bd hg hb hi
      refine .inr ⟨coA ix T s.hs, coB ix T s.hs, depA s, depB s, rfL (haB ix T s) s.temp s.press, rfH (haA ix T s) s.temp s.press, pxA p0 p1 (haA ix T s) (haB ix T s), pxB p0 p1 (haA ix T s) (haB ix T s), seA s.limb e0 e1 p0 p1 (haA ix T s) (haB ix T s), seB s.limb e0 e1 p0 p1 (haA ix T s) (haB ix T s), haA ix T s, haB ix T s, hoA ix T s e0 e1 p0 p1, hoB ix T s e0 e1 p0 p1, hh.1, hh.2.1, hh.2.2, fun W hW => (KW W hW).mono fun e w' ⟨hr, hb⟩ => ⟨?_, hb⟩, ?_⟩
      · rcases hr with ⟨h, _⟩ | ⟨_, h, _⟩ | ⟨_, _, h⟩
        · rw [hg] at h; cases h
        · rw [hi] at h; cases h
        · exact h
      · rcases read_cases ix T A n c s g0 g1 g2 g3 e0 e1 p0 p1 _ _ w hT hn hg hl hb hi (Int.le_refl _) (Int.le_refl _) (by omega) (by omega) with ⟨h1, h2⟩ | ⟨h1, a, b, hr, h2, h3, h4⟩
        · exact .inl ⟨h1, h2⟩
        · refine .inr ⟨h1, a, b, h2, h3, hr.bd.1, hr.bd.2.2, h4, ?_⟩
          rcases read_cases ix T A n c s g0 g1 g2 g3 e0 e1 p0 p1 (hoA ix T s e0 e1 p0 p1 - l) (hoB ix T s e0 e1 p0 p1 + l) w hT hn hg hl hb hi (by omega) (by omega) (by omega) (by omega) with ⟨k1, k2⟩ | ⟨k1, a', b', kr, k2, k3, k4⟩
          · exact .inl ⟨k1, k2⟩
          · have hm := found_mono hg (by omega) (by omega) kr hr
            exact .inr ⟨k1, a', b', hm.1, hm.2, kr.bd.1, kr.bd.2.2, k4⟩
set_option maxHeartbeats 8000000 in
set_option maxRecDepth 100000 in
theorem found_any (ix : Int) (T : List Ent) (A : Option Addr) (n c : Nat) (s : Sgt) (g0 g1 g2 g3 e0 e1 p0 p1 l : Int) (w : World) (hT : TabAt w w.heap.size A T) (hn : T.length = n) (l0 : 0 ≤ l) (l1 : l ≤ 65535) (he : En w) :
    Calls Tryz.prog 6 #[.agg #[.int .i64 ix, .slice A n c], sgS s, .agg #[.int .i64 g0, .int .i64 g1, .int .i64 g2, .int .i64 g3, .int .i64 e0, .int .i64 e1, .int .i64 p0, .int .i64 p1], .int .u16 l] w fun e w' => e = .returned (.bool true) ∧ Below w.heap.size w w' := by
  have KA := Lib.hid awake22_any
  have KS := Lib.hid (fun W => short22_any ix A n c s.body s.limb s.lo s.hi s.hs s.by_ s.hor s.eye s.shore s.temp s.press W)
  have N9 := Lib.hid he
  cases hsh : decide (n ≤ 60) && decide (s.body.length ≤ 100) with
  | false =>
    rw [hsh] at KS
    clear hsh hT hn he
    obtain ⟨body, limb, tlo, thi, hs, by_, hor, eye, shore, temp, press⟩ := s
    simp only [] at *
    have I0 := Lib.hid (((Blk.new w 40 #[.int .i64 ix, .slice A n c]).alloc (.cells #[txb body, .int .i64 limb, .int .i64 tlo, .int .i64 thi, .int .i64 hs, .int .i64 by_, .int .i64 hor, .int .i64 eye, .int .i64 shore, .int .i64 temp, .int .i64 press] 25)).alloc (.cells #[.int .i64 g0, .int .i64 g1, .int .i64 g2, .int .i64 g3, .int .i64 e0, .int .i64 e1, .int .i64 p0, .int .i64 p1] 43))
    have B0 := Lib.hid ((Blk.new (w.alloc (.cells #[.int .i64 ix, .slice A n c] 40)) 25 #[txb body, .int .i64 limb, .int .i64 tlo, .int .i64 thi, .int .i64 hs, .int .i64 by_, .int .i64 hor, .int .i64 eye, .int .i64 shore, .int .i64 temp, .int .i64 press]).alloc (.cells #[.int .i64 g0, .int .i64 g1, .int .i64 g2, .int .i64 g3, .int .i64 e0, .int .i64 e1, .int .i64 p0, .int .i64 p1] 43))
    simp only [World.size_alloc] at B0
    have E0 := Lib.hid (Blk.new ((w.alloc (.cells #[.int .i64 ix, .slice A n c] 40)).alloc (.cells #[txb body, .int .i64 limb, .int .i64 tlo, .int .i64 thi, .int .i64 hs, .int .i64 by_, .int .i64 hor, .int .i64 eye, .int .i64 shore, .int .i64 temp, .int .i64 press] 25)) 43 #[.int .i64 g0, .int .i64 g1, .int .i64 g2, .int .i64 g3, .int .i64 e0, .int .i64 e1, .int .i64 p0, .int .i64 p1])
    simp only [World.size_alloc] at E0
    have N0 := Lib.hid ((((N9.out).bl (bl_alloc w (.cells #[.int .i64 ix, .slice A n c] 40))).bl (bl_alloc (w.alloc (.cells #[.int .i64 ix, .slice A n c] 40)) (.cells #[txb body, .int .i64 limb, .int .i64 tlo, .int .i64 thi, .int .i64 hs, .int .i64 by_, .int .i64 hor, .int .i64 eye, .int .i64 shore, .int .i64 temp, .int .i64 press] 25))).bl (bl_alloc ((w.alloc (.cells #[.int .i64 ix, .slice A n c] 40)).alloc (.cells #[txb body, .int .i64 limb, .int .i64 tlo, .int .i64 thi, .int .i64 hs, .int .i64 by_, .int .i64 hor, .int .i64 eye, .int .i64 shore, .int .i64 temp, .int .i64 press] 25)) (.cells #[.int .i64 g0, .int .i64 g1, .int .i64 g2, .int .i64 g3, .int .i64 e0, .int .i64 e1, .int .i64 p0, .int .i64 p1] 43)))
    have b0 := Lib.hid ((((Below.refl w.heap.size w).alloc (Nat.le_refl _) (.cells #[.int .i64 ix, .slice A n c] 40)).alloc (by simp) (.cells #[txb body, .int .i64 limb, .int .i64 tlo, .int .i64 thi, .int .i64 hs, .int .i64 by_, .int .i64 hor, .int .i64 eye, .int .i64 shore, .int .i64 temp, .int .i64 press] 25)).alloc (by simp; omega) (.cells #[.int .i64 g0, .int .i64 g1, .int .i64 g2, .int .i64 g3, .int .i64 e0, .int .i64 e1, .int .i64 p0, .int .i64 p1] 43))
    go_enter Tryz.func6, Tryz.ntmps6
    go_upto_region 1 with fail
    generalize (((w.alloc (.cells #[.int .i64 ix, .slice A n c] 40)).alloc (.cells #[txb body, .int .i64 limb, .int .i64 tlo, .int .i64 thi, .int .i64 hs, .int .i64 by_, .int .i64 hor, .int .i64 eye, .int .i64 shore, .int .i64 temp, .int .i64 press] 25)).alloc (.cells #[.int .i64 g0, .int .i64 g1, .int .i64 g2, .int .i64 g3, .int .i64 e0, .int .i64 e1, .int .i64 p0, .int .i64 p1] 43)) = w1 at *
    go_wp2_with fail
    (with_reducible refine (KA.out _ N0.out).mono ?_)
    rintro e w2 ⟨rfl, hb⟩
    have I2 := Lib.hid (I0.out.below hb I0.out.lt)
    have B2 := Lib.hid (B0.out.below hb B0.out.lt)
    have E2 := Lib.hid (E0.out.below hb E0.out.lt)
    have N2 := Lib.hid (N0.out.bl hb)
    have b2 := Lib.hid (b0.out.trans (hb.mono b0.out.size))
    clear hb I0 B0 E0 N0 b0
    go_upto_region 3 with fail
    have yI : ∀ i, w2.cell? ⟨w.heap.size, i, none⟩ = (#[.int .i64 ix, .slice A n c] : Array Value)[i]? := fun i => I2.out.cell i
    have yB : ∀ i, w2.cell? ⟨w.heap.size + 1, i, none⟩ = (#[txb body, .int .i64 limb, .int .i64 tlo, .int .i64 thi, .int .i64 hs, .int .i64 by_, .int .i64 hor, .int .i64 eye, .int .i64 shore, .int .i64 temp, .int .i64 press] : Array Value)[i]? := fun i => B2.out.cell i
    go_wp2_with fail
    (with_reducible refine (KS.out _).mono ?_)
    rintro e w3 ⟨rfl, hb⟩
    have I3 := Lib.hid (I2.out.below hb I2.out.lt)
    have B3 := Lib.hid (B2.out.below hb B2.out.lt)
    have E3 := Lib.hid (E2.out.below hb E2.out.lt)
    have N3 := Lib.hid (N2.out.bl hb)
    have b3 := Lib.hid (b2.out.trans (hb.mono b2.out.size))
    clear hb I2 B2 E2 N2 b2 yI yB
    go_upto_region 4 with fail
    go_wp2
    go_ret
    exact ⟨rfl, b3.out⟩
  | true =>
    rw [hsh] at KS
    simp only [Bool.and_eq_true, decide_eq_true_eq] at hsh
    have HP := Lib.hid (found_all ix T A n c { s with by_ := 0 } g0 g1 g2 g3 e0 e1 p0 p1 l w hT hn (by omega) (by simp only []; omega) rfl l0 l1)
    have EQ := eqWk0
    clear hsh hT hn he
    obtain ⟨body, limb, tlo, thi, hs, by_, hor, eye, shore, temp, press⟩ := s
    simp only [] at *
    have I0 := Lib.hid (((Blk.new w 40 #[.int .i64 ix, .slice A n c]).alloc (.cells #[txb body, .int .i64 limb, .int .i64 tlo, .int .i64 thi, .int .i64 hs, .int .i64 by_, .int .i64 hor, .int .i64 eye, .int .i64 shore, .int .i64 temp, .int .i64 press] 25)).alloc (.cells #[.int .i64 g0, .int .i64 g1, .int .i64 g2, .int .i64 g3, .int .i64 e0, .int .i64 e1, .int .i64 p0, .int .i64 p1] 43))
    have B0 := Lib.hid ((Blk.new (w.alloc (.cells #[.int .i64 ix, .slice A n c] 40)) 25 #[txb body, .int .i64 limb, .int .i64 tlo, .int .i64 thi, .int .i64 hs, .int .i64 by_, .int .i64 hor, .int .i64 eye, .int .i64 shore, .int .i64 temp, .int .i64 press]).alloc (.cells #[.int .i64 g0, .int .i64 g1, .int .i64 g2, .int .i64 g3, .int .i64 e0, .int .i64 e1, .int .i64 p0, .int .i64 p1] 43))
    simp only [World.size_alloc] at B0
    have E0 := Lib.hid (Blk.new ((w.alloc (.cells #[.int .i64 ix, .slice A n c] 40)).alloc (.cells #[txb body, .int .i64 limb, .int .i64 tlo, .int .i64 thi, .int .i64 hs, .int .i64 by_, .int .i64 hor, .int .i64 eye, .int .i64 shore, .int .i64 temp, .int .i64 press] 25)) 43 #[.int .i64 g0, .int .i64 g1, .int .i64 g2, .int .i64 g3, .int .i64 e0, .int .i64 e1, .int .i64 p0, .int .i64 p1])
    simp only [World.size_alloc] at E0
    have N0 := Lib.hid ((((N9.out).bl (bl_alloc w (.cells #[.int .i64 ix, .slice A n c] 40))).bl (bl_alloc (w.alloc (.cells #[.int .i64 ix, .slice A n c] 40)) (.cells #[txb body, .int .i64 limb, .int .i64 tlo, .int .i64 thi, .int .i64 hs, .int .i64 by_, .int .i64 hor, .int .i64 eye, .int .i64 shore, .int .i64 temp, .int .i64 press] 25))).bl (bl_alloc ((w.alloc (.cells #[.int .i64 ix, .slice A n c] 40)).alloc (.cells #[txb body, .int .i64 limb, .int .i64 tlo, .int .i64 thi, .int .i64 hs, .int .i64 by_, .int .i64 hor, .int .i64 eye, .int .i64 shore, .int .i64 temp, .int .i64 press] 25)) (.cells #[.int .i64 g0, .int .i64 g1, .int .i64 g2, .int .i64 g3, .int .i64 e0, .int .i64 e1, .int .i64 p0, .int .i64 p1] 43)))
    have b0 := Lib.hid ((((Below.refl w.heap.size w).alloc (Nat.le_refl _) (.cells #[.int .i64 ix, .slice A n c] 40)).alloc (by simp) (.cells #[txb body, .int .i64 limb, .int .i64 tlo, .int .i64 thi, .int .i64 hs, .int .i64 by_, .int .i64 hor, .int .i64 eye, .int .i64 shore, .int .i64 temp, .int .i64 press] 25)).alloc (by simp; omega) (.cells #[.int .i64 g0, .int .i64 g1, .int .i64 g2, .int .i64 g3, .int .i64 e0, .int .i64 e1, .int .i64 p0, .int .i64 p1] 43))
    go_enter Tryz.func6, Tryz.ntmps6
    go_upto_region 1 with fail
    generalize (((w.alloc (.cells #[.int .i64 ix, .slice A n c] 40)).alloc (.cells #[txb body, .int .i64 limb, .int .i64 tlo, .int .i64 thi, .int .i64 hs, .int .i64 by_, .int .i64 hor, .int .i64 eye, .int .i64 shore, .int .i64 temp, .int .i64 press] 25)).alloc (.cells #[.int .i64 g0, .int .i64 g1, .int .i64 g2, .int .i64 g3, .int .i64 e0, .int .i64 e1, .int .i64 p0, .int .i64 p1] 43)) = w1 at *
    go_wp2_with fail
    (with_reducible refine (KA.out _ N0.out).mono ?_)
    rintro e w2 ⟨rfl, hb⟩
    have I2 := Lib.hid (I0.out.below hb I0.out.lt)
    have B2 := Lib.hid (B0.out.below hb B0.out.lt)
    have E2 := Lib.hid (E0.out.below hb E0.out.lt)
    have N2 := Lib.hid (N0.out.bl hb)
    have b2 := Lib.hid (b0.out.trans (hb.mono b0.out.size))
    clear hb I0 B0 E0 N0 b0
    go_upto_region 3 with fail
    have yI : ∀ i, w2.cell? ⟨w.heap.size, i, none⟩ = (#[.int .i64 ix, .slice A n c] : Array Value)[i]? := fun i => I2.out.cell i
    have yB : ∀ i, w2.cell? ⟨w.heap.size + 1, i, none⟩ = (#[txb body, .int .i64 limb, .int .i64 tlo, .int .i64 thi, .int .i64 hs, .int .i64 by_, .int .i64 hor, .int .i64 eye, .int .i64 shore, .int .i64 temp, .int .i64 press] : Array Value)[i]? := fun i => B2.out.cell i
    go_wp2_with fail
    (with_reducible refine (KS.out _).mono ?_)
    rintro e w3 ⟨rfl, hb⟩
    have I3 := Lib.hid (I2.out.below hb I2.out.lt)
    have B3 := Lib.hid (B2.out.below hb B2.out.lt)
    have E3 := Lib.hid (E2.out.below hb E2.out.lt)
    have N3 := Lib.hid (N2.out.bl hb)
    have b3 := Lib.hid (b2.out.trans (hb.mono b2.out.size))
    clear hb I2 B2 E2 N2 b2 yI yB
    clear N3 KA KS
    go_upto_region 5 with fail
    obtain ⟨aE, haE⟩ : ∃ a, w.heap.size + 1 + 1 = a := ⟨_, rfl⟩
    rw [haE] at E3 ⊢
    obtain ⟨aB, haB⟩ : ∃ a, w.heap.size + 1 = a := ⟨_, rfl⟩
    rw [haB] at B3 ⊢
    obtain ⟨aI, haI⟩ : ∃ a, w.heap.size = a := ⟨_, rfl⟩
    rw [haI] at I3 ⊢
    have oB : aI < aB := by omega
    have oE : aB < aE := by omega
    have ow : w.heap.size ≤ aI := by omega
    clear haE haB haI
    have yB : ∀ i, w3.cell? ⟨aB, i, none⟩ = (#[txb body, .int .i64 limb, .int .i64 tlo, .int .i64 thi, .int .i64 hs, .int .i64 by_, .int .i64 hor, .int .i64 eye, .int .i64 shore, .int .i64 temp, .int .i64 press] : Array Value)[i]? := fun i => B3.out.cell i
    have zB : ∀ i, w3.frozen? ⟨aB, i, none⟩ = false := fun i => B3.out.frozen i
    have I4 := Lib.hid ((I3.out).far (p := ⟨aB, 5, none⟩) (show aI ≠ aB by omega) (.int .i64 0))
    have E4 := Lib.hid ((E3.out).far (p := ⟨aB, 5, none⟩) (show aE ≠ aB by omega) (.int .i64 0))
    have B4 := Lib.hid ((show Blk (w3.setCell ⟨aB, 5, none⟩ (.int .i64 0)) aB 25 #[txb body, .int .i64 limb, .int .i64 tlo, .int .i64 thi, .int .i64 hs, .int .i64 0, .int .i64 hor, .int .i64 eye, .int .i64 shore, .int .i64 temp, .int .i64 press] from by simpa using (B3.out).set_ 5 (.int .i64 0)))
    have b4 := Lib.hid ((b3.out).setCell (p := ⟨aB, 5, none⟩) (show w.heap.size ≤ aB by omega) (.int .i64 0))
    clear I3 E3 B3 b3
    go_upto_region 6 with fail
    clear yB zB
    generalize (w3.setCell ⟨aB, 5, none⟩ (.int .i64 0)) = w5 at *
    rcases HP.out with ⟨E, hE, KW⟩ | ⟨c0, c1, c2, c3, c4, c5, c6, c7, c8, c9, c10, c11, h0, h1, b1', b2', b3', KW, hR⟩
    ·
      replace KW := Lib.hid KW
      clear HP
      have hE1 : ((E : Int) != 0) = true := by simpa using hE
      clear hE
      have yI : ∀ i, w5.cell? ⟨aI, i, none⟩ = (#[.int .i64 ix, .slice A n c] : Array Value)[i]? := fun i => I4.out.cell i
      have yB : ∀ i, w5.cell? ⟨aB, i, none⟩ = (#[txb body, .int .i64 limb, .int .i64 tlo, .int .i64 thi, .int .i64 hs, .int .i64 0, .int .i64 hor, .int .i64 eye, .int .i64 shore, .int .i64 temp, .int .i64 press] : Array Value)[i]? := fun i => B4.out.cell i
      have yE : ∀ i, w5.cell? ⟨aE, i, none⟩ = (#[.int .i64 g0, .int .i64 g1, .int .i64 g2, .int .i64 g3, .int .i64 e0, .int .i64 e1, .int .i64 p0, .int .i64 p1] : Array Value)[i]? := fun i => E4.out.cell i
      go_wp2_with fail
      (with_reducible refine (KW.out _ b4.out).mono ?_)
      rintro e w6 ⟨rfl, hb⟩
      have I6 := Lib.hid (I4.out.below hb I4.out.lt)
      have B6 := Lib.hid (B4.out.below hb B4.out.lt)
      have E6 := Lib.hid (E4.out.below hb E4.out.lt)
      have b6 := Lib.hid (b4.out.trans (hb.mono b4.out.size))
      clear hb I4 B4 E4 b4 yI yB yE
      have I7 := Lib.hid (I6.out.alloc (.cells #[.int .i64 0, .int .i64 0, .int .i64 0, .int .i64 0, .int .i64 0, .int .i64 0, .int .i64 0, .int .i64 0, .int .i64 0, .int .i64 0, .int .i64 0, .int .i64 0, .int .i64 0, .int .i64 0] 46))
      have B7 := Lib.hid (B6.out.alloc (.cells #[.int .i64 0, .int .i64 0, .int .i64 0, .int .i64 0, .int .i64 0, .int .i64 0, .int .i64 0, .int .i64 0, .int .i64 0, .int .i64 0, .int .i64 0, .int .i64 0, .int .i64 0, .int .i64 0] 46))
      have E7 := Lib.hid (E6.out.alloc (.cells #[.int .i64 0, .int .i64 0, .int .i64 0, .int .i64 0, .int .i64 0, .int .i64 0, .int .i64 0, .int .i64 0, .int .i64 0, .int .i64 0, .int .i64 0, .int .i64 0, .int .i64 0, .int .i64 0] 46))
      have D7 := Lib.hid (Blk.new w6 46 #[.int .i64 0, .int .i64 0, .int .i64 0, .int .i64 0, .int .i64 0, .int .i64 0, .int .i64 0, .int .i64 0, .int .i64 0, .int .i64 0, .int .i64 0, .int .i64 0, .int .i64 0, .int .i64 0])
      have b7 := Lib.hid (b6.out.trans ((bl_alloc w6 (.cells #[.int .i64 0, .int .i64 0, .int .i64 0, .int .i64 0, .int .i64 0, .int .i64 0, .int .i64 0, .int .i64 0, .int .i64 0, .int .i64 0, .int .i64 0, .int .i64 0, .int .i64 0, .int .i64 0] 46)).mono b6.out.size))
      clear I6 B6 E6 b6
      go_upto_region 7 with fail
      generalize w6.alloc (.cells #[.int .i64 0, .int .i64 0, .int .i64 0, .int .i64 0, .int .i64 0, .int .i64 0, .int .i64 0, .int .i64 0, .int .i64 0, .int .i64 0, .int .i64 0, .int .i64 0, .int .i64 0, .int .i64 0] 46) = w8 at *
      go_upto_region 8 with fail
      have yD : ∀ i, w8.cell? ⟨w6.heap.size, i, none⟩ = (#[.int .i64 0, .int .i64 0, .int .i64 0, .int .i64 0, .int .i64 0, .int .i64 0, .int .i64 0, .int .i64 0, .int .i64 0, .int .i64 0, .int .i64 0, .int .i64 0, .int .i64 0, .int .i64 0] : Array Value)[i]? := fun i => D7.out.cell i
      go_wp2
      go_ret
      exact ⟨rfl, b7.out⟩
    ·
      replace KW := Lib.hid KW
      have HR := Lib.hid hR
      clear HP hR EQ
      have yI : ∀ i, w5.cell? ⟨aI, i, none⟩ = (#[.int .i64 ix, .slice A n c] : Array Value)[i]? := fun i => I4.out.cell i
      have yB : ∀ i, w5.cell? ⟨aB, i, none⟩ = (#[txb body, .int .i64 limb, .int .i64 tlo, .int .i64 thi, .int .i64 hs, .int .i64 0, .int .i64 hor, .int .i64 eye, .int .i64 shore, .int .i64 temp, .int .i64 press] : Array Value)[i]? := fun i => B4.out.cell i
      have yE : ∀ i, w5.cell? ⟨aE, i, none⟩ = (#[.int .i64 g0, .int .i64 g1, .int .i64 g2, .int .i64 g3, .int .i64 e0, .int .i64 e1, .int .i64 p0, .int .i64 p1] : Array Value)[i]? := fun i => E4.out.cell i
      go_wp2_with fail
      (with_reducible refine (KW.out _ b4.out).mono ?_)
      rintro e w6 ⟨rfl, hb⟩
      have I6 := Lib.hid (I4.out.below hb I4.out.lt)
      have B6 := Lib.hid (B4.out.below hb B4.out.lt)
      have E6 := Lib.hid (E4.out.below hb E4.out.lt)
      have b6 := Lib.hid (b4.out.trans (hb.mono b4.out.size))
      clear hb I4 B4 E4 b4 yI yB yE
      have I7 := Lib.hid (I6.out.alloc (.cells #[.int .i64 c0, .int .i64 c1, .int .i64 c2, .int .i64 c3, .int .i64 c4, .int .i64 c5, .int .i64 c6, .int .i64 c7, .int .i64 c8, .int .i64 c9, .int .i64 c10, .int .i64 c11, .int .i64 h0, .int .i64 h1] 46))
      have B7 := Lib.hid (B6.out.alloc (.cells #[.int .i64 c0, .int .i64 c1, .int .i64 c2, .int .i64 c3, .int .i64 c4, .int .i64 c5, .int .i64 c6, .int .i64 c7, .int .i64 c8, .int .i64 c9, .int .i64 c10, .int .i64 c11, .int .i64 h0, .int .i64 h1] 46))
      have E7 := Lib.hid (E6.out.alloc (.cells #[.int .i64 c0, .int .i64 c1, .int .i64 c2, .int .i64 c3, .int .i64 c4, .int .i64 c5, .int .i64 c6, .int .i64 c7, .int .i64 c8, .int .i64 c9, .int .i64 c10, .int .i64 c11, .int .i64 h0, .int .i64 h1] 46))
      have D7 := Lib.hid (Blk.new w6 46 #[.int .i64 c0, .int .i64 c1, .int .i64 c2, .int .i64 c3, .int .i64 c4, .int .i64 c5, .int .i64 c6, .int .i64 c7, .int .i64 c8, .int .i64 c9, .int .i64 c10, .int .i64 c11, .int .i64 h0, .int .i64 h1])
      have b7 := Lib.hid (b6.out.trans ((bl_alloc w6 (.cells #[.int .i64 c0, .int .i64 c1, .int .i64 c2, .int .i64 c3, .int .i64 c4, .int .i64 c5, .int .i64 c6, .int .i64 c7, .int .i64 c8, .int .i64 c9, .int .i64 c10, .int .i64 c11, .int .i64 h0, .int .i64 h1] 46)).mono b6.out.size))
      clear I6 B6 E6 b6
      go_upto_region 7 with fail
      generalize w6.alloc (.cells #[.int .i64 c0, .int .i64 c1, .int .i64 c2, .int .i64 c3, .int .i64 c4, .int .i64 c5, .int .i64 c6, .int .i64 c7, .int .i64 c8, .int .i64 c9, .int .i64 c10, .int .i64 c11, .int .i64 h0, .int .i64 h1] 46) = w8 at *
      go_upto_region 9 with fail
      rcases HR.out with ⟨hal, KR⟩ | ⟨hal, a, b, ha1, ha2, ha3, ha4, KR, hW⟩
      ·
        replace KR := Lib.hid KR
        have KL := Lib.hid (fun W => rAlt_any h0 h1 W)
        rw [show (decide (-120000 ≤ h0) && decide (h1 ≤ 5520000)) = false from hal] at KL
        clear hal HR
        have yI : ∀ i, w8.cell? ⟨aI, i, none⟩ = (#[.int .i64 ix, .slice A n c] : Array Value)[i]? := fun i => I7.out.cell i
        have yB : ∀ i, w8.cell? ⟨aB, i, none⟩ = (#[txb body, .int .i64 limb, .int .i64 tlo, .int .i64 thi, .int .i64 hs, .int .i64 0, .int .i64 hor, .int .i64 eye, .int .i64 shore, .int .i64 temp, .int .i64 press] : Array Value)[i]? := fun i => B7.out.cell i
        have yE : ∀ i, w8.cell? ⟨aE, i, none⟩ = (#[.int .i64 g0, .int .i64 g1, .int .i64 g2, .int .i64 g3, .int .i64 e0, .int .i64 e1, .int .i64 p0, .int .i64 p1] : Array Value)[i]? := fun i => E7.out.cell i
        have yD : ∀ i, w8.cell? ⟨w6.heap.size, i, none⟩ = (#[.int .i64 c0, .int .i64 c1, .int .i64 c2, .int .i64 c3, .int .i64 c4, .int .i64 c5, .int .i64 c6, .int .i64 c7, .int .i64 c8, .int .i64 c9, .int .i64 c10, .int .i64 c11, .int .i64 h0, .int .i64 h1] : Array Value)[i]? := fun i => D7.out.cell i
        go_wp2_with fail
        (with_reducible refine (KR.out _ b7.out).mono ?_)
        rintro e w9 ⟨rfl, hb⟩
        have I9 := Lib.hid (I7.out.below hb I7.out.lt)
        have B9 := Lib.hid (B7.out.below hb B7.out.lt)
        have E9 := Lib.hid (E7.out.below hb E7.out.lt)
        have D9 := Lib.hid (D7.out.below hb D7.out.lt)
        have b9 := Lib.hid (b7.out.trans (hb.mono b7.out.size))
        clear hb I7 B7 E7 D7 b7 yI yB yE yD
        have I10 := Lib.hid (I9.out.alloc (.cells #[.int .i64 0, .int .i64 0] 41))
        have B10 := Lib.hid (B9.out.alloc (.cells #[.int .i64 0, .int .i64 0] 41))
        have E10 := Lib.hid (E9.out.alloc (.cells #[.int .i64 0, .int .i64 0] 41))
        have D10 := Lib.hid (D9.out.alloc (.cells #[.int .i64 0, .int .i64 0] 41))
        have C10 := Lib.hid (Blk.new w9 41 #[.int .i64 0, .int .i64 0])
        have b10 := Lib.hid (b9.out.trans ((bl_alloc w9 (.cells #[.int .i64 0, .int .i64 0] 41)).mono b9.out.size))
        clear I9 B9 E9 D9 b9
        go_upto_region 10 with fail
        generalize w9.alloc (.cells #[.int .i64 0, .int .i64 0] 41) = w11 at *
        go_upto_region 11 with fail
        have yD : ∀ i, w11.cell? ⟨w6.heap.size, i, none⟩ = (#[.int .i64 c0, .int .i64 c1, .int .i64 c2, .int .i64 c3, .int .i64 c4, .int .i64 c5, .int .i64 c6, .int .i64 c7, .int .i64 c8, .int .i64 c9, .int .i64 c10, .int .i64 c11, .int .i64 h0, .int .i64 h1] : Array Value)[i]? := fun i => D10.out.cell i
        go_wp2_with fail
        (with_reducible refine (KL.out _).mono ?_)
        rintro e w12 ⟨rfl, hb⟩
        have I12 := Lib.hid (I10.out.below hb I10.out.lt)
        have B12 := Lib.hid (B10.out.below hb B10.out.lt)
        have E12 := Lib.hid (E10.out.below hb E10.out.lt)
        have D12 := Lib.hid (D10.out.below hb D10.out.lt)
        have C12 := Lib.hid (C10.out.below hb C10.out.lt)
        have b12 := Lib.hid (b10.out.trans (hb.mono b10.out.size))
        clear hb I10 B10 E10 D10 C10 b10 yD
        go_wp2
        go_ret
        exact ⟨rfl, b12.out⟩
      ·
        replace KR := Lib.hid KR
        have HW := Lib.hid hW
        clear hal HR hW
        have dq1 : decide (hs < a) = false := decide_eq_false (by omega)
        have dq2 : decide (b < hs) = false := decide_eq_false (by omega)
        have hq0 : wrap64 (h0 - l) = h0 - l := IntWalk.wrap64_in _ (by omega)
        have hq1 : wrap64 (h1 + l) = h1 + l := IntWalk.wrap64_in _ (by omega)
        have yI : ∀ i, w8.cell? ⟨aI, i, none⟩ = (#[.int .i64 ix, .slice A n c] : Array Value)[i]? := fun i => I7.out.cell i
        have yB : ∀ i, w8.cell? ⟨aB, i, none⟩ = (#[txb body, .int .i64 limb, .int .i64 tlo, .int .i64 thi, .int .i64 hs, .int .i64 0, .int .i64 hor, .int .i64 eye, .int .i64 shore, .int .i64 temp, .int .i64 press] : Array Value)[i]? := fun i => B7.out.cell i
        have yE : ∀ i, w8.cell? ⟨aE, i, none⟩ = (#[.int .i64 g0, .int .i64 g1, .int .i64 g2, .int .i64 g3, .int .i64 e0, .int .i64 e1, .int .i64 p0, .int .i64 p1] : Array Value)[i]? := fun i => E7.out.cell i
        have yD : ∀ i, w8.cell? ⟨w6.heap.size, i, none⟩ = (#[.int .i64 c0, .int .i64 c1, .int .i64 c2, .int .i64 c3, .int .i64 c4, .int .i64 c5, .int .i64 c6, .int .i64 c7, .int .i64 c8, .int .i64 c9, .int .i64 c10, .int .i64 c11, .int .i64 h0, .int .i64 h1] : Array Value)[i]? := fun i => D7.out.cell i
        go_wp2_with fail
        (with_reducible refine (KR.out _ b7.out).mono ?_)
        rintro e w9 ⟨rfl, hb⟩
        have I9 := Lib.hid (I7.out.below hb I7.out.lt)
        have B9 := Lib.hid (B7.out.below hb B7.out.lt)
        have E9 := Lib.hid (E7.out.below hb E7.out.lt)
        have D9 := Lib.hid (D7.out.below hb D7.out.lt)
        have b9 := Lib.hid (b7.out.trans (hb.mono b7.out.size))
        clear hb I7 B7 E7 D7 b7 yI yB yE yD
        have I10 := Lib.hid (I9.out.alloc (.cells #[.int .i64 a, .int .i64 b] 41))
        have B10 := Lib.hid (B9.out.alloc (.cells #[.int .i64 a, .int .i64 b] 41))
        have E10 := Lib.hid (E9.out.alloc (.cells #[.int .i64 a, .int .i64 b] 41))
        have D10 := Lib.hid (D9.out.alloc (.cells #[.int .i64 a, .int .i64 b] 41))
        have C10 := Lib.hid (Blk.new w9 41 #[.int .i64 a, .int .i64 b])
        have b10 := Lib.hid (b9.out.trans ((bl_alloc w9 (.cells #[.int .i64 a, .int .i64 b] 41)).mono b9.out.size))
        clear I9 B9 E9 D9 b9
        go_upto_region 10 with fail
        generalize w9.alloc (.cells #[.int .i64 a, .int .i64 b] 41) = w11 at *
        go_upto_region 12 with fail
        have yB : ∀ i, w11.cell? ⟨aB, i, none⟩ = (#[txb body, .int .i64 limb, .int .i64 tlo, .int .i64 thi, .int .i64 hs, .int .i64 0, .int .i64 hor, .int .i64 eye, .int .i64 shore, .int .i64 temp, .int .i64 press] : Array Value)[i]? := fun i => B10.out.cell i
        have yC : ∀ i, w11.cell? ⟨w9.heap.size, i, none⟩ = (#[.int .i64 a, .int .i64 b] : Array Value)[i]? := fun i => C10.out.cell i
        go_upto_region 14 with fail
        clear yB yC
        have yD : ∀ i, w11.cell? ⟨w6.heap.size, i, none⟩ = (#[.int .i64 c0, .int .i64 c1, .int .i64 c2, .int .i64 c3, .int .i64 c4, .int .i64 c5, .int .i64 c6, .int .i64 c7, .int .i64 c8, .int .i64 c9, .int .i64 c10, .int .i64 c11, .int .i64 h0, .int .i64 h1] : Array Value)[i]? := fun i => D10.out.cell i
        have I12 := Lib.hid (I10.out.alloc (.cells #[.int .i64 (h0 - l), .int .i64 (h1 + l)] 41))
        have B12 := Lib.hid (B10.out.alloc (.cells #[.int .i64 (h0 - l), .int .i64 (h1 + l)] 41))
        have E12 := Lib.hid (E10.out.alloc (.cells #[.int .i64 (h0 - l), .int .i64 (h1 + l)] 41))
        have D12 := Lib.hid (D10.out.alloc (.cells #[.int .i64 (h0 - l), .int .i64 (h1 + l)] 41))
        have C12 := Lib.hid (C10.out.alloc (.cells #[.int .i64 (h0 - l), .int .i64 (h1 + l)] 41))
        have Q12 := Lib.hid (Blk.new w11 41 #[.int .i64 (h0 - l), .int .i64 (h1 + l)])
        have b12 := Lib.hid (b10.out.trans ((bl_alloc w11 (.cells #[.int .i64 (h0 - l), .int .i64 (h1 + l)] 41)).mono b10.out.size))
        clear I10 B10 E10 D10 C10 b10
        go_upto_region 15 with fail
        clear yD
        generalize w11.alloc (.cells #[.int .i64 (h0 - l), .int .i64 (h1 + l)] 41) = w13 at *
        rcases HW.out with ⟨hal, KX⟩ | ⟨hal, a', b', hb1, hb2, hb3, hb4, KX⟩
        ·
          replace KX := Lib.hid KX
          have KL := Lib.hid (fun W => rAlt_any (h0 - l) (h1 + l) W)
          rw [show (decide (-120000 ≤ h0 - l) && decide (h1 + l ≤ 5520000)) = false from hal] at KL
          clear hal HW
          have yI : ∀ i, w13.cell? ⟨aI, i, none⟩ = (#[.int .i64 ix, .slice A n c] : Array Value)[i]? := fun i => I12.out.cell i
          have yB : ∀ i, w13.cell? ⟨aB, i, none⟩ = (#[txb body, .int .i64 limb, .int .i64 tlo, .int .i64 thi, .int .i64 hs, .int .i64 0, .int .i64 hor, .int .i64 eye, .int .i64 shore, .int .i64 temp, .int .i64 press] : Array Value)[i]? := fun i => B12.out.cell i
          have yE : ∀ i, w13.cell? ⟨aE, i, none⟩ = (#[.int .i64 g0, .int .i64 g1, .int .i64 g2, .int .i64 g3, .int .i64 e0, .int .i64 e1, .int .i64 p0, .int .i64 p1] : Array Value)[i]? := fun i => E12.out.cell i
          have yQ : ∀ i, w13.cell? ⟨w11.heap.size, i, none⟩ = (#[.int .i64 (h0 - l), .int .i64 (h1 + l)] : Array Value)[i]? := fun i => Q12.out.cell i
          go_wp2_with fail
          (with_reducible refine (KX.out _ b12.out).mono ?_)
          rintro e w14 ⟨rfl, hb⟩
          have I14 := Lib.hid (I12.out.below hb I12.out.lt)
          have B14 := Lib.hid (B12.out.below hb B12.out.lt)
          have E14 := Lib.hid (E12.out.below hb E12.out.lt)
          have D14 := Lib.hid (D12.out.below hb D12.out.lt)
          have C14 := Lib.hid (C12.out.below hb C12.out.lt)
          have Q14 := Lib.hid (Q12.out.below hb Q12.out.lt)
          have b14 := Lib.hid (b12.out.trans (hb.mono b12.out.size))
          clear hb I12 B12 E12 D12 C12 Q12 b12 yI yB yE yQ
          have I15 := Lib.hid (I14.out.alloc (.cells #[.int .i64 0, .int .i64 0] 41))
          have B15 := Lib.hid (B14.out.alloc (.cells #[.int .i64 0, .int .i64 0] 41))
          have E15 := Lib.hid (E14.out.alloc (.cells #[.int .i64 0, .int .i64 0] 41))
          have D15 := Lib.hid (D14.out.alloc (.cells #[.int .i64 0, .int .i64 0] 41))
          have C15 := Lib.hid (C14.out.alloc (.cells #[.int .i64 0, .int .i64 0] 41))
          have Q15 := Lib.hid (Q14.out.alloc (.cells #[.int .i64 0, .int .i64 0] 41))
          have Z15 := Lib.hid (Blk.new w14 41 #[.int .i64 0, .int .i64 0])
          have b15 := Lib.hid (b14.out.trans ((bl_alloc w14 (.cells #[.int .i64 0, .int .i64 0] 41)).mono b14.out.size))
          clear I14 B14 E14 D14 C14 Q14 b14
          go_upto_region 16 with fail
          generalize w14.alloc (.cells #[.int .i64 0, .int .i64 0] 41) = w16 at *
          have yQ : ∀ i, w16.cell? ⟨w11.heap.size, i, none⟩ = (#[.int .i64 (h0 - l), .int .i64 (h1 + l)] : Array Value)[i]? := fun i => Q15.out.cell i
          have yC : ∀ i, w16.cell? ⟨w9.heap.size, i, none⟩ = (#[.int .i64 a, .int .i64 b] : Array Value)[i]? := fun i => C15.out.cell i
          have yZ : ∀ i, w16.cell? ⟨w14.heap.size, i, none⟩ = (#[.int .i64 0, .int .i64 0] : Array Value)[i]? := fun i => Z15.out.cell i
          go_wp2_with fail
          (with_reducible refine (KL.out _).mono ?_)
          rintro e w17 ⟨rfl, hb⟩
          have I17 := Lib.hid (I15.out.below hb I15.out.lt)
          have B17 := Lib.hid (B15.out.below hb B15.out.lt)
          have E17 := Lib.hid (E15.out.below hb E15.out.lt)
          have D17 := Lib.hid (D15.out.below hb D15.out.lt)
          have C17 := Lib.hid (C15.out.below hb C15.out.lt)
          have Q17 := Lib.hid (Q15.out.below hb Q15.out.lt)
          have Z17 := Lib.hid (Z15.out.below hb Z15.out.lt)
          have b17 := Lib.hid (b15.out.trans (hb.mono b15.out.size))
          clear hb I15 B15 E15 D15 C15 Q15 Z15 b15 yQ yC yZ
          go_wp2
          go_ret
          exact ⟨rfl, b17.out⟩
        ·
          replace KX := Lib.hid KX
          have KI := Lib.hid (fun W => arIn_any a b a' b' W (by rw [avB_true]; omega) (by rw [avB_true]; omega))
          rw [decide_eq_true hb1, decide_eq_true hb2] at KI
          clear hal HW
          have yI : ∀ i, w13.cell? ⟨aI, i, none⟩ = (#[.int .i64 ix, .slice A n c] : Array Value)[i]? := fun i => I12.out.cell i
          have yB : ∀ i, w13.cell? ⟨aB, i, none⟩ = (#[txb body, .int .i64 limb, .int .i64 tlo, .int .i64 thi, .int .i64 hs, .int .i64 0, .int .i64 hor, .int .i64 eye, .int .i64 shore, .int .i64 temp, .int .i64 press] : Array Value)[i]? := fun i => B12.out.cell i
          have yE : ∀ i, w13.cell? ⟨aE, i, none⟩ = (#[.int .i64 g0, .int .i64 g1, .int .i64 g2, .int .i64 g3, .int .i64 e0, .int .i64 e1, .int .i64 p0, .int .i64 p1] : Array Value)[i]? := fun i => E12.out.cell i
          have yQ : ∀ i, w13.cell? ⟨w11.heap.size, i, none⟩ = (#[.int .i64 (h0 - l), .int .i64 (h1 + l)] : Array Value)[i]? := fun i => Q12.out.cell i
          go_wp2_with fail
          (with_reducible refine (KX.out _ b12.out).mono ?_)
          rintro e w14 ⟨rfl, hb⟩
          have I14 := Lib.hid (I12.out.below hb I12.out.lt)
          have B14 := Lib.hid (B12.out.below hb B12.out.lt)
          have E14 := Lib.hid (E12.out.below hb E12.out.lt)
          have D14 := Lib.hid (D12.out.below hb D12.out.lt)
          have C14 := Lib.hid (C12.out.below hb C12.out.lt)
          have Q14 := Lib.hid (Q12.out.below hb Q12.out.lt)
          have b14 := Lib.hid (b12.out.trans (hb.mono b12.out.size))
          clear hb I12 B12 E12 D12 C12 Q12 b12 yI yB yE yQ
          have I15 := Lib.hid (I14.out.alloc (.cells #[.int .i64 (a'), .int .i64 (b')] 41))
          have B15 := Lib.hid (B14.out.alloc (.cells #[.int .i64 (a'), .int .i64 (b')] 41))
          have E15 := Lib.hid (E14.out.alloc (.cells #[.int .i64 (a'), .int .i64 (b')] 41))
          have D15 := Lib.hid (D14.out.alloc (.cells #[.int .i64 (a'), .int .i64 (b')] 41))
          have C15 := Lib.hid (C14.out.alloc (.cells #[.int .i64 (a'), .int .i64 (b')] 41))
          have Q15 := Lib.hid (Q14.out.alloc (.cells #[.int .i64 (a'), .int .i64 (b')] 41))
          have Z15 := Lib.hid (Blk.new w14 41 #[.int .i64 (a'), .int .i64 (b')])
          have b15 := Lib.hid (b14.out.trans ((bl_alloc w14 (.cells #[.int .i64 (a'), .int .i64 (b')] 41)).mono b14.out.size))
          clear I14 B14 E14 D14 C14 Q14 b14
          go_upto_region 16 with fail
          generalize w14.alloc (.cells #[.int .i64 (a'), .int .i64 (b')] 41) = w16 at *
          have yQ : ∀ i, w16.cell? ⟨w11.heap.size, i, none⟩ = (#[.int .i64 (h0 - l), .int .i64 (h1 + l)] : Array Value)[i]? := fun i => Q15.out.cell i
          have yC : ∀ i, w16.cell? ⟨w9.heap.size, i, none⟩ = (#[.int .i64 a, .int .i64 b] : Array Value)[i]? := fun i => C15.out.cell i
          have yZ : ∀ i, w16.cell? ⟨w14.heap.size, i, none⟩ = (#[.int .i64 (a'), .int .i64 (b')] : Array Value)[i]? := fun i => Z15.out.cell i
          go_wp2_with fail
          (with_reducible refine (KI.out _).mono ?_)
          rintro e w17 ⟨rfl, hb⟩
          have I17 := Lib.hid (I15.out.below hb I15.out.lt)
          have B17 := Lib.hid (B15.out.below hb B15.out.lt)
          have E17 := Lib.hid (E15.out.below hb E15.out.lt)
          have D17 := Lib.hid (D15.out.below hb D15.out.lt)
          have C17 := Lib.hid (C15.out.below hb C15.out.lt)
          have Q17 := Lib.hid (Q15.out.below hb Q15.out.lt)
          have Z17 := Lib.hid (Z15.out.below hb Z15.out.lt)
          have b17 := Lib.hid (b15.out.trans (hb.mono b15.out.size))
          clear hb I15 B15 E15 D15 C15 Q15 Z15 b15 yQ yC yZ
          go_wp2
          go_ret
          exact ⟨rfl, b17.out⟩
end Go.Proofs.YtbpnacacnncopaaGreatDoor
