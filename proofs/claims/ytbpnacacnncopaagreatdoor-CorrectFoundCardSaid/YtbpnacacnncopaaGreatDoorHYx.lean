/- correct.Work. -/
import Derived.Test.YtbpnacacnncopaaGreatDoorHYw
import Derived.Test.YtbpnacacnncopaaGreatDoorHXl
set_option linter.unusedVariables false
set_option linter.unusedSimpArgs false
namespace Go.Proofs.YtbpnacacnncopaaGreatDoor
open Go.RowKit Frm
theorem wp_load_wk {o : Oper} {a : Act} {w : World} {K : Act → World → Prop} {Q : Exit → Act → World → Prop} (x : Operand) (ho : o.op = .load 46 x) {g : Nat} (hx : a.eval x = .pointer (some ⟨g, 0, none⟩)) {cs : Array Value} (h : Blk w g 46 cs) (hs : cs.size = 14)
    (hk : K (a.put o.dst (.agg cs)) w) : o.wp Tryz.prog a w K Q := by
  have hi : (Tryz.prog.info? 46).map (·.size) = some 14 := by kernel_rfl
  exact wp_load_mid _ x ho g 0 hx cs.toList (.struct (Tryz.prog.fieldsOf 46)) (fun j v hv => by rw [Nat.zero_add, h.cell]; simpa using hv) (by kernel_rfl) rfl (by simpa [hs] using hi) (by simpa using hk)
theorem ret_wk {tmps : Array Value} {w : World} {g : Nat} {cs : Array Value} (hp : tmps.getD 6 undef = .pointer (some ⟨g, 0, none⟩)) (h : Blk w g 46 cs) (hs : cs.size = 14) :
    (results Tryz.f16 tmps).run Tryz.prog w = .ok (.tuple #[.agg cs, tmps.getD 7 undef]) w := by
  have hi : (Tryz.prog.info? 46).map (·.size) = some 14 := by kernel_rfl
  rw [results_cell_tmp Tryz.results16, hp]
  have := run_loadVar_row (P := Tryz.prog) w g 46 46 cs (0, 0) (.struct (Tryz.prog.fieldsOf 46)) h (by kernel_rfl) rfl (by rw [hs]; exact hi)
  simp [asAddr, this, Result.andThen]
theorem sc_gen {p q n : Int} (p0 : -1073741824 ≤ p) (pq : p ≤ q) (q1 : q ≤ 1073741824) (n0 : 0 ≤ n) : -n ≤ scA p q n ∧ scA p q n ≤ scB p q n ∧ scB p q n ≤ n := by
  unfold scA scB
  have a1 := Int.mul_le_mul_of_nonneg_right p0 n0
  have a2 := Int.mul_le_mul_of_nonneg_right pq n0
  have a3 := Int.mul_le_mul_of_nonneg_right q1 n0
  obtain ⟨x, hx⟩ : ∃ x, p * n = x := ⟨_, rfl⟩
  obtain ⟨y, hy⟩ : ∃ y, q * n = y := ⟨_, rfl⟩
  rw [hx] at a1 a2 ⊢
  rw [hy] at a2 a3 ⊢
  omega
theorem px_bd {a b : Int} (lo hi : Int) (hs : smP a b = true) : -120000 ≤ pxA a b lo hi ∧ pxA a b lo hi ≤ pxB a b lo hi ∧ pxB a b lo hi ≤ 120000 := by
  unfold smP at hs
  rw [decide_eq_true_eq] at hs
  have e := en_le (lo + 5400000) (hi + 5400000)
  have h1 := sc_gen (p := Trig.enLo (lo + 5400000) (hi + 5400000)) (q := Trig.enHi (lo + 5400000) (hi + 5400000)) (n := a) e.1 e.2.1 e.2.2 hs.1
  have h2 := sc_gen (p := Trig.enLo (lo + 5400000) (hi + 5400000)) (q := Trig.enHi (lo + 5400000) (hi + 5400000)) (n := b) e.1 e.2.1 e.2.2 (by omega)
  unfold pxA pxB tmA tmB
  omega
theorem se_bd {a b : Int} (limb c d lo hi : Int) (hs : smP a b = true) : -240000 ≤ seA limb a b c d lo hi ∧ seA limb a b c d lo hi ≤ seB limb a b c d lo hi ∧ seB limb a b c d lo hi ≤ 240000 := by
  have h := au_bd c d lo hi hs
  have h0 : 0 ≤ a := by unfold smP at hs; rw [decide_eq_true_eq] at hs; exact hs.1
  unfold seA seB
  split
  · omega
  · split <;> omega
/-- the reading that is corrected, and halved if the horizon is artificial -/
def apA (ix : Int) (T : List Ent) (s : Sgt) : Int := if s.hor = 2 then (s.hs - s.by_ + coA ix T s.hs) / 2 else s.hs - s.by_ + coA ix T s.hs
def apB (ix : Int) (T : List Ent) (s : Sgt) : Int := if s.hor = 2 then -(-(s.hs + s.by_ + coB ix T s.hs) / 2) else s.hs + s.by_ + coB ix T s.hs
/-- the apparent altitude -/
def haA (ix : Int) (T : List Ent) (s : Sgt) : Int := apA ix T s - depB s
def haB (ix : Int) (T : List Ent) (s : Sgt) : Int := apB ix T s - depA s
/-- the altitude -/
def hoA (ix : Int) (T : List Ent) (s : Sgt) (e0 e1 p0 p1 : Int) : Int := haA ix T s - rfH (haA ix T s) s.temp s.press + pxA p0 p1 (haA ix T s) (haB ix T s) + seA s.limb e0 e1 p0 p1 (haA ix T s) (haB ix T s)
def hoB (ix : Int) (T : List Ent) (s : Sgt) (e0 e1 p0 p1 : Int) : Int := haB ix T s - rfL (haB ix T s) s.temp s.press + pxB p0 p1 (haA ix T s) (haB ix T s) + seB s.limb e0 e1 p0 p1 (haA ix T s) (haB ix T s)
/-- corrections as a value -/
abbrev wkV (a b c d e f g h i j k l m n : Int) : Value := .agg #[.int .i64 a, .int .i64 b, .int .i64 c, .int .i64 d, .int .i64 e, .int .i64 f, .int .i64 g, .int .i64 h, .int .i64 i, .int .i64 j, .int .i64 k, .int .i64 l, .int .i64 m, .int .i64 n]
abbrev wk0 : Value := wkV 0 0 0 0 0 0 0 0 0 0 0 0 0 0
def wkS (ix : Int) (T : List Ent) (s : Sgt) (e0 e1 p0 p1 : Int) : Value := wkV (coA ix T s.hs) (coB ix T s.hs) (depA s) (depB s) (rfL (haB ix T s) s.temp s.press) (rfH (haA ix T s) s.temp s.press) (pxA p0 p1 (haA ix T s) (haB ix T s)) (pxB p0 p1 (haA ix T s) (haB ix T s)) (seA s.limb e0 e1 p0 p1 (haA ix T s) (haB ix T s)) (seB s.limb e0 e1 p0 p1 (haA ix T s) (haB ix T s)) (haA ix T s) (haB ix T s) (hoA ix T s e0 e1 p0 p1) (hoB ix T s e0 e1 p0 p1)
def inHa (ix : Int) (T : List Ent) (s : Sgt) : Bool := decide (-60000 ≤ haA ix T s) && decide (haB ix T s ≤ 5400000)
/-- what correct.Work returns -/
def WkR (ix : Int) (T : List Ent) (s : Sgt) (e0 e1 p0 p1 : Int) (e : Ending) : Prop := (givB ix T s e0 e1 p0 p1 = false ∧ e = .returned (.tuple #[wk0, .int .i64 1])) ∨ (givB ix T s e0 e1 p0 p1 = true ∧ inHa ix T s = false ∧ e = .returned (.tuple #[wk0, .int .i64 2])) ∨ (givB ix T s e0 e1 p0 p1 = true ∧ inHa ix T s = true ∧ e = .returned (.tuple #[wkS ix T s e0 e1 p0 p1, .int .i64 0]))
theorem possible_any (w : World) : Calls Tryz.prog 57 #[] w fun e w' => e = .returned (.agg #[.int .i64 (-60000), .int .i64 5400000]) ∧ Below w.heap.size w w' := by
  go_enter Tryz.func57, Tryz.ntmps57
  go_wp2
  refine bodyPost_ret (v := .agg #[.int .i64 (-60000), .int .i64 5400000]) (by simp [results, Tryz.results57, go_sem, *]; done) rfl ⟨rfl, ?_⟩
  repeat (first | exact Below.refl _ _ | assumption | refine bl_drew ?_ | refine bl_drewN ?_ _ | refine Below.setCell ?_ (by first | assumption | omega | (simp; done) | (simp; omega)) _ | refine Below.alloc ?_ (by first | assumption | omega | (simp; done) | (simp; omega)) _)
set_option maxHeartbeats 16000000 in
set_option maxRecDepth 100000 in
theorem Work_any (ix : Int) (T : List Ent) (A : Option Addr) (n c : Nat) (s : Sgt) (g0 g1 g2 g3 e0 e1 p0 p1 : Int) (w : World) (hT : TabAt w w.heap.size A T) (hn : T.length = n) (hn1 : n ≤ 1000) (hl : s.body.length ≤ 100000) :
    Calls Tryz.prog 16 #[.agg #[.int .i64 ix, .slice A n c], sgv s.body s.limb s.lo s.hi s.hs s.by_ s.hor s.eye s.shore s.temp s.press, .agg #[.int .i64 g0, .int .i64 g1, .int .i64 g2, .int .i64 g3, .int .i64 e0, .int .i64 e1, .int .i64 p0, .int .i64 p1]] w fun e w' => WkR ix T s e0 e1 p0 p1 e ∧ Below w.heap.size w w' := by
  have KG := Lib.hid (fun W (hW : Below w.heap.size w W) => given_any ix T A n c s g0 g1 g2 g3 e0 e1 p0 p1 W (hT.up hW) hn hn1 hl)
  cases hgv : givB ix T s e0 e1 p0 p1 with
  | false =>
    rw [hgv] at KG
    have HP : Hid (WkR ix T s e0 e1 p0 p1 (.returned (.tuple #[wk0, .int .i64 1]))) := Lib.hid (.inl ⟨hgv, rfl⟩)
    generalize WkR ix T s e0 e1 p0 p1 = PR at *
    clear hgv
    obtain ⟨body, limb, tlo, thi, hs, by_, hor, eye, shore, temp, press⟩ := s
    simp only [] at KG ⊢
    have I0 := Lib.hid ((((Blk.new w 40 #[.int .i64 ix, .slice A n c]).alloc (.cells #[txb body, .int .i64 limb, .int .i64 tlo, .int .i64 thi, .int .i64 hs, .int .i64 by_, .int .i64 hor, .int .i64 eye, .int .i64 shore, .int .i64 temp, .int .i64 press] 25)).alloc (.cells #[.int .i64 g0, .int .i64 g1, .int .i64 g2, .int .i64 g3, .int .i64 e0, .int .i64 e1, .int .i64 p0, .int .i64 p1] 43)).alloc (.cells #[.int .i64 0, .int .i64 0, .int .i64 0, .int .i64 0, .int .i64 0, .int .i64 0, .int .i64 0, .int .i64 0, .int .i64 0, .int .i64 0, .int .i64 0, .int .i64 0, .int .i64 0, .int .i64 0] 46))
    have B0 := Lib.hid (((Blk.new (w.alloc (.cells #[.int .i64 ix, .slice A n c] 40)) 25 #[txb body, .int .i64 limb, .int .i64 tlo, .int .i64 thi, .int .i64 hs, .int .i64 by_, .int .i64 hor, .int .i64 eye, .int .i64 shore, .int .i64 temp, .int .i64 press]).alloc (.cells #[.int .i64 g0, .int .i64 g1, .int .i64 g2, .int .i64 g3, .int .i64 e0, .int .i64 e1, .int .i64 p0, .int .i64 p1] 43)).alloc (.cells #[.int .i64 0, .int .i64 0, .int .i64 0, .int .i64 0, .int .i64 0, .int .i64 0, .int .i64 0, .int .i64 0, .int .i64 0, .int .i64 0, .int .i64 0, .int .i64 0, .int .i64 0, .int .i64 0] 46))
    simp only [World.size_alloc] at B0
    have E0 := Lib.hid ((Blk.new ((w.alloc (.cells #[.int .i64 ix, .slice A n c] 40)).alloc (.cells #[txb body, .int .i64 limb, .int .i64 tlo, .int .i64 thi, .int .i64 hs, .int .i64 by_, .int .i64 hor, .int .i64 eye, .int .i64 shore, .int .i64 temp, .int .i64 press] 25)) 43 #[.int .i64 g0, .int .i64 g1, .int .i64 g2, .int .i64 g3, .int .i64 e0, .int .i64 e1, .int .i64 p0, .int .i64 p1]).alloc (.cells #[.int .i64 0, .int .i64 0, .int .i64 0, .int .i64 0, .int .i64 0, .int .i64 0, .int .i64 0, .int .i64 0, .int .i64 0, .int .i64 0, .int .i64 0, .int .i64 0, .int .i64 0, .int .i64 0] 46))
    simp only [World.size_alloc] at E0
    have R0 := Lib.hid (Blk.new (((w.alloc (.cells #[.int .i64 ix, .slice A n c] 40)).alloc (.cells #[txb body, .int .i64 limb, .int .i64 tlo, .int .i64 thi, .int .i64 hs, .int .i64 by_, .int .i64 hor, .int .i64 eye, .int .i64 shore, .int .i64 temp, .int .i64 press] 25)).alloc (.cells #[.int .i64 g0, .int .i64 g1, .int .i64 g2, .int .i64 g3, .int .i64 e0, .int .i64 e1, .int .i64 p0, .int .i64 p1] 43)) 46 #[.int .i64 0, .int .i64 0, .int .i64 0, .int .i64 0, .int .i64 0, .int .i64 0, .int .i64 0, .int .i64 0, .int .i64 0, .int .i64 0, .int .i64 0, .int .i64 0, .int .i64 0, .int .i64 0])
    simp only [World.size_alloc] at R0
    have b0 := Lib.hid (((((Below.refl w.heap.size w).alloc (Nat.le_refl _) (.cells #[.int .i64 ix, .slice A n c] 40)).alloc (by simp) (.cells #[txb body, .int .i64 limb, .int .i64 tlo, .int .i64 thi, .int .i64 hs, .int .i64 by_, .int .i64 hor, .int .i64 eye, .int .i64 shore, .int .i64 temp, .int .i64 press] 25)).alloc (by simp; omega) (.cells #[.int .i64 g0, .int .i64 g1, .int .i64 g2, .int .i64 g3, .int .i64 e0, .int .i64 e1, .int .i64 p0, .int .i64 p1] 43)).alloc (by simp; omega) (.cells #[.int .i64 0, .int .i64 0, .int .i64 0, .int .i64 0, .int .i64 0, .int .i64 0, .int .i64 0, .int .i64 0, .int .i64 0, .int .i64 0, .int .i64 0, .int .i64 0, .int .i64 0, .int .i64 0] 46))
    go_enter Tryz.func16, Tryz.ntmps16
    go_upto_region 1 with fail
    generalize ((((w.alloc (.cells #[.int .i64 ix, .slice A n c] 40)).alloc (.cells #[txb body, .int .i64 limb, .int .i64 tlo, .int .i64 thi, .int .i64 hs, .int .i64 by_, .int .i64 hor, .int .i64 eye, .int .i64 shore, .int .i64 temp, .int .i64 press] 25)).alloc (.cells #[.int .i64 g0, .int .i64 g1, .int .i64 g2, .int .i64 g3, .int .i64 e0, .int .i64 e1, .int .i64 p0, .int .i64 p1] 43)).alloc (.cells #[.int .i64 0, .int .i64 0, .int .i64 0, .int .i64 0, .int .i64 0, .int .i64 0, .int .i64 0, .int .i64 0, .int .i64 0, .int .i64 0, .int .i64 0, .int .i64 0, .int .i64 0, .int .i64 0] 46)) = w1 at *
    have yI : ∀ i, w1.cell? ⟨w.heap.size, i, none⟩ = (#[.int .i64 ix, .slice A n c] : Array Value)[i]? := fun i => I0.out.cell i
    have yB : ∀ i, w1.cell? ⟨w.heap.size + 1, i, none⟩ = (#[txb body, .int .i64 limb, .int .i64 tlo, .int .i64 thi, .int .i64 hs, .int .i64 by_, .int .i64 hor, .int .i64 eye, .int .i64 shore, .int .i64 temp, .int .i64 press] : Array Value)[i]? := fun i => B0.out.cell i
    have yE : ∀ i, w1.cell? ⟨w.heap.size + 1 + 1, i, none⟩ = (#[.int .i64 g0, .int .i64 g1, .int .i64 g2, .int .i64 g3, .int .i64 e0, .int .i64 e1, .int .i64 p0, .int .i64 p1] : Array Value)[i]? := fun i => E0.out.cell i
    go_wp2_with fail
    (with_reducible refine (KG.out _ b0.out).mono ?_)
    rintro e w2 ⟨rfl, hb⟩
    have I2 := Lib.hid (I0.out.below hb I0.out.lt)
    have B2 := Lib.hid (B0.out.below hb B0.out.lt)
    have E2 := Lib.hid (E0.out.below hb E0.out.lt)
    have R2 := Lib.hid (R0.out.below hb R0.out.lt)
    have b2 := Lib.hid (b0.out.trans (hb.mono b0.out.size))
    clear hb I0 B0 E0 R0 b0 yI yB yE
    go_upto_region 2 with fail
    iterate 4 go_step
    refine wpList_store_row rfl _ (.tmp 6) (.tmp 16) rfl _ _ rfl rfl _ _ R2.out (by kernel_rfl) (by rfl) (by simp [Value.oneCell']) ?_
    simp only [Act.put, List.setIfInBounds_toArray, List.set_cons_zero, List.set_cons_succ]
    have ZZ := Lib.hid (Blk.rowW R2.out #[.int .i64 0, .int .i64 0, .int .i64 0, .int .i64 0, .int .i64 0, .int .i64 0, .int .i64 0, .int .i64 0, .int .i64 0, .int .i64 0, .int .i64 0, .int .i64 0, .int .i64 0, .int .i64 0])
    have BB := Lib.hid (bl_setRowW (g := (w.heap.size + 1 + 1 + 1)) b2.out (by omega) #[.int .i64 0, .int .i64 0, .int .i64 0, .int .i64 0, .int .i64 0, .int .i64 0, .int .i64 0, .int .i64 0, .int .i64 0, .int .i64 0, .int .i64 0, .int .i64 0, .int .i64 0, .int .i64 0])
    generalize w2.setRow (w.heap.size + 1 + 1 + 1) #[.int .i64 0, .int .i64 0, .int .i64 0, .int .i64 0, .int .i64 0, .int .i64 0, .int .i64 0, .int .i64 0, .int .i64 0, .int .i64 0, .int .i64 0, .int .i64 0, .int .i64 0, .int .i64 0] = wz at *
    go_wp2
    exact bodyPost_ret_by (ret_wk rfl ZZ.out rfl) rfl ⟨HP.out, BB.out⟩
  | true =>
    rw [hgv] at KG
    have hg2 := hgv
    unfold givB at hg2
    simp only [Bool.and_eq_true] at hg2
    obtain ⟨hi, hs, he, hp⟩ := hg2
    have k := si_ok hs
    have khs := k.hs
    have kby := k.by_
    have kt := k.temp
    have kp := k.press
    have hco := co_bd (hs := s.hs) hi
    have KC := Lib.hid (fun W (hW : Below w.heap.size w W) => Corr_any ix s.hs T A n c W (hT.up hW) hn hi khs.1 khs.2)
    have KA := Lib.hid (fun W (hW : Below w.heap.size w W) => Apply_any ix s.hs s.by_ T A n c W (hT.up hW) hn hi khs.1 khs.2 kby.1 kby.2)
    have KD := Lib.hid (fun g W h => dep_any g s W h hs)
    have KU := Lib.hid (fun g q c0 c1 c2 c3 lo hi d0 d1 d2 d3 W hg hq hne h0 h1 h2 => up_any g q s g0 g1 g2 g3 e0 e1 p0 p1 lo hi c0 c1 c2 c3 d0 d1 d2 d3 W hg hq hne hs he hp h0 h1 h2)
    have P0 : Hid (inHa ix T s = false → WkR ix T s e0 e1 p0 p1 (.returned (.tuple #[wk0, .int .i64 2]))) := Lib.hid fun h => .inr (.inl ⟨hgv, h, rfl⟩)
    have P1 : Hid (inHa ix T s = true → WkR ix T s e0 e1 p0 p1 (.returned (.tuple #[wkS ix T s e0 e1 p0 p1, .int .i64 0]))) := Lib.hid fun h => .inr (.inr ⟨hgv, h, rfl⟩)
    generalize WkR ix T s e0 e1 p0 p1 = PR at *
    have hrf := fun (h0 : -60000 ≤ haA ix T s) (h1 : haA ix T s ≤ haB ix T s) (h2 : haB ix T s ≤ 5400000) => rf_bd (lo := haA ix T s) (hi := haB ix T s) (T := s.temp) (P := s.press) h0 h1 h2 kt.1 kt.2 kp.1 kp.2
    have hpx := px_bd (haA ix T s) (haB ix T s) hp
    have hse := se_bd s.limb p0 p1 (haA ix T s) (haB ix T s) he
    have hin : inHa ix T s = (decide (-60000 ≤ haA ix T s) && decide (haB ix T s ≤ 5400000)) := rfl
    have hhA : haA ix T s = apA ix T s - depB s := rfl
    have hhB : haB ix T s = apB ix T s - depA s := rfl
    have haP : apA ix T s = if s.hor = 2 then (s.hs - s.by_ + coA ix T s.hs) / 2 else s.hs - s.by_ + coA ix T s.hs := rfl
    have hbP : apB ix T s = if s.hor = 2 then -(-(s.hs + s.by_ + coB ix T s.hs) / 2) else s.hs + s.by_ + coB ix T s.hs := rfl
    have hoP : hoA ix T s e0 e1 p0 p1 = haA ix T s - rfH (haA ix T s) s.temp s.press + pxA p0 p1 (haA ix T s) (haB ix T s) + seA s.limb e0 e1 p0 p1 (haA ix T s) (haB ix T s) := rfl
    have hoQ : hoB ix T s e0 e1 p0 p1 = haB ix T s - rfL (haB ix T s) s.temp s.press + pxB p0 p1 (haA ix T s) (haB ix T s) + seB s.limb e0 e1 p0 p1 (haA ix T s) (haB ix T s) := rfl
    unfold wkS at P1
    replace KU := Lib.hid (fun g q c0 c1 c2 c3 d2 d3 W hg hq hne h0 h1 h2 => KU.out g q c0 c1 c2 c3 (haA ix T s) (haB ix T s) (haA ix T s) (haB ix T s) d2 d3 W hg hq hne h0 h1 h2)
    generalize hoA ix T s e0 e1 p0 p1 = ho0 at *
    generalize hoB ix T s e0 e1 p0 p1 = ho1 at *
    generalize rfL (haB ix T s) s.temp s.press = r0 at *
    generalize rfH (haA ix T s) s.temp s.press = r1 at *
    generalize pxA p0 p1 (haA ix T s) (haB ix T s) = x0 at *
    generalize pxB p0 p1 (haA ix T s) (haB ix T s) = x1 at *
    generalize seA s.limb e0 e1 p0 p1 (haA ix T s) (haB ix T s) = s0 at *
    generalize seB s.limb e0 e1 p0 p1 (haA ix T s) (haB ix T s) = s1 at *
    generalize inHa ix T s = ib at *
    generalize haA ix T s = a0 at *
    generalize haB ix T s = a1 at *
    generalize apA ix T s = y0 at *
    generalize apB ix T s = y1 at *
    generalize coA ix T s.hs = co0 at *
    generalize coB ix T s.hs = co1 at *
    generalize depA s = dp0 at *
    generalize depB s = dp1 at *
    have HRF := Lib.hid hrf
    have HIN := Lib.hid hin
    have HO0 := Lib.hid hoP
    have HO1 := Lib.hid hoQ
    have HHA := Lib.hid hhA
    have HHB := Lib.hid hhB
    have HAP := Lib.hid haP
    have HBP := Lib.hid hbP
    clear hgv hi hs he hp k kt kp hrf hin hoP hoQ hhA hhB haP hbP hT hn hn1 hl
    obtain ⟨body, limb, tlo, thi, hs, by_, hor, eye, shore, temp, press⟩ := s
    simp only [] at khs kby KG KC KA KD KU HAP HBP ⊢
    have I0 := Lib.hid ((((Blk.new w 40 #[.int .i64 ix, .slice A n c]).alloc (.cells #[txb body, .int .i64 limb, .int .i64 tlo, .int .i64 thi, .int .i64 hs, .int .i64 by_, .int .i64 hor, .int .i64 eye, .int .i64 shore, .int .i64 temp, .int .i64 press] 25)).alloc (.cells #[.int .i64 g0, .int .i64 g1, .int .i64 g2, .int .i64 g3, .int .i64 e0, .int .i64 e1, .int .i64 p0, .int .i64 p1] 43)).alloc (.cells #[.int .i64 0, .int .i64 0, .int .i64 0, .int .i64 0, .int .i64 0, .int .i64 0, .int .i64 0, .int .i64 0, .int .i64 0, .int .i64 0, .int .i64 0, .int .i64 0, .int .i64 0, .int .i64 0] 46))
    have B0 := Lib.hid (((Blk.new (w.alloc (.cells #[.int .i64 ix, .slice A n c] 40)) 25 #[txb body, .int .i64 limb, .int .i64 tlo, .int .i64 thi, .int .i64 hs, .int .i64 by_, .int .i64 hor, .int .i64 eye, .int .i64 shore, .int .i64 temp, .int .i64 press]).alloc (.cells #[.int .i64 g0, .int .i64 g1, .int .i64 g2, .int .i64 g3, .int .i64 e0, .int .i64 e1, .int .i64 p0, .int .i64 p1] 43)).alloc (.cells #[.int .i64 0, .int .i64 0, .int .i64 0, .int .i64 0, .int .i64 0, .int .i64 0, .int .i64 0, .int .i64 0, .int .i64 0, .int .i64 0, .int .i64 0, .int .i64 0, .int .i64 0, .int .i64 0] 46))
    simp only [World.size_alloc] at B0
    have E0 := Lib.hid ((Blk.new ((w.alloc (.cells #[.int .i64 ix, .slice A n c] 40)).alloc (.cells #[txb body, .int .i64 limb, .int .i64 tlo, .int .i64 thi, .int .i64 hs, .int .i64 by_, .int .i64 hor, .int .i64 eye, .int .i64 shore, .int .i64 temp, .int .i64 press] 25)) 43 #[.int .i64 g0, .int .i64 g1, .int .i64 g2, .int .i64 g3, .int .i64 e0, .int .i64 e1, .int .i64 p0, .int .i64 p1]).alloc (.cells #[.int .i64 0, .int .i64 0, .int .i64 0, .int .i64 0, .int .i64 0, .int .i64 0, .int .i64 0, .int .i64 0, .int .i64 0, .int .i64 0, .int .i64 0, .int .i64 0, .int .i64 0, .int .i64 0] 46))
    simp only [World.size_alloc] at E0
    have R0 := Lib.hid (Blk.new (((w.alloc (.cells #[.int .i64 ix, .slice A n c] 40)).alloc (.cells #[txb body, .int .i64 limb, .int .i64 tlo, .int .i64 thi, .int .i64 hs, .int .i64 by_, .int .i64 hor, .int .i64 eye, .int .i64 shore, .int .i64 temp, .int .i64 press] 25)).alloc (.cells #[.int .i64 g0, .int .i64 g1, .int .i64 g2, .int .i64 g3, .int .i64 e0, .int .i64 e1, .int .i64 p0, .int .i64 p1] 43)) 46 #[.int .i64 0, .int .i64 0, .int .i64 0, .int .i64 0, .int .i64 0, .int .i64 0, .int .i64 0, .int .i64 0, .int .i64 0, .int .i64 0, .int .i64 0, .int .i64 0, .int .i64 0, .int .i64 0])
    simp only [World.size_alloc] at R0
    have b0 := Lib.hid (((((Below.refl w.heap.size w).alloc (Nat.le_refl _) (.cells #[.int .i64 ix, .slice A n c] 40)).alloc (by simp) (.cells #[txb body, .int .i64 limb, .int .i64 tlo, .int .i64 thi, .int .i64 hs, .int .i64 by_, .int .i64 hor, .int .i64 eye, .int .i64 shore, .int .i64 temp, .int .i64 press] 25)).alloc (by simp; omega) (.cells #[.int .i64 g0, .int .i64 g1, .int .i64 g2, .int .i64 g3, .int .i64 e0, .int .i64 e1, .int .i64 p0, .int .i64 p1] 43)).alloc (by simp; omega) (.cells #[.int .i64 0, .int .i64 0, .int .i64 0, .int .i64 0, .int .i64 0, .int .i64 0, .int .i64 0, .int .i64 0, .int .i64 0, .int .i64 0, .int .i64 0, .int .i64 0, .int .i64 0, .int .i64 0] 46))
    go_enter Tryz.func16, Tryz.ntmps16
    go_upto_region 1 with fail
    generalize ((((w.alloc (.cells #[.int .i64 ix, .slice A n c] 40)).alloc (.cells #[txb body, .int .i64 limb, .int .i64 tlo, .int .i64 thi, .int .i64 hs, .int .i64 by_, .int .i64 hor, .int .i64 eye, .int .i64 shore, .int .i64 temp, .int .i64 press] 25)).alloc (.cells #[.int .i64 g0, .int .i64 g1, .int .i64 g2, .int .i64 g3, .int .i64 e0, .int .i64 e1, .int .i64 p0, .int .i64 p1] 43)).alloc (.cells #[.int .i64 0, .int .i64 0, .int .i64 0, .int .i64 0, .int .i64 0, .int .i64 0, .int .i64 0, .int .i64 0, .int .i64 0, .int .i64 0, .int .i64 0, .int .i64 0, .int .i64 0, .int .i64 0] 46)) = w1 at *
    have yI : ∀ i, w1.cell? ⟨w.heap.size, i, none⟩ = (#[.int .i64 ix, .slice A n c] : Array Value)[i]? := fun i => I0.out.cell i
    have yB : ∀ i, w1.cell? ⟨w.heap.size + 1, i, none⟩ = (#[txb body, .int .i64 limb, .int .i64 tlo, .int .i64 thi, .int .i64 hs, .int .i64 by_, .int .i64 hor, .int .i64 eye, .int .i64 shore, .int .i64 temp, .int .i64 press] : Array Value)[i]? := fun i => B0.out.cell i
    have yE : ∀ i, w1.cell? ⟨w.heap.size + 1 + 1, i, none⟩ = (#[.int .i64 g0, .int .i64 g1, .int .i64 g2, .int .i64 g3, .int .i64 e0, .int .i64 e1, .int .i64 p0, .int .i64 p1] : Array Value)[i]? := fun i => E0.out.cell i
    go_wp2_with fail
    (with_reducible refine (KG.out _ b0.out).mono ?_)
    rintro e w2 ⟨rfl, hb⟩
    have I2 := Lib.hid (I0.out.below hb I0.out.lt)
    have B2 := Lib.hid (B0.out.below hb B0.out.lt)
    have E2 := Lib.hid (E0.out.below hb E0.out.lt)
    have R2 := Lib.hid (R0.out.below hb R0.out.lt)
    have b2 := Lib.hid (b0.out.trans (hb.mono b0.out.size))
    clear hb I0 B0 E0 R0 b0 yI yB yE
    have oR : w.heap.size + 1 + 1 + 1 < w2.heap.size := R2.out.lt
    have I3 := Lib.hid (I2.out.alloc (.cells #[.int .i64 0] 86))
    have B3 := Lib.hid (B2.out.alloc (.cells #[.int .i64 0] 86))
    have E3 := Lib.hid (E2.out.alloc (.cells #[.int .i64 0] 86))
    have R3 := Lib.hid (R2.out.alloc (.cells #[.int .i64 0] 86))
    have G3 := Lib.hid (Blk.new w2 86 #[.int .i64 0])
    have b3 := Lib.hid (b2.out.trans ((bl_alloc w2 (.cells #[.int .i64 0] 86)).mono b2.out.size))
    clear I2 B2 E2 R2 b2
    go_upto_region 4 with fail
    generalize w2.alloc (.cells #[.int .i64 0] 86) = w4 at *
    obtain ⟨aG, haG⟩ : ∃ a, w2.heap.size = a := ⟨_, rfl⟩
    rw [haG] at oR G3 ⊢
    clear haG
    have oG : aG < w4.heap.size := G3.out.lt
    have I5 := Lib.hid (I3.out.alloc (.cells #[.int .i64 0, .int .i64 0, .int .i64 0, .int .i64 0, .int .i64 0, .int .i64 0, .int .i64 0, .int .i64 0, .int .i64 0, .int .i64 0, .int .i64 0, .int .i64 0, .int .i64 0, .int .i64 0] 46))
    have B5 := Lib.hid (B3.out.alloc (.cells #[.int .i64 0, .int .i64 0, .int .i64 0, .int .i64 0, .int .i64 0, .int .i64 0, .int .i64 0, .int .i64 0, .int .i64 0, .int .i64 0, .int .i64 0, .int .i64 0, .int .i64 0, .int .i64 0] 46))
    have E5 := Lib.hid (E3.out.alloc (.cells #[.int .i64 0, .int .i64 0, .int .i64 0, .int .i64 0, .int .i64 0, .int .i64 0, .int .i64 0, .int .i64 0, .int .i64 0, .int .i64 0, .int .i64 0, .int .i64 0, .int .i64 0, .int .i64 0] 46))
    have R5 := Lib.hid (R3.out.alloc (.cells #[.int .i64 0, .int .i64 0, .int .i64 0, .int .i64 0, .int .i64 0, .int .i64 0, .int .i64 0, .int .i64 0, .int .i64 0, .int .i64 0, .int .i64 0, .int .i64 0, .int .i64 0, .int .i64 0] 46))
    have G5 := Lib.hid (G3.out.alloc (.cells #[.int .i64 0, .int .i64 0, .int .i64 0, .int .i64 0, .int .i64 0, .int .i64 0, .int .i64 0, .int .i64 0, .int .i64 0, .int .i64 0, .int .i64 0, .int .i64 0, .int .i64 0, .int .i64 0] 46))
    have Q5 := Lib.hid (Blk.new w4 46 #[.int .i64 0, .int .i64 0, .int .i64 0, .int .i64 0, .int .i64 0, .int .i64 0, .int .i64 0, .int .i64 0, .int .i64 0, .int .i64 0, .int .i64 0, .int .i64 0, .int .i64 0, .int .i64 0])
    have b5 := Lib.hid (b3.out.trans ((bl_alloc w4 (.cells #[.int .i64 0, .int .i64 0, .int .i64 0, .int .i64 0, .int .i64 0, .int .i64 0, .int .i64 0, .int .i64 0, .int .i64 0, .int .i64 0, .int .i64 0, .int .i64 0, .int .i64 0, .int .i64 0] 46)).mono b3.out.size))
    clear I3 B3 E3 R3 G3 b3
    go_upto_region 5 with fail
    generalize w4.alloc (.cells #[.int .i64 0, .int .i64 0, .int .i64 0, .int .i64 0, .int .i64 0, .int .i64 0, .int .i64 0, .int .i64 0, .int .i64 0, .int .i64 0, .int .i64 0, .int .i64 0, .int .i64 0, .int .i64 0] 46) = w6 at *
    obtain ⟨aQ, haQ⟩ : ∃ a, w4.heap.size = a := ⟨_, rfl⟩
    rw [haQ] at oG Q5 ⊢
    clear haQ
    have KK := Lib.hid (fun (a b : Int) W h => arcC_any aG a b W h)
    have yI : ∀ i, w6.cell? ⟨w.heap.size, i, none⟩ = (#[.int .i64 ix, .slice A n c] : Array Value)[i]? := fun i => I5.out.cell i
    have yB : ∀ i, w6.cell? ⟨w.heap.size + 1, i, none⟩ = (#[txb body, .int .i64 limb, .int .i64 tlo, .int .i64 thi, .int .i64 hs, .int .i64 by_, .int .i64 hor, .int .i64 eye, .int .i64 shore, .int .i64 temp, .int .i64 press] : Array Value)[i]? := fun i => B5.out.cell i
    go_wp2_with fail
    (with_reducible refine (KC.out _ b5.out).mono ?_)
    rintro e w7 ⟨rfl, hb⟩
    have I7 := Lib.hid (I5.out.below hb I5.out.lt)
    have B7 := Lib.hid (B5.out.below hb B5.out.lt)
    have E7 := Lib.hid (E5.out.below hb E5.out.lt)
    have R7 := Lib.hid (R5.out.below hb R5.out.lt)
    have G7 := Lib.hid (G5.out.below hb G5.out.lt)
    have Q7 := Lib.hid (Q5.out.below hb Q5.out.lt)
    have b7 := Lib.hid (b5.out.trans (hb.mono b5.out.size))
    clear hb I5 B5 E5 R5 G5 Q5 b5 yI yB
    go_wp2_with fail
    (with_reducible refine (KK.out co0 co1 _ G7.out).mono ?_)
    rintro e w8 ⟨rfl, hb⟩
    have I8 := Lib.hid (I7.out.below hb I7.out.lt)
    have B8 := Lib.hid (B7.out.below hb B7.out.lt)
    have E8 := Lib.hid (E7.out.below hb E7.out.lt)
    have R8 := Lib.hid (R7.out.below hb R7.out.lt)
    have G8 := Lib.hid (G7.out.below hb G7.out.lt)
    have Q8 := Lib.hid (Q7.out.below hb Q7.out.lt)
    have b8 := Lib.hid (b7.out.trans (hb.mono b7.out.size))
    clear hb I7 B7 E7 R7 G7 Q7 b7
    have yQ : ∀ i, w8.cell? ⟨aQ, i, none⟩ = (#[.int .i64 0, .int .i64 0, .int .i64 0, .int .i64 0, .int .i64 0, .int .i64 0, .int .i64 0, .int .i64 0, .int .i64 0, .int .i64 0, .int .i64 0, .int .i64 0, .int .i64 0, .int .i64 0] : Array Value)[i]? := fun i => Q8.out.cell i
    have zQ : ∀ i, w8.frozen? ⟨aQ, i, none⟩ = false := fun i => Q8.out.frozen i
    have I9 := Lib.hid (((I8.out).far (p := ⟨aQ, 0, none⟩) (show w.heap.size ≠ aQ by omega) (.int .i64 co0)).far (p := ⟨aQ, 1, none⟩) (show w.heap.size ≠ aQ by omega) (.int .i64 co1))
    have B9 := Lib.hid (((B8.out).far (p := ⟨aQ, 0, none⟩) (show w.heap.size + 1 ≠ aQ by omega) (.int .i64 co0)).far (p := ⟨aQ, 1, none⟩) (show w.heap.size + 1 ≠ aQ by omega) (.int .i64 co1))
    have E9 := Lib.hid (((E8.out).far (p := ⟨aQ, 0, none⟩) (show w.heap.size + 1 + 1 ≠ aQ by omega) (.int .i64 co0)).far (p := ⟨aQ, 1, none⟩) (show w.heap.size + 1 + 1 ≠ aQ by omega) (.int .i64 co1))
    have R9 := Lib.hid (((R8.out).far (p := ⟨aQ, 0, none⟩) (show w.heap.size + 1 + 1 + 1 ≠ aQ by omega) (.int .i64 co0)).far (p := ⟨aQ, 1, none⟩) (show w.heap.size + 1 + 1 + 1 ≠ aQ by omega) (.int .i64 co1))
    have G9 := Lib.hid (((G8.out).far (p := ⟨aQ, 0, none⟩) (show aG ≠ aQ by omega) (.int .i64 co0)).far (p := ⟨aQ, 1, none⟩) (show aG ≠ aQ by omega) (.int .i64 co1))
    have Q9 := Lib.hid ((show Blk ((w8.setCell ⟨aQ, 0, none⟩ (.int .i64 co0)).setCell ⟨aQ, 1, none⟩ (.int .i64 co1)) aQ 46 #[.int .i64 co0, .int .i64 co1, .int .i64 0, .int .i64 0, .int .i64 0, .int .i64 0, .int .i64 0, .int .i64 0, .int .i64 0, .int .i64 0, .int .i64 0, .int .i64 0, .int .i64 0, .int .i64 0] from by simpa using ((show Blk (w8.setCell ⟨aQ, 0, none⟩ (.int .i64 co0)) aQ 46 #[.int .i64 co0, .int .i64 0, .int .i64 0, .int .i64 0, .int .i64 0, .int .i64 0, .int .i64 0, .int .i64 0, .int .i64 0, .int .i64 0, .int .i64 0, .int .i64 0, .int .i64 0, .int .i64 0] from by simpa using (Q8.out).set_ 0 (.int .i64 co0))).set_ 1 (.int .i64 co1)))
    have b9 := Lib.hid (((b8.out).setCell (p := ⟨aQ, 0, none⟩) (show w.heap.size ≤ aQ by omega) (.int .i64 co0)).setCell (p := ⟨aQ, 1, none⟩) (show w.heap.size ≤ aQ by omega) (.int .i64 co1))
    clear I8 B8 E8 R8 G8 Q8 b8
    go_upto_region 6 with fail
    clear yQ zQ
    generalize ((w8.setCell ⟨aQ, 0, none⟩ (.int .i64 co0)).setCell ⟨aQ, 1, none⟩ (.int .i64 co1)) = w10 at *
    have yI : ∀ i, w10.cell? ⟨w.heap.size, i, none⟩ = (#[.int .i64 ix, .slice A n c] : Array Value)[i]? := fun i => I9.out.cell i
    have yB : ∀ i, w10.cell? ⟨w.heap.size + 1, i, none⟩ = (#[txb body, .int .i64 limb, .int .i64 tlo, .int .i64 thi, .int .i64 hs, .int .i64 by_, .int .i64 hor, .int .i64 eye, .int .i64 shore, .int .i64 temp, .int .i64 press] : Array Value)[i]? := fun i => B9.out.cell i
    go_wp2_with fail
    (with_reducible refine (KA.out _ b9.out).mono ?_)
    rintro e w11 ⟨rfl, hb⟩
    have I11 := Lib.hid (I9.out.below hb I9.out.lt)
    have B11 := Lib.hid (B9.out.below hb B9.out.lt)
    have E11 := Lib.hid (E9.out.below hb E9.out.lt)
    have R11 := Lib.hid (R9.out.below hb R9.out.lt)
    have G11 := Lib.hid (G9.out.below hb G9.out.lt)
    have Q11 := Lib.hid (Q9.out.below hb Q9.out.lt)
    have b11 := Lib.hid (b9.out.trans (hb.mono b9.out.size))
    clear hb I9 B9 E9 R9 G9 Q9 b9 yI yB
    obtain ⟨z0, hz0⟩ : ∃ z, hs - by_ + co0 = z := ⟨_, rfl⟩
    obtain ⟨z1, hz1⟩ : ∃ z, hs + by_ + co1 = z := ⟨_, rfl⟩
    rw [hz0] at HAP ⊢
    rw [hz1] at HBP ⊢
    go_wp2_with fail
    (with_reducible refine (KK.out z0 z1 _ G11.out).mono ?_)
    rintro e w12 ⟨rfl, hb⟩
    have I12 := Lib.hid (I11.out.below hb I11.out.lt)
    have B12 := Lib.hid (B11.out.below hb B11.out.lt)
    have E12 := Lib.hid (E11.out.below hb E11.out.lt)
    have R12 := Lib.hid (R11.out.below hb R11.out.lt)
    have G12 := Lib.hid (G11.out.below hb G11.out.lt)
    have Q12 := Lib.hid (Q11.out.below hb Q11.out.lt)
    have b12 := Lib.hid (b11.out.trans (hb.mono b11.out.size))
    clear hb I11 B11 E11 R11 G11 Q11 b11
    have oQ : aQ < w12.heap.size := Q12.out.lt
    have I13 := Lib.hid (I12.out.alloc (.cells #[.int .i64 z0, .int .i64 z1] 41))
    have B13 := Lib.hid (B12.out.alloc (.cells #[.int .i64 z0, .int .i64 z1] 41))
    have E13 := Lib.hid (E12.out.alloc (.cells #[.int .i64 z0, .int .i64 z1] 41))
    have R13 := Lib.hid (R12.out.alloc (.cells #[.int .i64 z0, .int .i64 z1] 41))
    have G13 := Lib.hid (G12.out.alloc (.cells #[.int .i64 z0, .int .i64 z1] 41))
    have Q13 := Lib.hid (Q12.out.alloc (.cells #[.int .i64 z0, .int .i64 z1] 41))
    have S13 := Lib.hid (Blk.new w12 41 #[.int .i64 z0, .int .i64 z1])
    have b13 := Lib.hid (b12.out.trans ((bl_alloc w12 (.cells #[.int .i64 z0, .int .i64 z1] 41)).mono b12.out.size))
    clear I12 B12 E12 R12 G12 Q12 b12
    go_upto_region 7 with fail
    generalize w12.alloc (.cells #[.int .i64 z0, .int .i64 z1] 41) = w14 at *
    obtain ⟨aS, haS⟩ : ∃ a, w12.heap.size = a := ⟨_, rfl⟩
    rw [haS] at oQ S13 ⊢
    clear haS
    have hz0b : -300000 ≤ z0 ∧ z0 ≤ 9000000 := by omega
    have hz1b : -300000 ≤ z1 ∧ z1 ≤ 9000000 := by omega
    have hzz : z0 ≤ z1 := by omega
    have HZ0 := Lib.hid hz0
    have HZ1 := Lib.hid hz1
    clear hz0 hz1
    have yB : ∀ i, w14.cell? ⟨w.heap.size + 1, i, none⟩ = (#[txb body, .int .i64 limb, .int .i64 tlo, .int .i64 thi, .int .i64 hs, .int .i64 by_, .int .i64 hor, .int .i64 eye, .int .i64 shore, .int .i64 temp, .int .i64 press] : Array Value)[i]? := fun i => B13.out.cell i
    by_cases hh : hor = 2
    · subst hh
      rw [if_pos rfl] at HAP HBP
      have hy0 := HAP.out
      have hy1 := HBP.out
      have KE := Lib.hid (fun W => (ceilC_any z1 W (by omega) (by omega)).mono fun e w' h => (⟨h.1, by rw [h.2]; exact Below.refl _ _⟩ : _ ∧ Below W.heap.size W w'))
      rw [← hy1] at KE
      have HSH : Hid (z0 / 2 = y0) := Lib.hid hy0.symm
      have hyb : -300000 ≤ y0 ∧ y0 ≤ y1 ∧ y1 ≤ 9000000 := by omega
      clear hy1 hy0
      go_upto_region 8 with fail
      clear yB
      have yS : ∀ (s : BQ w14) i, s.w.cell? ⟨aS, i, none⟩ = (#[.int .i64 z0, .int .i64 z1] : Array Value)[i]? := fun s i => (S13.out.below s.hb S13.out.lt).cell i
      refine wp_region_bqt 7 w14 (by kernel_rfl) (by kernel_rfl) (by kernel_rfl) (by kernel_rfl) (Below.refl _ _) ?_
      simp only [List.take_succ_cons, List.take_zero, List.drop_succ_cons, List.drop_zero]
      repeat (go_big_quiet_step (first | (go_at_call 54; exact quiet_bq (KE.out _)) | fail))
      refine wpQuiet_nil ?_
      intro w15 hb
      have I15 := Lib.hid (I13.out.below hb I13.out.lt)
      have B15 := Lib.hid (B13.out.below hb B13.out.lt)
      have E15 := Lib.hid (E13.out.below hb E13.out.lt)
      have R15 := Lib.hid (R13.out.below hb R13.out.lt)
      have G15 := Lib.hid (G13.out.below hb G13.out.lt)
      have Q15 := Lib.hid (Q13.out.below hb Q13.out.lt)
      have S15 := Lib.hid (S13.out.below hb S13.out.lt)
      have b15 := Lib.hid (b13.out.trans (hb.mono b13.out.size))
      clear hb I13 B13 E13 R13 G13 Q13 S13 b13 yS
      rw [HSH.out]
      have yS : ∀ i, w15.cell? ⟨aS, i, none⟩ = (#[.int .i64 z0, .int .i64 z1] : Array Value)[i]? := fun i => S15.out.cell i
      have zS : ∀ i, w15.frozen? ⟨aS, i, none⟩ = false := fun i => S15.out.frozen i
      have I16 := Lib.hid (((I15.out).far (p := ⟨aS, 0, none⟩) (show w.heap.size ≠ aS by omega) (.int .i64 y0)).far (p := ⟨aS, 1, none⟩) (show w.heap.size ≠ aS by omega) (.int .i64 y1))
      have B16 := Lib.hid (((B15.out).far (p := ⟨aS, 0, none⟩) (show w.heap.size + 1 ≠ aS by omega) (.int .i64 y0)).far (p := ⟨aS, 1, none⟩) (show w.heap.size + 1 ≠ aS by omega) (.int .i64 y1))
      have E16 := Lib.hid (((E15.out).far (p := ⟨aS, 0, none⟩) (show w.heap.size + 1 + 1 ≠ aS by omega) (.int .i64 y0)).far (p := ⟨aS, 1, none⟩) (show w.heap.size + 1 + 1 ≠ aS by omega) (.int .i64 y1))
      have R16 := Lib.hid (((R15.out).far (p := ⟨aS, 0, none⟩) (show w.heap.size + 1 + 1 + 1 ≠ aS by omega) (.int .i64 y0)).far (p := ⟨aS, 1, none⟩) (show w.heap.size + 1 + 1 + 1 ≠ aS by omega) (.int .i64 y1))
      have G16 := Lib.hid (((G15.out).far (p := ⟨aS, 0, none⟩) (show aG ≠ aS by omega) (.int .i64 y0)).far (p := ⟨aS, 1, none⟩) (show aG ≠ aS by omega) (.int .i64 y1))
      have Q16 := Lib.hid (((Q15.out).far (p := ⟨aS, 0, none⟩) (show aQ ≠ aS by omega) (.int .i64 y0)).far (p := ⟨aS, 1, none⟩) (show aQ ≠ aS by omega) (.int .i64 y1))
      have S16 := Lib.hid ((show Blk ((w15.setCell ⟨aS, 0, none⟩ (.int .i64 y0)).setCell ⟨aS, 1, none⟩ (.int .i64 y1)) aS 41 #[.int .i64 y0, .int .i64 y1] from by simpa using ((show Blk (w15.setCell ⟨aS, 0, none⟩ (.int .i64 y0)) aS 41 #[.int .i64 y0, .int .i64 z1] from by simpa using (S15.out).set_ 0 (.int .i64 y0))).set_ 1 (.int .i64 y1)))
      have b16 := Lib.hid (((b15.out).setCell (p := ⟨aS, 0, none⟩) (show w.heap.size ≤ aS by omega) (.int .i64 y0)).setCell (p := ⟨aS, 1, none⟩) (show w.heap.size ≤ aS by omega) (.int .i64 y1))
      clear I15 B15 E15 R15 G15 Q15 S15 b15
      go_upto_region 9 with fail
      clear yS zS
      generalize ((w15.setCell ⟨aS, 0, none⟩ (.int .i64 y0)).setCell ⟨aS, 1, none⟩ (.int .i64 y1)) = w17 at *
      clear HSH
      have yB : ∀ i, w17.cell? ⟨w.heap.size + 1, i, none⟩ = (#[txb body, .int .i64 limb, .int .i64 tlo, .int .i64 thi, .int .i64 hs, .int .i64 by_, .int .i64 2, .int .i64 eye, .int .i64 shore, .int .i64 temp, .int .i64 press] : Array Value)[i]? := fun i => B16.out.cell i
      go_wp2_with fail
      (with_reducible refine (KD.out aG _ G16.out).mono ?_)
      rintro e w18 ⟨⟨rfl, d0, d1, d2⟩, hb⟩
      have I18 := Lib.hid (I16.out.below hb I16.out.lt)
      have B18 := Lib.hid (B16.out.below hb B16.out.lt)
      have E18 := Lib.hid (E16.out.below hb E16.out.lt)
      have R18 := Lib.hid (R16.out.below hb R16.out.lt)
      have G18 := Lib.hid (G16.out.below hb G16.out.lt)
      have Q18 := Lib.hid (Q16.out.below hb Q16.out.lt)
      have S18 := Lib.hid (S16.out.below hb S16.out.lt)
      have b18 := Lib.hid (b16.out.trans (hb.mono b16.out.size))
      clear hb I16 B16 E16 R16 G16 Q16 S16 b16 yB
      have yQ : ∀ i, w18.cell? ⟨aQ, i, none⟩ = (#[.int .i64 co0, .int .i64 co1, .int .i64 0, .int .i64 0, .int .i64 0, .int .i64 0, .int .i64 0, .int .i64 0, .int .i64 0, .int .i64 0, .int .i64 0, .int .i64 0, .int .i64 0, .int .i64 0] : Array Value)[i]? := fun i => Q18.out.cell i
      have zQ : ∀ i, w18.frozen? ⟨aQ, i, none⟩ = false := fun i => Q18.out.frozen i
      have I19 := Lib.hid (((I18.out).far (p := ⟨aQ, 2, none⟩) (show w.heap.size ≠ aQ by omega) (.int .i64 dp0)).far (p := ⟨aQ, 3, none⟩) (show w.heap.size ≠ aQ by omega) (.int .i64 dp1))
      have B19 := Lib.hid (((B18.out).far (p := ⟨aQ, 2, none⟩) (show w.heap.size + 1 ≠ aQ by omega) (.int .i64 dp0)).far (p := ⟨aQ, 3, none⟩) (show w.heap.size + 1 ≠ aQ by omega) (.int .i64 dp1))
      have E19 := Lib.hid (((E18.out).far (p := ⟨aQ, 2, none⟩) (show w.heap.size + 1 + 1 ≠ aQ by omega) (.int .i64 dp0)).far (p := ⟨aQ, 3, none⟩) (show w.heap.size + 1 + 1 ≠ aQ by omega) (.int .i64 dp1))
      have R19 := Lib.hid (((R18.out).far (p := ⟨aQ, 2, none⟩) (show w.heap.size + 1 + 1 + 1 ≠ aQ by omega) (.int .i64 dp0)).far (p := ⟨aQ, 3, none⟩) (show w.heap.size + 1 + 1 + 1 ≠ aQ by omega) (.int .i64 dp1))
      have G19 := Lib.hid (((G18.out).far (p := ⟨aQ, 2, none⟩) (show aG ≠ aQ by omega) (.int .i64 dp0)).far (p := ⟨aQ, 3, none⟩) (show aG ≠ aQ by omega) (.int .i64 dp1))
      have S19 := Lib.hid (((S18.out).far (p := ⟨aQ, 2, none⟩) (show aS ≠ aQ by omega) (.int .i64 dp0)).far (p := ⟨aQ, 3, none⟩) (show aS ≠ aQ by omega) (.int .i64 dp1))
      have Q19 := Lib.hid ((show Blk ((w18.setCell ⟨aQ, 2, none⟩ (.int .i64 dp0)).setCell ⟨aQ, 3, none⟩ (.int .i64 dp1)) aQ 46 #[.int .i64 co0, .int .i64 co1, .int .i64 dp0, .int .i64 dp1, .int .i64 0, .int .i64 0, .int .i64 0, .int .i64 0, .int .i64 0, .int .i64 0, .int .i64 0, .int .i64 0, .int .i64 0, .int .i64 0] from by simpa using ((show Blk (w18.setCell ⟨aQ, 2, none⟩ (.int .i64 dp0)) aQ 46 #[.int .i64 co0, .int .i64 co1, .int .i64 dp0, .int .i64 0, .int .i64 0, .int .i64 0, .int .i64 0, .int .i64 0, .int .i64 0, .int .i64 0, .int .i64 0, .int .i64 0, .int .i64 0, .int .i64 0] from by simpa using (Q18.out).set_ 2 (.int .i64 dp0))).set_ 3 (.int .i64 dp1)))
      have b19 := Lib.hid (((b18.out).setCell (p := ⟨aQ, 2, none⟩) (show w.heap.size ≤ aQ by omega) (.int .i64 dp0)).setCell (p := ⟨aQ, 3, none⟩) (show w.heap.size ≤ aQ by omega) (.int .i64 dp1))
      clear I18 B18 E18 R18 G18 S18 Q18 b18
      go_upto_region 10 with fail
      clear yQ zQ
      generalize ((w18.setCell ⟨aQ, 2, none⟩ (.int .i64 dp0)).setCell ⟨aQ, 3, none⟩ (.int .i64 dp1)) = w20 at *
      have KS := Lib.hid (fun W => arSub_any y0 y1 dp0 dp1 W (by rw [avB_true]; omega) (by rw [avB_true]; omega) (rch_iff.2 (by omega)) (rch_iff.2 (by omega)))
      rw [← HHA.out, ← HHB.out] at KS
      have yS : ∀ i, w20.cell? ⟨aS, i, none⟩ = (#[.int .i64 y0, .int .i64 y1] : Array Value)[i]? := fun i => S19.out.cell i
      have yQ : ∀ i, w20.cell? ⟨aQ, i, none⟩ = (#[.int .i64 co0, .int .i64 co1, .int .i64 dp0, .int .i64 dp1, .int .i64 0, .int .i64 0, .int .i64 0, .int .i64 0, .int .i64 0, .int .i64 0, .int .i64 0, .int .i64 0, .int .i64 0, .int .i64 0] : Array Value)[i]? := fun i => Q19.out.cell i
      go_wp2_with fail
      (with_reducible refine (KS.out _).mono ?_)
      rintro e w21 ⟨rfl, hb⟩
      have I21 := Lib.hid (I19.out.below hb I19.out.lt)
      have B21 := Lib.hid (B19.out.below hb B19.out.lt)
      have E21 := Lib.hid (E19.out.below hb E19.out.lt)
      have R21 := Lib.hid (R19.out.below hb R19.out.lt)
      have G21 := Lib.hid (G19.out.below hb G19.out.lt)
      have Q21 := Lib.hid (Q19.out.below hb Q19.out.lt)
      have S21 := Lib.hid (S19.out.below hb S19.out.lt)
      have b21 := Lib.hid (b19.out.trans (hb.mono b19.out.size))
      clear hb I19 B19 E19 R19 G19 Q19 S19 b19 yS yQ
      go_wp2_with fail
      (with_reducible refine (KK.out a0 a1 _ G21.out).mono ?_)
      rintro e w22 ⟨rfl, hb⟩
      have I22 := Lib.hid (I21.out.below hb I21.out.lt)
      have B22 := Lib.hid (B21.out.below hb B21.out.lt)
      have E22 := Lib.hid (E21.out.below hb E21.out.lt)
      have R22 := Lib.hid (R21.out.below hb R21.out.lt)
      have G22 := Lib.hid (G21.out.below hb G21.out.lt)
      have Q22 := Lib.hid (Q21.out.below hb Q21.out.lt)
      have S22 := Lib.hid (S21.out.below hb S21.out.lt)
      have b22 := Lib.hid (b21.out.trans (hb.mono b21.out.size))
      clear hb I21 B21 E21 R21 G21 Q21 S21 b21
      have yQ : ∀ i, w22.cell? ⟨aQ, i, none⟩ = (#[.int .i64 co0, .int .i64 co1, .int .i64 dp0, .int .i64 dp1, .int .i64 0, .int .i64 0, .int .i64 0, .int .i64 0, .int .i64 0, .int .i64 0, .int .i64 0, .int .i64 0, .int .i64 0, .int .i64 0] : Array Value)[i]? := fun i => Q22.out.cell i
      have zQ : ∀ i, w22.frozen? ⟨aQ, i, none⟩ = false := fun i => Q22.out.frozen i
      have I23 := Lib.hid (((I22.out).far (p := ⟨aQ, 10, none⟩) (show w.heap.size ≠ aQ by omega) (.int .i64 a0)).far (p := ⟨aQ, 11, none⟩) (show w.heap.size ≠ aQ by omega) (.int .i64 a1))
      have B23 := Lib.hid (((B22.out).far (p := ⟨aQ, 10, none⟩) (show w.heap.size + 1 ≠ aQ by omega) (.int .i64 a0)).far (p := ⟨aQ, 11, none⟩) (show w.heap.size + 1 ≠ aQ by omega) (.int .i64 a1))
      have E23 := Lib.hid (((E22.out).far (p := ⟨aQ, 10, none⟩) (show w.heap.size + 1 + 1 ≠ aQ by omega) (.int .i64 a0)).far (p := ⟨aQ, 11, none⟩) (show w.heap.size + 1 + 1 ≠ aQ by omega) (.int .i64 a1))
      have R23 := Lib.hid (((R22.out).far (p := ⟨aQ, 10, none⟩) (show w.heap.size + 1 + 1 + 1 ≠ aQ by omega) (.int .i64 a0)).far (p := ⟨aQ, 11, none⟩) (show w.heap.size + 1 + 1 + 1 ≠ aQ by omega) (.int .i64 a1))
      have G23 := Lib.hid (((G22.out).far (p := ⟨aQ, 10, none⟩) (show aG ≠ aQ by omega) (.int .i64 a0)).far (p := ⟨aQ, 11, none⟩) (show aG ≠ aQ by omega) (.int .i64 a1))
      have S23 := Lib.hid (((S22.out).far (p := ⟨aQ, 10, none⟩) (show aS ≠ aQ by omega) (.int .i64 a0)).far (p := ⟨aQ, 11, none⟩) (show aS ≠ aQ by omega) (.int .i64 a1))
      have Q23 := Lib.hid ((show Blk ((w22.setCell ⟨aQ, 10, none⟩ (.int .i64 a0)).setCell ⟨aQ, 11, none⟩ (.int .i64 a1)) aQ 46 #[.int .i64 co0, .int .i64 co1, .int .i64 dp0, .int .i64 dp1, .int .i64 0, .int .i64 0, .int .i64 0, .int .i64 0, .int .i64 0, .int .i64 0, .int .i64 a0, .int .i64 a1, .int .i64 0, .int .i64 0] from by simpa using ((show Blk (w22.setCell ⟨aQ, 10, none⟩ (.int .i64 a0)) aQ 46 #[.int .i64 co0, .int .i64 co1, .int .i64 dp0, .int .i64 dp1, .int .i64 0, .int .i64 0, .int .i64 0, .int .i64 0, .int .i64 0, .int .i64 0, .int .i64 a0, .int .i64 0, .int .i64 0, .int .i64 0] from by simpa using (Q22.out).set_ 10 (.int .i64 a0))).set_ 11 (.int .i64 a1)))
      have b23 := Lib.hid (((b22.out).setCell (p := ⟨aQ, 10, none⟩) (show w.heap.size ≤ aQ by omega) (.int .i64 a0)).setCell (p := ⟨aQ, 11, none⟩) (show w.heap.size ≤ aQ by omega) (.int .i64 a1))
      clear I22 B22 E22 R22 G22 S22 Q22 b22
      go_upto_region 11 with fail
      clear yQ zQ
      generalize ((w22.setCell ⟨aQ, 10, none⟩ (.int .i64 a0)).setCell ⟨aQ, 11, none⟩ (.int .i64 a1)) = w24 at *
      have ha01 : a0 ≤ a1 := by rw [HHA.out, HHB.out]; omega
      have hab : -1000000000 ≤ a0 ∧ a1 ≤ 1000000000 := by rw [HHA.out, HHB.out]; omega
      have KI := Lib.hid (fun W => arIn_any a0 a1 (-60000) 5400000 W (by rw [avB_true]; omega) (by rw [avB_true]; omega))
      rw [← HIN.out] at KI
      have KPo := Lib.hid possible_any
      have yG : ∀ i, w24.cell? ⟨aG, i, none⟩ = (#[.int .i64 0] : Array Value)[i]? := fun i => G23.out.cell i
      go_upto_region 13 with fail
      clear yG
      have yQ : ∀ (s : BQ w24) i, s.w.cell? ⟨aQ, i, none⟩ = (#[.int .i64 co0, .int .i64 co1, .int .i64 dp0, .int .i64 dp1, .int .i64 0, .int .i64 0, .int .i64 0, .int .i64 0, .int .i64 0, .int .i64 0, .int .i64 a0, .int .i64 a1, .int .i64 0, .int .i64 0] : Array Value)[i]? := fun s i => (Q23.out.below s.hb Q23.out.lt).cell i
      cases ib with
      | false =>
        refine wp_region_bq w24 (by kernel_rfl) (by kernel_rfl) (Below.refl _ _) ?_
        repeat (go_big_quiet_step (first | (go_at_call 57; exact quiet_bq (KPo.out _)) | (go_at_call 19; exact quiet_bq (KI.out _)) | fail))
        refine wpQuiet_nil ?_
        intro w25 hb
        have I25 := Lib.hid (I23.out.below hb I23.out.lt)
        have B25 := Lib.hid (B23.out.below hb B23.out.lt)
        have E25 := Lib.hid (E23.out.below hb E23.out.lt)
        have R25 := Lib.hid (R23.out.below hb R23.out.lt)
        have G25 := Lib.hid (G23.out.below hb G23.out.lt)
        have Q25 := Lib.hid (Q23.out.below hb Q23.out.lt)
        have S25 := Lib.hid (S23.out.below hb S23.out.lt)
        have b25 := Lib.hid (b23.out.trans (hb.mono b23.out.size))
        clear hb I23 B23 E23 R23 G23 Q23 S23 b23 yQ
        go_upto_region 14 with fail
        iterate 4 go_step
        refine wpList_store_row rfl _ (.tmp 6) (.tmp 66) rfl _ _ rfl rfl _ _ R25.out (by kernel_rfl) (by rfl) (by simp [Value.oneCell']) ?_
        simp only [Act.put, List.setIfInBounds_toArray, List.set_cons_zero, List.set_cons_succ]
        have ZZ := Lib.hid (Blk.rowW R25.out #[.int .i64 0, .int .i64 0, .int .i64 0, .int .i64 0, .int .i64 0, .int .i64 0, .int .i64 0, .int .i64 0, .int .i64 0, .int .i64 0, .int .i64 0, .int .i64 0, .int .i64 0, .int .i64 0])
        have BB := Lib.hid (bl_setRowW (g := (w.heap.size + 1 + 1 + 1)) b25.out (by omega) #[.int .i64 0, .int .i64 0, .int .i64 0, .int .i64 0, .int .i64 0, .int .i64 0, .int .i64 0, .int .i64 0, .int .i64 0, .int .i64 0, .int .i64 0, .int .i64 0, .int .i64 0, .int .i64 0])
        generalize w25.setRow (w.heap.size + 1 + 1 + 1) #[.int .i64 0, .int .i64 0, .int .i64 0, .int .i64 0, .int .i64 0, .int .i64 0, .int .i64 0, .int .i64 0, .int .i64 0, .int .i64 0, .int .i64 0, .int .i64 0, .int .i64 0, .int .i64 0] = wz at *
        go_wp2
        exact bodyPost_ret_by (ret_wk rfl ZZ.out rfl) rfl ⟨P0.out (by trivial), BB.out⟩
      | true =>
        refine wp_region_bq w24 (by kernel_rfl) (by kernel_rfl) (Below.refl _ _) ?_
        repeat (go_big_quiet_step (first | (go_at_call 57; exact quiet_bq (KPo.out _)) | (go_at_call 19; exact quiet_bq (KI.out _)) | fail))
        refine wpQuiet_nil ?_
        intro w25 hb
        have I25 := Lib.hid (I23.out.below hb I23.out.lt)
        have B25 := Lib.hid (B23.out.below hb B23.out.lt)
        have E25 := Lib.hid (E23.out.below hb E23.out.lt)
        have R25 := Lib.hid (R23.out.below hb R23.out.lt)
        have G25 := Lib.hid (G23.out.below hb G23.out.lt)
        have Q25 := Lib.hid (Q23.out.below hb Q23.out.lt)
        have S25 := Lib.hid (S23.out.below hb S23.out.lt)
        have b25 := Lib.hid (b23.out.trans (hb.mono b23.out.size))
        clear hb I23 B23 E23 R23 G23 Q23 S23 b23 yQ
        have hib : -60000 ≤ a0 ∧ a1 ≤ 5400000 := by
          have := HIN.out.symm
          simpa using this
        obtain ⟨hr0, hr1, hr2⟩ := HRF.out hib.1 ha01 hib.2
        have yB : ∀ i, w25.cell? ⟨w.heap.size + 1, i, none⟩ = (#[txb body, .int .i64 limb, .int .i64 tlo, .int .i64 thi, .int .i64 hs, .int .i64 by_, .int .i64 2, .int .i64 eye, .int .i64 shore, .int .i64 temp, .int .i64 press] : Array Value)[i]? := fun i => B25.out.cell i
        have yE : ∀ i, w25.cell? ⟨w.heap.size + 1 + 1, i, none⟩ = (#[.int .i64 g0, .int .i64 g1, .int .i64 g2, .int .i64 g3, .int .i64 e0, .int .i64 e1, .int .i64 p0, .int .i64 p1] : Array Value)[i]? := fun i => E25.out.cell i
        have yQ : ∀ i, w25.cell? ⟨aQ, i, none⟩ = (#[.int .i64 co0, .int .i64 co1, .int .i64 dp0, .int .i64 dp1, .int .i64 0, .int .i64 0, .int .i64 0, .int .i64 0, .int .i64 0, .int .i64 0, .int .i64 a0, .int .i64 a1, .int .i64 0, .int .i64 0] : Array Value)[i]? := fun i => Q25.out.cell i
        have hGQ : aG ≠ aQ := by omega
        go_wp2_with fail
        (refine (KU.out aG aQ co0 co1 dp0 dp1 0 0 _ G25.out Q25.out hGQ hib.1 ha01 hib.2).mono ?_)
        rintro e w26 ⟨⟨v, rfl⟩, hQ, hK⟩
        have I26 := Lib.hid (I25.out.kps hK (show w.heap.size ≠ aQ by omega))
        have B26 := Lib.hid (B25.out.kps hK (show w.heap.size + 1 ≠ aQ by omega))
        have E26 := Lib.hid (E25.out.kps hK (show w.heap.size + 1 + 1 ≠ aQ by omega))
        have R26 := Lib.hid (R25.out.kps hK (show w.heap.size + 1 + 1 + 1 ≠ aQ by omega))
        have G26 := Lib.hid (G25.out.kps hK (show aG ≠ aQ by omega))
        have S26 := Lib.hid (S25.out.kps hK (show aS ≠ aQ by omega))
        have Q26 := Lib.hid hQ
        have b26 := Lib.hid (b25.out.trans (hK.below (by omega) b25.out.size))
        clear hQ hK I25 B25 E25 R25 G25 S25 Q25 b25 yB yE yQ
        go_upto_region 16 with fail
        have K1 := Lib.hid (fun W => arSub_any a0 a1 r0 r1 W (by rw [avB_true]; omega) (by rw [avB_true]; omega) (rch_iff.2 (by omega)) (rch_iff.2 (by omega)))
        obtain ⟨t0, ht0⟩ : ∃ t, a0 - r1 = t := ⟨_, rfl⟩
        obtain ⟨t1, ht1⟩ : ∃ t, a1 - r0 = t := ⟨_, rfl⟩
        rw [ht0, ht1] at K1
        have K2 := Lib.hid (fun W => arAdd_any t0 t1 x0 x1 W (by rw [avB_true]; omega) (by rw [avB_true]; omega) (rch_iff.2 (by omega)) (rch_iff.2 (by omega)))
        obtain ⟨u0, hu0⟩ : ∃ t, t0 + x0 = t := ⟨_, rfl⟩
        obtain ⟨u1, hu1⟩ : ∃ t, t1 + x1 = t := ⟨_, rfl⟩
        rw [hu0, hu1] at K2
        have K3 := Lib.hid (fun W => arAdd_any u0 u1 s0 s1 W (by rw [avB_true]; omega) (by rw [avB_true]; omega) (rch_iff.2 (by omega)) (rch_iff.2 (by omega)))
        have hq0 : u0 + s0 = ho0 := by rw [HO0.out, ht0, hu0]
        have hq1 : u1 + s1 = ho1 := by rw [HO1.out, ht1, hu1]
        rw [hq0, hq1] at K3
        clear hq0 hq1 ht0 ht1 hu0 hu1
        have KKq := Lib.hid (fun (a b : Int) (s : BQ w26) => KK.out a b s.w (G26.out.below s.hb G26.out.lt))
        have yQ : ∀ (s : BQ w26) i, s.w.cell? ⟨aQ, i, none⟩ = (#[.int .i64 co0, .int .i64 co1, .int .i64 dp0, .int .i64 dp1, .int .i64 r0, .int .i64 r1, .int .i64 x0, .int .i64 x1, .int .i64 s0, .int .i64 s1, .int .i64 a0, .int .i64 a1, .int .i64 0, .int .i64 0] : Array Value)[i]? := fun s i => (Q26.out.below s.hb Q26.out.lt).cell i
        refine wp_region_bqt 21 w26 (by kernel_rfl) (by kernel_rfl) (by kernel_rfl) (by kernel_rfl) (Below.refl _ _) ?_
        simp only [List.take_succ_cons, List.take_zero, List.drop_succ_cons, List.drop_zero]
        repeat (go_big_quiet_step (first | (go_at_call 56; exact quiet_bq (K1.out _)) | (go_at_call 59; first | with_reducible exact quiet_bq (K2.out _) | with_reducible exact quiet_bq (K3.out _)) | (go_at_call 51; exact quiet_bq (KKq.out _ _ _)) | fail))
        refine wpQuiet_nil ?_
        intro w27 hb
        have I27 := Lib.hid (I26.out.below hb I26.out.lt)
        have B27 := Lib.hid (B26.out.below hb B26.out.lt)
        have E27 := Lib.hid (E26.out.below hb E26.out.lt)
        have R27 := Lib.hid (R26.out.below hb R26.out.lt)
        have G27 := Lib.hid (G26.out.below hb G26.out.lt)
        have Q27 := Lib.hid (Q26.out.below hb Q26.out.lt)
        have S27 := Lib.hid (S26.out.below hb S26.out.lt)
        have b27 := Lib.hid (b26.out.trans (hb.mono b26.out.size))
        clear hb I26 B26 E26 R26 G26 Q26 S26 b26 yQ
        have yQ : ∀ i, w27.cell? ⟨aQ, i, none⟩ = (#[.int .i64 co0, .int .i64 co1, .int .i64 dp0, .int .i64 dp1, .int .i64 r0, .int .i64 r1, .int .i64 x0, .int .i64 x1, .int .i64 s0, .int .i64 s1, .int .i64 a0, .int .i64 a1, .int .i64 0, .int .i64 0] : Array Value)[i]? := fun i => Q27.out.cell i
        have zQ : ∀ i, w27.frozen? ⟨aQ, i, none⟩ = false := fun i => Q27.out.frozen i
        have I28 := Lib.hid (((I27.out).far (p := ⟨aQ, 12, none⟩) (show w.heap.size ≠ aQ by omega) (.int .i64 ho0)).far (p := ⟨aQ, 13, none⟩) (show w.heap.size ≠ aQ by omega) (.int .i64 ho1))
        have B28 := Lib.hid (((B27.out).far (p := ⟨aQ, 12, none⟩) (show w.heap.size + 1 ≠ aQ by omega) (.int .i64 ho0)).far (p := ⟨aQ, 13, none⟩) (show w.heap.size + 1 ≠ aQ by omega) (.int .i64 ho1))
        have E28 := Lib.hid (((E27.out).far (p := ⟨aQ, 12, none⟩) (show w.heap.size + 1 + 1 ≠ aQ by omega) (.int .i64 ho0)).far (p := ⟨aQ, 13, none⟩) (show w.heap.size + 1 + 1 ≠ aQ by omega) (.int .i64 ho1))
        have R28 := Lib.hid (((R27.out).far (p := ⟨aQ, 12, none⟩) (show w.heap.size + 1 + 1 + 1 ≠ aQ by omega) (.int .i64 ho0)).far (p := ⟨aQ, 13, none⟩) (show w.heap.size + 1 + 1 + 1 ≠ aQ by omega) (.int .i64 ho1))
        have G28 := Lib.hid (((G27.out).far (p := ⟨aQ, 12, none⟩) (show aG ≠ aQ by omega) (.int .i64 ho0)).far (p := ⟨aQ, 13, none⟩) (show aG ≠ aQ by omega) (.int .i64 ho1))
        have S28 := Lib.hid (((S27.out).far (p := ⟨aQ, 12, none⟩) (show aS ≠ aQ by omega) (.int .i64 ho0)).far (p := ⟨aQ, 13, none⟩) (show aS ≠ aQ by omega) (.int .i64 ho1))
        have Q28 := Lib.hid ((show Blk ((w27.setCell ⟨aQ, 12, none⟩ (.int .i64 ho0)).setCell ⟨aQ, 13, none⟩ (.int .i64 ho1)) aQ 46 #[.int .i64 co0, .int .i64 co1, .int .i64 dp0, .int .i64 dp1, .int .i64 r0, .int .i64 r1, .int .i64 x0, .int .i64 x1, .int .i64 s0, .int .i64 s1, .int .i64 a0, .int .i64 a1, .int .i64 ho0, .int .i64 ho1] from by simpa using ((show Blk (w27.setCell ⟨aQ, 12, none⟩ (.int .i64 ho0)) aQ 46 #[.int .i64 co0, .int .i64 co1, .int .i64 dp0, .int .i64 dp1, .int .i64 r0, .int .i64 r1, .int .i64 x0, .int .i64 x1, .int .i64 s0, .int .i64 s1, .int .i64 a0, .int .i64 a1, .int .i64 ho0, .int .i64 0] from by simpa using (Q27.out).set_ 12 (.int .i64 ho0))).set_ 13 (.int .i64 ho1)))
        have b28 := Lib.hid (((b27.out).setCell (p := ⟨aQ, 12, none⟩) (show w.heap.size ≤ aQ by omega) (.int .i64 ho0)).setCell (p := ⟨aQ, 13, none⟩) (show w.heap.size ≤ aQ by omega) (.int .i64 ho1))
        clear I27 B27 E27 R27 G27 S27 Q27 b27
        go_upto_region 17 with fail
        clear yQ zQ
        generalize ((w27.setCell ⟨aQ, 12, none⟩ (.int .i64 ho0)).setCell ⟨aQ, 13, none⟩ (.int .i64 ho1)) = w29 at *
        have yG : ∀ i, w29.cell? ⟨aG, i, none⟩ = (#[.int .i64 0] : Array Value)[i]? := fun i => G28.out.cell i
        go_upto_region 19 with fail
        clear yG
        iterate 2 go_step
        refine wp_load_wk (.tmp 9) rfl rfl Q28.out rfl ?_
        simp only [Act.put, List.setIfInBounds_toArray, List.set_cons_zero, List.set_cons_succ]
        iterate 1 go_step
        refine wpList_store_row rfl _ (.tmp 6) (.tmp 99) rfl _ _ rfl rfl _ _ R28.out (by kernel_rfl) (by rfl) (by simp [Value.oneCell']) ?_
        simp only [Act.put, List.setIfInBounds_toArray, List.set_cons_zero, List.set_cons_succ]
        have ZZ := Lib.hid (Blk.rowW R28.out #[.int .i64 co0, .int .i64 co1, .int .i64 dp0, .int .i64 dp1, .int .i64 r0, .int .i64 r1, .int .i64 x0, .int .i64 x1, .int .i64 s0, .int .i64 s1, .int .i64 a0, .int .i64 a1, .int .i64 ho0, .int .i64 ho1])
        have BB := Lib.hid (bl_setRowW (g := w.heap.size + 1 + 1 + 1) b28.out (by omega) #[.int .i64 co0, .int .i64 co1, .int .i64 dp0, .int .i64 dp1, .int .i64 r0, .int .i64 r1, .int .i64 x0, .int .i64 x1, .int .i64 s0, .int .i64 s1, .int .i64 a0, .int .i64 a1, .int .i64 ho0, .int .i64 ho1])
        generalize w29.setRow (w.heap.size + 1 + 1 + 1) #[.int .i64 co0, .int .i64 co1, .int .i64 dp0, .int .i64 dp1, .int .i64 r0, .int .i64 r1, .int .i64 x0, .int .i64 x1, .int .i64 s0, .int .i64 s1, .int .i64 a0, .int .i64 a1, .int .i64 ho0, .int .i64 ho1] = wz at *
        go_wp2
        exact bodyPost_ret_by (ret_wk rfl ZZ.out rfl) rfl ⟨P1.out (by trivial), BB.out⟩
    · rw [if_neg hh] at HAP HBP
      obtain rfl := HAP.out
      obtain rfl := HBP.out
      have dh : ((hor : Int) == 2) = false := by simpa using hh
      go_upto_region 9 with fail
      clear yB
      have yB : ∀ i, w14.cell? ⟨w.heap.size + 1, i, none⟩ = (#[txb body, .int .i64 limb, .int .i64 tlo, .int .i64 thi, .int .i64 hs, .int .i64 by_, .int .i64 hor, .int .i64 eye, .int .i64 shore, .int .i64 temp, .int .i64 press] : Array Value)[i]? := fun i => B13.out.cell i
      go_wp2_with fail
      (with_reducible refine (KD.out aG _ G13.out).mono ?_)
      rintro e w15 ⟨⟨rfl, d0, d1, d2⟩, hb⟩
      have I15 := Lib.hid (I13.out.below hb I13.out.lt)
      have B15 := Lib.hid (B13.out.below hb B13.out.lt)
      have E15 := Lib.hid (E13.out.below hb E13.out.lt)
      have R15 := Lib.hid (R13.out.below hb R13.out.lt)
      have G15 := Lib.hid (G13.out.below hb G13.out.lt)
      have Q15 := Lib.hid (Q13.out.below hb Q13.out.lt)
      have S15 := Lib.hid (S13.out.below hb S13.out.lt)
      have b15 := Lib.hid (b13.out.trans (hb.mono b13.out.size))
      clear hb I13 B13 E13 R13 G13 Q13 S13 b13 yB
      have yQ : ∀ i, w15.cell? ⟨aQ, i, none⟩ = (#[.int .i64 co0, .int .i64 co1, .int .i64 0, .int .i64 0, .int .i64 0, .int .i64 0, .int .i64 0, .int .i64 0, .int .i64 0, .int .i64 0, .int .i64 0, .int .i64 0, .int .i64 0, .int .i64 0] : Array Value)[i]? := fun i => Q15.out.cell i
      have zQ : ∀ i, w15.frozen? ⟨aQ, i, none⟩ = false := fun i => Q15.out.frozen i
      have I16 := Lib.hid (((I15.out).far (p := ⟨aQ, 2, none⟩) (show w.heap.size ≠ aQ by omega) (.int .i64 dp0)).far (p := ⟨aQ, 3, none⟩) (show w.heap.size ≠ aQ by omega) (.int .i64 dp1))
      have B16 := Lib.hid (((B15.out).far (p := ⟨aQ, 2, none⟩) (show w.heap.size + 1 ≠ aQ by omega) (.int .i64 dp0)).far (p := ⟨aQ, 3, none⟩) (show w.heap.size + 1 ≠ aQ by omega) (.int .i64 dp1))
      have E16 := Lib.hid (((E15.out).far (p := ⟨aQ, 2, none⟩) (show w.heap.size + 1 + 1 ≠ aQ by omega) (.int .i64 dp0)).far (p := ⟨aQ, 3, none⟩) (show w.heap.size + 1 + 1 ≠ aQ by omega) (.int .i64 dp1))
      have R16 := Lib.hid (((R15.out).far (p := ⟨aQ, 2, none⟩) (show w.heap.size + 1 + 1 + 1 ≠ aQ by omega) (.int .i64 dp0)).far (p := ⟨aQ, 3, none⟩) (show w.heap.size + 1 + 1 + 1 ≠ aQ by omega) (.int .i64 dp1))
      have G16 := Lib.hid (((G15.out).far (p := ⟨aQ, 2, none⟩) (show aG ≠ aQ by omega) (.int .i64 dp0)).far (p := ⟨aQ, 3, none⟩) (show aG ≠ aQ by omega) (.int .i64 dp1))
      have S16 := Lib.hid (((S15.out).far (p := ⟨aQ, 2, none⟩) (show aS ≠ aQ by omega) (.int .i64 dp0)).far (p := ⟨aQ, 3, none⟩) (show aS ≠ aQ by omega) (.int .i64 dp1))
      have Q16 := Lib.hid ((show Blk ((w15.setCell ⟨aQ, 2, none⟩ (.int .i64 dp0)).setCell ⟨aQ, 3, none⟩ (.int .i64 dp1)) aQ 46 #[.int .i64 co0, .int .i64 co1, .int .i64 dp0, .int .i64 dp1, .int .i64 0, .int .i64 0, .int .i64 0, .int .i64 0, .int .i64 0, .int .i64 0, .int .i64 0, .int .i64 0, .int .i64 0, .int .i64 0] from by simpa using ((show Blk (w15.setCell ⟨aQ, 2, none⟩ (.int .i64 dp0)) aQ 46 #[.int .i64 co0, .int .i64 co1, .int .i64 dp0, .int .i64 0, .int .i64 0, .int .i64 0, .int .i64 0, .int .i64 0, .int .i64 0, .int .i64 0, .int .i64 0, .int .i64 0, .int .i64 0, .int .i64 0] from by simpa using (Q15.out).set_ 2 (.int .i64 dp0))).set_ 3 (.int .i64 dp1)))
      have b16 := Lib.hid (((b15.out).setCell (p := ⟨aQ, 2, none⟩) (show w.heap.size ≤ aQ by omega) (.int .i64 dp0)).setCell (p := ⟨aQ, 3, none⟩) (show w.heap.size ≤ aQ by omega) (.int .i64 dp1))
      clear I15 B15 E15 R15 G15 S15 Q15 b15
      go_upto_region 10 with fail
      clear yQ zQ
      generalize ((w15.setCell ⟨aQ, 2, none⟩ (.int .i64 dp0)).setCell ⟨aQ, 3, none⟩ (.int .i64 dp1)) = w17 at *
      have KS := Lib.hid (fun W => arSub_any y0 y1 dp0 dp1 W (by rw [avB_true]; omega) (by rw [avB_true]; omega) (rch_iff.2 (by omega)) (rch_iff.2 (by omega)))
      rw [← HHA.out, ← HHB.out] at KS
      have yS : ∀ i, w17.cell? ⟨aS, i, none⟩ = (#[.int .i64 y0, .int .i64 y1] : Array Value)[i]? := fun i => S16.out.cell i
      have yQ : ∀ i, w17.cell? ⟨aQ, i, none⟩ = (#[.int .i64 co0, .int .i64 co1, .int .i64 dp0, .int .i64 dp1, .int .i64 0, .int .i64 0, .int .i64 0, .int .i64 0, .int .i64 0, .int .i64 0, .int .i64 0, .int .i64 0, .int .i64 0, .int .i64 0] : Array Value)[i]? := fun i => Q16.out.cell i
      go_wp2_with fail
      (with_reducible refine (KS.out _).mono ?_)
      rintro e w18 ⟨rfl, hb⟩
      have I18 := Lib.hid (I16.out.below hb I16.out.lt)
      have B18 := Lib.hid (B16.out.below hb B16.out.lt)
      have E18 := Lib.hid (E16.out.below hb E16.out.lt)
      have R18 := Lib.hid (R16.out.below hb R16.out.lt)
      have G18 := Lib.hid (G16.out.below hb G16.out.lt)
      have Q18 := Lib.hid (Q16.out.below hb Q16.out.lt)
      have S18 := Lib.hid (S16.out.below hb S16.out.lt)
      have b18 := Lib.hid (b16.out.trans (hb.mono b16.out.size))
      clear hb I16 B16 E16 R16 G16 Q16 S16 b16 yS yQ
      go_wp2_with fail
      (with_reducible refine (KK.out a0 a1 _ G18.out).mono ?_)
      rintro e w19 ⟨rfl, hb⟩
      have I19 := Lib.hid (I18.out.below hb I18.out.lt)
      have B19 := Lib.hid (B18.out.below hb B18.out.lt)
      have E19 := Lib.hid (E18.out.below hb E18.out.lt)
      have R19 := Lib.hid (R18.out.below hb R18.out.lt)
      have G19 := Lib.hid (G18.out.below hb G18.out.lt)
      have Q19 := Lib.hid (Q18.out.below hb Q18.out.lt)
      have S19 := Lib.hid (S18.out.below hb S18.out.lt)
      have b19 := Lib.hid (b18.out.trans (hb.mono b18.out.size))
      clear hb I18 B18 E18 R18 G18 Q18 S18 b18
      have yQ : ∀ i, w19.cell? ⟨aQ, i, none⟩ = (#[.int .i64 co0, .int .i64 co1, .int .i64 dp0, .int .i64 dp1, .int .i64 0, .int .i64 0, .int .i64 0, .int .i64 0, .int .i64 0, .int .i64 0, .int .i64 0, .int .i64 0, .int .i64 0, .int .i64 0] : Array Value)[i]? := fun i => Q19.out.cell i
      have zQ : ∀ i, w19.frozen? ⟨aQ, i, none⟩ = false := fun i => Q19.out.frozen i
      have I20 := Lib.hid (((I19.out).far (p := ⟨aQ, 10, none⟩) (show w.heap.size ≠ aQ by omega) (.int .i64 a0)).far (p := ⟨aQ, 11, none⟩) (show w.heap.size ≠ aQ by omega) (.int .i64 a1))
      have B20 := Lib.hid (((B19.out).far (p := ⟨aQ, 10, none⟩) (show w.heap.size + 1 ≠ aQ by omega) (.int .i64 a0)).far (p := ⟨aQ, 11, none⟩) (show w.heap.size + 1 ≠ aQ by omega) (.int .i64 a1))
      have E20 := Lib.hid (((E19.out).far (p := ⟨aQ, 10, none⟩) (show w.heap.size + 1 + 1 ≠ aQ by omega) (.int .i64 a0)).far (p := ⟨aQ, 11, none⟩) (show w.heap.size + 1 + 1 ≠ aQ by omega) (.int .i64 a1))
      have R20 := Lib.hid (((R19.out).far (p := ⟨aQ, 10, none⟩) (show w.heap.size + 1 + 1 + 1 ≠ aQ by omega) (.int .i64 a0)).far (p := ⟨aQ, 11, none⟩) (show w.heap.size + 1 + 1 + 1 ≠ aQ by omega) (.int .i64 a1))
      have G20 := Lib.hid (((G19.out).far (p := ⟨aQ, 10, none⟩) (show aG ≠ aQ by omega) (.int .i64 a0)).far (p := ⟨aQ, 11, none⟩) (show aG ≠ aQ by omega) (.int .i64 a1))
      have S20 := Lib.hid (((S19.out).far (p := ⟨aQ, 10, none⟩) (show aS ≠ aQ by omega) (.int .i64 a0)).far (p := ⟨aQ, 11, none⟩) (show aS ≠ aQ by omega) (.int .i64 a1))
      have Q20 := Lib.hid ((show Blk ((w19.setCell ⟨aQ, 10, none⟩ (.int .i64 a0)).setCell ⟨aQ, 11, none⟩ (.int .i64 a1)) aQ 46 #[.int .i64 co0, .int .i64 co1, .int .i64 dp0, .int .i64 dp1, .int .i64 0, .int .i64 0, .int .i64 0, .int .i64 0, .int .i64 0, .int .i64 0, .int .i64 a0, .int .i64 a1, .int .i64 0, .int .i64 0] from by simpa using ((show Blk (w19.setCell ⟨aQ, 10, none⟩ (.int .i64 a0)) aQ 46 #[.int .i64 co0, .int .i64 co1, .int .i64 dp0, .int .i64 dp1, .int .i64 0, .int .i64 0, .int .i64 0, .int .i64 0, .int .i64 0, .int .i64 0, .int .i64 a0, .int .i64 0, .int .i64 0, .int .i64 0] from by simpa using (Q19.out).set_ 10 (.int .i64 a0))).set_ 11 (.int .i64 a1)))
      have b20 := Lib.hid (((b19.out).setCell (p := ⟨aQ, 10, none⟩) (show w.heap.size ≤ aQ by omega) (.int .i64 a0)).setCell (p := ⟨aQ, 11, none⟩) (show w.heap.size ≤ aQ by omega) (.int .i64 a1))
      clear I19 B19 E19 R19 G19 S19 Q19 b19
      go_upto_region 11 with fail
      clear yQ zQ
      generalize ((w19.setCell ⟨aQ, 10, none⟩ (.int .i64 a0)).setCell ⟨aQ, 11, none⟩ (.int .i64 a1)) = w21 at *
      have ha01 : a0 ≤ a1 := by rw [HHA.out, HHB.out]; omega
      have hab : -1000000000 ≤ a0 ∧ a1 ≤ 1000000000 := by rw [HHA.out, HHB.out]; omega
      have KI := Lib.hid (fun W => arIn_any a0 a1 (-60000) 5400000 W (by rw [avB_true]; omega) (by rw [avB_true]; omega))
      rw [← HIN.out] at KI
      have KPo := Lib.hid possible_any
      have yG : ∀ i, w21.cell? ⟨aG, i, none⟩ = (#[.int .i64 0] : Array Value)[i]? := fun i => G20.out.cell i
      go_upto_region 13 with fail
      clear yG
      have yQ : ∀ (s : BQ w21) i, s.w.cell? ⟨aQ, i, none⟩ = (#[.int .i64 co0, .int .i64 co1, .int .i64 dp0, .int .i64 dp1, .int .i64 0, .int .i64 0, .int .i64 0, .int .i64 0, .int .i64 0, .int .i64 0, .int .i64 a0, .int .i64 a1, .int .i64 0, .int .i64 0] : Array Value)[i]? := fun s i => (Q20.out.below s.hb Q20.out.lt).cell i
      cases ib with
      | false =>
        refine wp_region_bq w21 (by kernel_rfl) (by kernel_rfl) (Below.refl _ _) ?_
        repeat (go_big_quiet_step (first | (go_at_call 57; exact quiet_bq (KPo.out _)) | (go_at_call 19; exact quiet_bq (KI.out _)) | fail))
        refine wpQuiet_nil ?_
        intro w22 hb
        have I22 := Lib.hid (I20.out.below hb I20.out.lt)
        have B22 := Lib.hid (B20.out.below hb B20.out.lt)
        have E22 := Lib.hid (E20.out.below hb E20.out.lt)
        have R22 := Lib.hid (R20.out.below hb R20.out.lt)
        have G22 := Lib.hid (G20.out.below hb G20.out.lt)
        have Q22 := Lib.hid (Q20.out.below hb Q20.out.lt)
        have S22 := Lib.hid (S20.out.below hb S20.out.lt)
        have b22 := Lib.hid (b20.out.trans (hb.mono b20.out.size))
        clear hb I20 B20 E20 R20 G20 Q20 S20 b20 yQ
        go_upto_region 14 with fail
        iterate 4 go_step
        refine wpList_store_row rfl _ (.tmp 6) (.tmp 66) rfl _ _ rfl rfl _ _ R22.out (by kernel_rfl) (by rfl) (by simp [Value.oneCell']) ?_
        simp only [Act.put, List.setIfInBounds_toArray, List.set_cons_zero, List.set_cons_succ]
        have ZZ := Lib.hid (Blk.rowW R22.out #[.int .i64 0, .int .i64 0, .int .i64 0, .int .i64 0, .int .i64 0, .int .i64 0, .int .i64 0, .int .i64 0, .int .i64 0, .int .i64 0, .int .i64 0, .int .i64 0, .int .i64 0, .int .i64 0])
        have BB := Lib.hid (bl_setRowW (g := (w.heap.size + 1 + 1 + 1)) b22.out (by omega) #[.int .i64 0, .int .i64 0, .int .i64 0, .int .i64 0, .int .i64 0, .int .i64 0, .int .i64 0, .int .i64 0, .int .i64 0, .int .i64 0, .int .i64 0, .int .i64 0, .int .i64 0, .int .i64 0])
        generalize w22.setRow (w.heap.size + 1 + 1 + 1) #[.int .i64 0, .int .i64 0, .int .i64 0, .int .i64 0, .int .i64 0, .int .i64 0, .int .i64 0, .int .i64 0, .int .i64 0, .int .i64 0, .int .i64 0, .int .i64 0, .int .i64 0, .int .i64 0] = wz at *
        go_wp2
        exact bodyPost_ret_by (ret_wk rfl ZZ.out rfl) rfl ⟨P0.out (by trivial), BB.out⟩
      | true =>
        refine wp_region_bq w21 (by kernel_rfl) (by kernel_rfl) (Below.refl _ _) ?_
        repeat (go_big_quiet_step (first | (go_at_call 57; exact quiet_bq (KPo.out _)) | (go_at_call 19; exact quiet_bq (KI.out _)) | fail))
        refine wpQuiet_nil ?_
        intro w22 hb
        have I22 := Lib.hid (I20.out.below hb I20.out.lt)
        have B22 := Lib.hid (B20.out.below hb B20.out.lt)
        have E22 := Lib.hid (E20.out.below hb E20.out.lt)
        have R22 := Lib.hid (R20.out.below hb R20.out.lt)
        have G22 := Lib.hid (G20.out.below hb G20.out.lt)
        have Q22 := Lib.hid (Q20.out.below hb Q20.out.lt)
        have S22 := Lib.hid (S20.out.below hb S20.out.lt)
        have b22 := Lib.hid (b20.out.trans (hb.mono b20.out.size))
        clear hb I20 B20 E20 R20 G20 Q20 S20 b20 yQ
        have hib : -60000 ≤ a0 ∧ a1 ≤ 5400000 := by
          have := HIN.out.symm
          simpa using this
        obtain ⟨hr0, hr1, hr2⟩ := HRF.out hib.1 ha01 hib.2
        have yB : ∀ i, w22.cell? ⟨w.heap.size + 1, i, none⟩ = (#[txb body, .int .i64 limb, .int .i64 tlo, .int .i64 thi, .int .i64 hs, .int .i64 by_, .int .i64 hor, .int .i64 eye, .int .i64 shore, .int .i64 temp, .int .i64 press] : Array Value)[i]? := fun i => B22.out.cell i
        have yE : ∀ i, w22.cell? ⟨w.heap.size + 1 + 1, i, none⟩ = (#[.int .i64 g0, .int .i64 g1, .int .i64 g2, .int .i64 g3, .int .i64 e0, .int .i64 e1, .int .i64 p0, .int .i64 p1] : Array Value)[i]? := fun i => E22.out.cell i
        have yQ : ∀ i, w22.cell? ⟨aQ, i, none⟩ = (#[.int .i64 co0, .int .i64 co1, .int .i64 dp0, .int .i64 dp1, .int .i64 0, .int .i64 0, .int .i64 0, .int .i64 0, .int .i64 0, .int .i64 0, .int .i64 a0, .int .i64 a1, .int .i64 0, .int .i64 0] : Array Value)[i]? := fun i => Q22.out.cell i
        have hGQ : aG ≠ aQ := by omega
        go_wp2_with fail
        (refine (KU.out aG aQ co0 co1 dp0 dp1 0 0 _ G22.out Q22.out hGQ hib.1 ha01 hib.2).mono ?_)
        rintro e w23 ⟨⟨v, rfl⟩, hQ, hK⟩
        have I23 := Lib.hid (I22.out.kps hK (show w.heap.size ≠ aQ by omega))
        have B23 := Lib.hid (B22.out.kps hK (show w.heap.size + 1 ≠ aQ by omega))
        have E23 := Lib.hid (E22.out.kps hK (show w.heap.size + 1 + 1 ≠ aQ by omega))
        have R23 := Lib.hid (R22.out.kps hK (show w.heap.size + 1 + 1 + 1 ≠ aQ by omega))
        have G23 := Lib.hid (G22.out.kps hK (show aG ≠ aQ by omega))
        have S23 := Lib.hid (S22.out.kps hK (show aS ≠ aQ by omega))
        have Q23 := Lib.hid hQ
        have b23 := Lib.hid (b22.out.trans (hK.below (by omega) b22.out.size))
        clear hQ hK I22 B22 E22 R22 G22 S22 Q22 b22 yB yE yQ
        go_upto_region 16 with fail
        have K1 := Lib.hid (fun W => arSub_any a0 a1 r0 r1 W (by rw [avB_true]; omega) (by rw [avB_true]; omega) (rch_iff.2 (by omega)) (rch_iff.2 (by omega)))
        obtain ⟨t0, ht0⟩ : ∃ t, a0 - r1 = t := ⟨_, rfl⟩
        obtain ⟨t1, ht1⟩ : ∃ t, a1 - r0 = t := ⟨_, rfl⟩
        rw [ht0, ht1] at K1
        have K2 := Lib.hid (fun W => arAdd_any t0 t1 x0 x1 W (by rw [avB_true]; omega) (by rw [avB_true]; omega) (rch_iff.2 (by omega)) (rch_iff.2 (by omega)))
        obtain ⟨u0, hu0⟩ : ∃ t, t0 + x0 = t := ⟨_, rfl⟩
        obtain ⟨u1, hu1⟩ : ∃ t, t1 + x1 = t := ⟨_, rfl⟩
        rw [hu0, hu1] at K2
        have K3 := Lib.hid (fun W => arAdd_any u0 u1 s0 s1 W (by rw [avB_true]; omega) (by rw [avB_true]; omega) (rch_iff.2 (by omega)) (rch_iff.2 (by omega)))
        have hq0 : u0 + s0 = ho0 := by rw [HO0.out, ht0, hu0]
        have hq1 : u1 + s1 = ho1 := by rw [HO1.out, ht1, hu1]
        rw [hq0, hq1] at K3
        clear hq0 hq1 ht0 ht1 hu0 hu1
        have KKq := Lib.hid (fun (a b : Int) (s : BQ w23) => KK.out a b s.w (G23.out.below s.hb G23.out.lt))
        have yQ : ∀ (s : BQ w23) i, s.w.cell? ⟨aQ, i, none⟩ = (#[.int .i64 co0, .int .i64 co1, .int .i64 dp0, .int .i64 dp1, .int .i64 r0, .int .i64 r1, .int .i64 x0, .int .i64 x1, .int .i64 s0, .int .i64 s1, .int .i64 a0, .int .i64 a1, .int .i64 0, .int .i64 0] : Array Value)[i]? := fun s i => (Q23.out.below s.hb Q23.out.lt).cell i
        refine wp_region_bqt 21 w23 (by kernel_rfl) (by kernel_rfl) (by kernel_rfl) (by kernel_rfl) (Below.refl _ _) ?_
        simp only [List.take_succ_cons, List.take_zero, List.drop_succ_cons, List.drop_zero]
        repeat (go_big_quiet_step (first | (go_at_call 56; exact quiet_bq (K1.out _)) | (go_at_call 59; first | with_reducible exact quiet_bq (K2.out _) | with_reducible exact quiet_bq (K3.out _)) | (go_at_call 51; exact quiet_bq (KKq.out _ _ _)) | fail))
        refine wpQuiet_nil ?_
        intro w24 hb
        have I24 := Lib.hid (I23.out.below hb I23.out.lt)
        have B24 := Lib.hid (B23.out.below hb B23.out.lt)
        have E24 := Lib.hid (E23.out.below hb E23.out.lt)
        have R24 := Lib.hid (R23.out.below hb R23.out.lt)
        have G24 := Lib.hid (G23.out.below hb G23.out.lt)
        have Q24 := Lib.hid (Q23.out.below hb Q23.out.lt)
        have S24 := Lib.hid (S23.out.below hb S23.out.lt)
        have b24 := Lib.hid (b23.out.trans (hb.mono b23.out.size))
        clear hb I23 B23 E23 R23 G23 Q23 S23 b23 yQ
        have yQ : ∀ i, w24.cell? ⟨aQ, i, none⟩ = (#[.int .i64 co0, .int .i64 co1, .int .i64 dp0, .int .i64 dp1, .int .i64 r0, .int .i64 r1, .int .i64 x0, .int .i64 x1, .int .i64 s0, .int .i64 s1, .int .i64 a0, .int .i64 a1, .int .i64 0, .int .i64 0] : Array Value)[i]? := fun i => Q24.out.cell i
        have zQ : ∀ i, w24.frozen? ⟨aQ, i, none⟩ = false := fun i => Q24.out.frozen i
        have I25 := Lib.hid (((I24.out).far (p := ⟨aQ, 12, none⟩) (show w.heap.size ≠ aQ by omega) (.int .i64 ho0)).far (p := ⟨aQ, 13, none⟩) (show w.heap.size ≠ aQ by omega) (.int .i64 ho1))
        have B25 := Lib.hid (((B24.out).far (p := ⟨aQ, 12, none⟩) (show w.heap.size + 1 ≠ aQ by omega) (.int .i64 ho0)).far (p := ⟨aQ, 13, none⟩) (show w.heap.size + 1 ≠ aQ by omega) (.int .i64 ho1))
        have E25 := Lib.hid (((E24.out).far (p := ⟨aQ, 12, none⟩) (show w.heap.size + 1 + 1 ≠ aQ by omega) (.int .i64 ho0)).far (p := ⟨aQ, 13, none⟩) (show w.heap.size + 1 + 1 ≠ aQ by omega) (.int .i64 ho1))
        have R25 := Lib.hid (((R24.out).far (p := ⟨aQ, 12, none⟩) (show w.heap.size + 1 + 1 + 1 ≠ aQ by omega) (.int .i64 ho0)).far (p := ⟨aQ, 13, none⟩) (show w.heap.size + 1 + 1 + 1 ≠ aQ by omega) (.int .i64 ho1))
        have G25 := Lib.hid (((G24.out).far (p := ⟨aQ, 12, none⟩) (show aG ≠ aQ by omega) (.int .i64 ho0)).far (p := ⟨aQ, 13, none⟩) (show aG ≠ aQ by omega) (.int .i64 ho1))
        have S25 := Lib.hid (((S24.out).far (p := ⟨aQ, 12, none⟩) (show aS ≠ aQ by omega) (.int .i64 ho0)).far (p := ⟨aQ, 13, none⟩) (show aS ≠ aQ by omega) (.int .i64 ho1))
        have Q25 := Lib.hid ((show Blk ((w24.setCell ⟨aQ, 12, none⟩ (.int .i64 ho0)).setCell ⟨aQ, 13, none⟩ (.int .i64 ho1)) aQ 46 #[.int .i64 co0, .int .i64 co1, .int .i64 dp0, .int .i64 dp1, .int .i64 r0, .int .i64 r1, .int .i64 x0, .int .i64 x1, .int .i64 s0, .int .i64 s1, .int .i64 a0, .int .i64 a1, .int .i64 ho0, .int .i64 ho1] from by simpa using ((show Blk (w24.setCell ⟨aQ, 12, none⟩ (.int .i64 ho0)) aQ 46 #[.int .i64 co0, .int .i64 co1, .int .i64 dp0, .int .i64 dp1, .int .i64 r0, .int .i64 r1, .int .i64 x0, .int .i64 x1, .int .i64 s0, .int .i64 s1, .int .i64 a0, .int .i64 a1, .int .i64 ho0, .int .i64 0] from by simpa using (Q24.out).set_ 12 (.int .i64 ho0))).set_ 13 (.int .i64 ho1)))
        have b25 := Lib.hid (((b24.out).setCell (p := ⟨aQ, 12, none⟩) (show w.heap.size ≤ aQ by omega) (.int .i64 ho0)).setCell (p := ⟨aQ, 13, none⟩) (show w.heap.size ≤ aQ by omega) (.int .i64 ho1))
        clear I24 B24 E24 R24 G24 S24 Q24 b24
        go_upto_region 17 with fail
        clear yQ zQ
        generalize ((w24.setCell ⟨aQ, 12, none⟩ (.int .i64 ho0)).setCell ⟨aQ, 13, none⟩ (.int .i64 ho1)) = w26 at *
        have yG : ∀ i, w26.cell? ⟨aG, i, none⟩ = (#[.int .i64 0] : Array Value)[i]? := fun i => G25.out.cell i
        go_upto_region 19 with fail
        clear yG
        iterate 2 go_step
        refine wp_load_wk (.tmp 9) rfl rfl Q25.out rfl ?_
        simp only [Act.put, List.setIfInBounds_toArray, List.set_cons_zero, List.set_cons_succ]
        iterate 1 go_step
        refine wpList_store_row rfl _ (.tmp 6) (.tmp 99) rfl _ _ rfl rfl _ _ R25.out (by kernel_rfl) (by rfl) (by simp [Value.oneCell']) ?_
        simp only [Act.put, List.setIfInBounds_toArray, List.set_cons_zero, List.set_cons_succ]
        have ZZ := Lib.hid (Blk.rowW R25.out #[.int .i64 co0, .int .i64 co1, .int .i64 dp0, .int .i64 dp1, .int .i64 r0, .int .i64 r1, .int .i64 x0, .int .i64 x1, .int .i64 s0, .int .i64 s1, .int .i64 a0, .int .i64 a1, .int .i64 ho0, .int .i64 ho1])
        have BB := Lib.hid (bl_setRowW (g := w.heap.size + 1 + 1 + 1) b25.out (by omega) #[.int .i64 co0, .int .i64 co1, .int .i64 dp0, .int .i64 dp1, .int .i64 r0, .int .i64 r1, .int .i64 x0, .int .i64 x1, .int .i64 s0, .int .i64 s1, .int .i64 a0, .int .i64 a1, .int .i64 ho0, .int .i64 ho1])
        generalize w26.setRow (w.heap.size + 1 + 1 + 1) #[.int .i64 co0, .int .i64 co1, .int .i64 dp0, .int .i64 dp1, .int .i64 r0, .int .i64 r1, .int .i64 x0, .int .i64 x1, .int .i64 s0, .int .i64 s1, .int .i64 a0, .int .i64 a1, .int .i64 ho0, .int .i64 ho1] = wz at *
        go_wp2
        exact bodyPost_ret_by (ret_wk rfl ZZ.out rfl) rfl ⟨P1.out (by trivial), BB.out⟩
end Go.Proofs.YtbpnacacnncopaaGreatDoor
