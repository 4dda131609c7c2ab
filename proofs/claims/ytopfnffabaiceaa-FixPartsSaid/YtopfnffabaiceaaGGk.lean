/- A region that draws its order, each operation looked at once: an invariant over the set of the operations that have been done. -/
import Derived.Orders
import Derived.Test.YtopfnffabaiceaaGGj
import Derived.Test.YtopfnffabaiceaaGGi
import Derived.Test.YtopfnffabaiceaaGBase
import Derived.Test.YtopfnffabaiceaaGPq
set_option linter.unusedVariables false
set_option linter.unusedSimpArgs false
/- The walks of the reference's Around, Meet and Touch. -/
namespace Go.Proofs.Ytopfnffabaiceaa
open Go.RowKit
/-- arcs of numbers that are not normalised -/
def OkR (D : List Sp) : Prop := ∀ x ∈ D, -100000000 ≤ x.1 ∧ x.1 ≤ 100000000 ∧ x.1 ≤ x.2 ∧ x.2 ≤ x.1 + 21600000
theorem wdtR_bd (D : List Sp) (a : Int) (hD : OkR D) (k : Nat) (hk : k ≤ D.length) : 0 ≤ wdt D a k ∧ wdt D a k < 43200000 := by
  induction k with
  | zero => simp [wdt]
  | succ k ih =>
    have h := ih (by omega)
    rw [wdt_succ D a k (by omega)]
    have := hD (gs D k) (by have : k < D.length := by omega
                            simp [gs, this])
    omega
/-- the reference's best arc, one arc more looked at -/
def stepR (D : List Sp) (s a : Sp) : Sp := if wdt D a.1 D.length < s.2 - s.1 ∨ (wdt D a.1 D.length = s.2 - s.1 ∧ wdt D a.1 D.length < 21600000 ∧ sgA a.1 < s.1) then (sgA a.1, sgA a.1 + wdt D a.1 D.length) else s
def foldR (D : List Sp) (k : Nat) : Sp := (D.take k).foldl (stepR D) ((-10800000 : Int), (10800000 : Int))
/-- what the reference's Around returns -/
def rarn (D : List Sp) : Sp := foldR D D.length
theorem foldR_succ (D : List Sp) (k : Nat) (hk : k < D.length) : foldR D (k + 1) = stepR D (foldR D k) (gs D k) := by
  unfold foldR
  rw [List.take_succ_eq_append_getElem hk, List.foldl_append]
  simp [gs, hk]
theorem foldR_bd (D : List Sp) (hD : OkR D) (k : Nat) (hk : k ≤ D.length) : -10800000 ≤ (foldR D k).1 ∧ (foldR D k).1 ≤ 10800000 ∧ (foldR D k).1 ≤ (foldR D k).2 ∧ (foldR D k).2 ≤ (foldR D k).1 + 43200000 := by
  induction k with
  | zero => simp [foldR]
  | succ k ih =>
    have h := ih (by omega)
    rw [foldR_succ D k (by omega)]
    have h2 := wdtR_bd D (gs D k).1 hD D.length (Nat.le_refl _)
    have h3 := sgA_bd (gs D k).1
    unfold stepR
    split
    · simp only []
      omega
    · exact h
set_option maxHeartbeats 4000000 in
set_option maxRecDepth 100000 in
theorem around08_any (A : Option Addr) (n c : Nat) (D : List Sp) (w : World) (hr : Reads w w.heap.size 2 A n (spvs D)) (hn : n ≤ 100000) (hD : OkR D) :
    Calls Try.prog 55 #[.slice A n c] w fun e w' => e = .returned (.agg #[.int .i64 (rarn D).1, .int .i64 (rarn D).2]) ∧ Below w.heap.size w w' := by
  have HL : Hid (D.length = n) := Lib.hid (by have := hr.1; rw [spvs_length] at this; omega)
  have HR := Lib.hid hr
  have HD := Lib.hid hD
  have KE := Lib.hid all08_any
  obtain ⟨⟨r0, r1⟩, hR⟩ : ∃ R, R = rarn D := ⟨_, rfl⟩
  rw [← hR]
  have HRR := Lib.hid hR
  clear hr hD hR
  go_enter Try.func55, Try.ntmps55
  go_wp2_with fail
  (with_reducible refine (KE.out _).mono ?_)
  rintro e w1 ⟨rfl, hb1⟩
  have Z1 := Lib.hid ((K2.new w 0 0 42).below hb1 (by simp))
  have B1 := Lib.hid ((((Below.refl w.heap.size w).alloc (Nat.le_refl _) (.cells #[.int .i64 0, .int .i64 0] 42)).trans (hb1.mono (by simp))))
  have hlt1 := (Z1.out).lt
  have N1 := Lib.hid (K2.new w1 (-10800000) 10800000 42)
  have Z2 := Lib.hid (Z1.out.alloc (.cells #[.int .i64 (-10800000), .int .i64 10800000] 42))
  have B2 := Lib.hid (B1.out.alloc (by have := B1.out.size; omega) (.cells #[.int .i64 (-10800000), .int .i64 10800000] 42))
  clear Z1 B1 hb1 KE
  go_wp2
  go_loopw [4] (fun i wq => ∃ k : Nat, k ≤ n ∧ i = .int .i64 k ∧ K2 wq w.heap.size 0 0 ∧ K2 wq w1.heap.size (foldR D k).1 (foldR D k).2 ∧ Below w.heap.size w wq) (fun i _ => n - (intOf i).toNat)
  case atStart => exact ⟨0, Nat.zero_le _, rfl, Z2.out, N1.out, B2.out⟩
  case round =>
    obtain ⟨k, hk, rfl, hZ, hN, hbr⟩ := hrel
    clear Z2 N1 B2
    have HZ := Lib.hid hZ
    have HN := Lib.hid hN
    have HB := Lib.hid hbr
    clear hZ hN hbr
    by_cases hlt : k < n
    · obtain ⟨b, off, rfl, hb, x0, -⟩ := SReads.elem HR.out hlt
      have hdk := HD.out (gs D k) (by have hkl : k < D.length := by rw [HL.out]; exact hlt
                                      simp [gs, hkl])
      have HF := Lib.hid (foldR_succ D k (by rw [HL.out]; exact hlt))
      have HFB := Lib.hid (foldR_bd D HD.out k (by rw [HL.out]; omega))
      obtain ⟨⟨p, q⟩, hx⟩ : ∃ x, x = gs D k := ⟨_, rfl⟩
      rw [← hx] at x0 hdk HF
      clear hx
      simp only [] at x0 hdk HF
      obtain ⟨⟨s0, s1⟩, hs⟩ : ∃ s, s = foldR D k := ⟨_, rfl⟩
      rw [← hs] at HF HN HFB
      clear hs
      simp only [] at HF HN HFB
      have X0 : Hid (∀ W, Below w.heap.size w W → W.cell? ⟨b, off + k * 2, none⟩ = some (.int .i64 p)) := Lib.hid (fun W hW => (hW.cell (p := ⟨b, off + k * 2, none⟩) hb).trans x0)
      clear x0
      generalize wr.heap.size = g6 at *
      go_wp2
      go_loopw [5, 6] (fun v i wq => ∃ j : Nat, j ≤ n ∧ i = .int .i64 j ∧ v = .int .i64 (wdt D p j) ∧ K2 wq w.heap.size 0 0 ∧ K2 wq w1.heap.size s0 s1 ∧ Below w.heap.size w wq) (fun _ i _ => n - (intOf i).toNat)
      case atStart => exact ⟨0, Nat.zero_le _, rfl, rfl, HZ.out, HN.out, HB.out⟩
      case round =>
        obtain ⟨j, hj, rfl, rfl, hZ, hN, hbq⟩ := hrel
        clear HZ HN HB
        have HZ := Lib.hid hZ
        have HN := Lib.hid hN
        have HB := Lib.hid hbq
        clear hZ hN hbq
        by_cases hjt : j < n
        · obtain ⟨b', off', e, hb', x0, x1⟩ := SReads.elem HR.out hjt
          cases e
          have hdj := HD.out (gs D j) (by have hkl : j < D.length := by rw [HL.out]; exact hjt
                                          simp [gs, hkl])
          have HW := Lib.hid (wdt_succ D p j (by rw [HL.out]; exact hjt))
          have HWB := wdtR_bd D p HD.out j (by rw [HL.out]; omega)
          generalize gs D j = x at x0 x1 hdj HW
          obtain ⟨u, v⟩ := x
          simp only [] at x0 x1 hdj HW
          have KO := Lib.hid (fun W => off08_any (u - p) W)
          have hm : 0 ≤ (u - p) % 21600000 ∧ (u - p) % 21600000 < 21600000 := by omega
          have n0 : wrap64 (u - p) = u - p := IntWalk.wrap64_in _ (by omega)
          generalize (u - p) % 21600000 = m at *
          generalize wdt D p j = t at *
          have n1 : wrap64 (m + v) = m + v := IntWalk.wrap64_in _ (by omega)
          have n2 : wrap64 (m + v - u) = m + v - u := IntWalk.wrap64_in _ (by omega)
          have hz := HB.out.size
          go_upto_region 9 with (fail)
          have c0 : ∀ s : BV wr, s.w.cell? ⟨b, off + k * 2, none⟩ = some (.int .i64 p) := fun s => X0.out s.w (HB.out.trans (s.hb.mono hz))
          have c1 : ∀ s : BV wr, s.w.cell? ⟨b, off + j * 2, none⟩ = some (.int .i64 u) := fun s => ((HB.out.trans (s.hb.mono hz)).cell (p := ⟨b, off + j * 2, none⟩) hb).trans x0
          have c2 : ∀ s : BV wr, s.w.cell? ⟨b, off + j * 2 + 1, none⟩ = some (.int .i64 v) := fun s => ((HB.out.trans (s.hb.mono hz)).cell (p := ⟨b, off + j * 2 + 1, none⟩) hb).trans x1
          clear x0 x1
          refine wp_region_bv wr (by kernel_rfl) (by kernel_rfl) (Below.refl _ _) ?_
          (repeat (go_big_quiet_step (first | (go_at_call 73; with_reducible exact quiet_bv (KO.out _)) | fail)))
          refine wpQuiet_nil ?_
          intro w9 hb9
          clear c0 c1 c2
          by_cases hmx : t < m + v - u
          · have e1 : max t (m + v - u) = m + v - u := by omega
            rw [e1] at HW
            clear e1
            go_wp2
            go_roundw
            case rel => exact ⟨j + 1, by omega, by go_num, by rw [HW.out], HZ.out.below hb9 HZ.out.lt, HN.out.below hb9 HN.out.lt, HB.out.trans (hb9.mono hz)⟩
            case measure => simp [intOf]; omega
          · have e1 : max t (m + v - u) = t := by omega
            rw [e1] at HW
            clear e1
            go_wp2
            go_roundw
            case rel => exact ⟨j + 1, by omega, by go_num, by rw [HW.out], HZ.out.below hb9 HZ.out.lt, HN.out.below hb9 HN.out.lt, HB.out.trans (hb9.mono hz)⟩
            case measure => simp [intOf]; omega
        · obtain rfl : j = n := by omega
          have hwb := wdtR_bd D p HD.out j (by rw [HL.out]; exact Nat.le_refl _)
          have HF2 : Hid (foldR D (k + 1) = if wdt D p j < s1 - s0 ∨ (wdt D p j = s1 - s0 ∧ wdt D p j < 21600000 ∧ sgA p < s0) then (sgA p, sgA p + wdt D p j) else (s0, s1)) := Lib.hid (by rw [HF.out]; unfold stepR; rw [HL.out])
          have KS := Lib.hid (fun W => sgn05_any p W)
          have hsb := sgA_bd p
          generalize sgA p = sg at *
          generalize wdt D p j = t at *
          have hfb := HFB.out
          have z0 := X0.out wr HB.out
          have n3 : wrap64 (sg + t) = sg + t := IntWalk.wrap64_in _ (by omega)
          have n4 : wrap64 (s1 - s0) = s1 - s0 := IntWalk.wrap64_in _ (by omega)
          go_wp2_with fail
          (with_reducible refine (KS.out _).mono ?_)
          rintro e w5 ⟨rfl, hb5⟩
          have HZ5 := Lib.hid (HZ.out.below hb5 HZ.out.lt)
          have HN5 := Lib.hid (HN.out.below hb5 HN.out.lt)
          have HB5 := Lib.hid (HB.out.trans (hb5.mono HB.out.size))
          clear hb5 z0 HZ HN HB
          have hsz := HZ5.out.lt
          obtain ⟨nt, e0, e1, ef0, ef1⟩ := HN5.out
          by_cases g1 : t < s1 - s0
          · rw [if_pos (.inl g1)] at HF2
            have d1 : decide (t < s1 - s0) = true := decide_eq_true g1
            go_wp2
            go_roundw
            case rel => exact ⟨k + 1, by omega, by go_num, (HZ5.out.far (by simp only []; omega) _).far (by simp only []; omega) _, by rw [HF2.out]; exact (HN5.out.set0 sg).set1 (sg + t), (HB5.out.setCell (by simp only []; omega) _).setCell (by simp only []; omega) _⟩
            case measure => simp [intOf]; omega
          · have d1 : decide (t < s1 - s0) = false := decide_eq_false g1
            by_cases g2 : t = s1 - s0
            · have d2 : (t == s1 - s0) = true := by simpa using g2
              by_cases g3 : t < 21600000
              · have d3 : decide (t < 21600000) = true := decide_eq_true g3
                by_cases g4 : sg < s0
                · have d4 : decide (sg < s0) = true := decide_eq_true g4
                  rw [if_pos (.inr ⟨g2, g3, g4⟩)] at HF2
                  clear g2
                  go_wp2
                  go_roundw
                  case rel => exact ⟨k + 1, by omega, by go_num, (HZ5.out.far (by simp only []; omega) _).far (by simp only []; omega) _, by rw [HF2.out]; exact (HN5.out.set0 sg).set1 (sg + t), (HB5.out.setCell (by simp only []; omega) _).setCell (by simp only []; omega) _⟩
                  case measure => simp [intOf]; omega
                · have d4 : decide (sg < s0) = false := decide_eq_false g4
                  rw [if_neg (fun h => h.elim g1 (fun h => g4 h.2.2))] at HF2
                  clear g2
                  go_wp2
                  go_roundw
                  case rel => exact ⟨k + 1, by omega, by go_num, HZ5.out, by rw [HF2.out]; exact HN5.out, HB5.out⟩
                  case measure => simp [intOf]; omega
              · have d3 : decide (t < 21600000) = false := decide_eq_false g3
                rw [if_neg (fun h => h.elim g1 (fun h => g3 h.2.1))] at HF2
                clear g2
                go_wp2
                go_roundw
                case rel => exact ⟨k + 1, by omega, by go_num, HZ5.out, by rw [HF2.out]; exact HN5.out, HB5.out⟩
                case measure => simp [intOf]; omega
            · have d2 : (t == s1 - s0) = false := by simpa using g2
              rw [if_neg (fun h => h.elim g1 (fun h => g2 h.1))] at HF2
              go_wp2
              go_roundw
              case rel => exact ⟨k + 1, by omega, by go_num, HZ5.out, by rw [HF2.out]; exact HN5.out, HB5.out⟩
              case measure => simp [intOf]; omega
    · obtain rfl : k = n := by omega
      have hres : rarn D = foldR D k := by unfold rarn; rw [HL.out]
      have hres2 := HRR.out.trans hres
      generalize foldR D k = s at *
      obtain ⟨s0, s1⟩ := s
      simp only [] at HN hres2
      obtain ⟨rfl, rfl⟩ := Prod.mk.inj hres2
      obtain ⟨zt, z0, z1, zf0, zf1⟩ := HZ.out
      obtain ⟨nt, n0, n1, -, -⟩ := HN.out
      go_wp2
      refine bodyPost_ret (v := .agg #[.int .i64 r0, .int .i64 r1]) (by simp [results, Try.results55, go_sem, *]; done) rfl ⟨rfl, ?_⟩
      exact (HB.out.setCell (by simp) _).setCell (by simp) _
end Go.Proofs.Ytopfnffabaiceaa
namespace Go.Proofs.Ytopfnffabaiceaa
open Go.RowKit
/-- one operation more has been done -/
def mkd (L : Nat → Bool) (i : Nat) : Nat → Bool := fun j => if j = i then true else L j
theorem mkd_ne {L : Nat → Bool} {i j : Nat} (h : ¬ j = i) : mkd L i j = L j := if_neg h
theorem mkd_same (L : Nat → Bool) (i : Nat) : mkd L i i = true := if_pos rfl
theorem wpOp_of_list {P : Program} {ops : Array Oper} {Q : Exit → Act → World → Prop} {i : Nat} {o : Oper} {K : Act → World → Prop} {a : Act} {w : World} (hi : ops[i]? = some o) (h : wpList P ops (Exit.then K Q) [o] a w) : wpOp P ops Q i K a w := by
  unfold wpOp
  rw [hi]
  simp only [wpList] at h
  simp only []
  split
  · rename_i hw
    rw [if_pos hw] at h
    refine h.imp (fun h1 => ?_) id
    unfold Oper.wp at *
    generalize (execOp a.eval o).run P w = r at *
    cases r with
    | ok n w' => cases n <;> exact h1
    | halt x w' => cases x <;> exact h1
  · rename_i hw
    rw [if_neg hw] at h
    exact h
theorem wp_region_inv {P : Program} {id : Nat} {ops : Array Oper} {Q : Exit → Act → World → Prop} {a : Act} {w : World} (hm : P.follows .mixedOrders = true) (Inv : (Nat → Bool) → Act → World → Prop)
    (hwf : ∀ (i : Nat) (o : Oper), ops[i]? = some o → ∀ e ∈ o.after, e.on < i)
    (h0 : Inv (fun _ => false) a w.drew)
    (hstep : ∀ (L : Nat → Bool) (i : Nat) (o : Oper) (a : Act) (w : World), ops[i]? = some o → L i = false → (∀ e ∈ o.after, Region.binds .any e = true → L e.on = true) → Inv L a w → wpList P ops (Exit.then (fun a' w' => Inv (fun j => if j = i then true else L j) a' w') Q) [o] a w)
    (hend : ∀ (L : Nat → Bool) (a : Act) (w : World), (∀ i, i < ops.size → L i = true) → Inv L a w → Q .normal a w) : (Code.region id ops true).wp P Q a w := by
  have key : ∀ (fuel : Nat) (listed : Array Bool) (L : Nat → Bool) (a : Act) (w : World), listed.size = ops.size → (∀ i, i < ops.size → listed.getD i true = L i ∧ listed.getD i false = L i) → PQ.unm (fun j => if L j = true then 1 else 0) ops.size ≤ fuel → Inv L a w → wpAny P .any ops Q fuel listed a w := by
    intro fuel
    have all : ∀ (listed : Array Bool) (L : Nat → Bool), (∀ i, i < ops.size → listed.getD i true = L i ∧ listed.getD i false = L i) → Region.ready .any ops listed = [] → ∀ n i, i < n → i < ops.size → L i = true := by
      intro listed L hL hr n
      induction n with
      | zero => intro i h; omega
      | succ n ih =>
        intro i hi his
        by_cases e : i < n
        · exact ih i e his
        · obtain rfl : i = n := by omega
          cases hl : L i with
          | true => rfl
          | false =>
            exfalso
            have : i ∈ Region.ready .any ops listed := by
              rw [mem_ready]
              refine ⟨by rw [(hL i his).1, hl], ops[i], by rw [Array.getElem?_eq_getElem his], fun e he _ => ?_⟩
              have := hwf i _ (by rw [Array.getElem?_eq_getElem his]) e he
              rw [(hL e.on (by omega)).2]
              exact ih e.on this (by omega)
            rw [hr] at this
            cases this
    induction fuel with
    | zero =>
      intro listed L a w hs hL hu hI
      have hall : ∀ i, i < ops.size → L i = true := by
        intro i hi
        cases hl : L i with
        | true => rfl
        | false =>
          exfalso
          have := PQ.unm_upd (pt := fun j => if L j = true then 1 else 0) (v := 1) hi (by simp [hl]) (by omega)
          omega
      refine ⟨?_, hend L a w hall hI⟩
      cases hr : Region.ready .any ops listed with
      | nil => rfl
      | cons i rs =>
        have hi : i ∈ Region.ready .any ops listed := by rw [hr]; exact List.mem_cons_self ..
        obtain ⟨h1, o, ho, -⟩ := mem_ready.1 hi
        have his : i < ops.size := by
          rcases Nat.lt_or_ge i ops.size with g | g
          · exact g
          · rw [Array.getElem?_eq_none g] at ho; cases ho
        rw [(hL i his).1, hall i his] at h1
        cases h1
    | succ fuel ih =>
      intro listed L a w hs hL hu hI
      refine ⟨fun hr => hend L a w (fun i hi => all listed L hL hr ops.size i hi hi) hI, fun i hi => ?_⟩
      obtain ⟨h1, o, ho, haf⟩ := mem_ready.1 hi
      have his : i < ops.size := by
        rcases Nat.lt_or_ge i ops.size with g | g
        · exact g
        · rw [Array.getElem?_eq_none g] at ho; cases ho
      rw [(hL i his).1] at h1
      have hst := hstep L i o a w ho h1 (fun e he hb => by
        have := haf e he hb
        rwa [(hL e.on (by have := hwf i o ho e he; omega)).2] at this) hI
      refine wpOp_mono (fun a' w' h => ?_) (wpOp_of_list ho hst)
      refine ih _ _ a' w' (by simpa using hs) (fun j hj => ?_) ?_ h
      · by_cases e : j = i
        · subst e
          simp [hs, his]
        · have := hL j hj
          have e' : ¬ i = j := fun h => e h.symm
          simp only [if_neg e]
          simp only [Array.getD_eq_getD_getElem?, Array.getElem?_setIfInBounds, if_neg e'] at this ⊢
          exact this
      · have := PQ.unm_upd (pt := fun j => if L j = true then 1 else 0) (v := 1) his (by simp [h1]) (by omega)
        have e2 : (fun j => if (if j = i then true else L j) = true then 1 else 0) = PQ.upd (fun j => if L j = true then 1 else 0) i 1 := by
          funext j
          unfold PQ.upd
          by_cases e : j = i
          · simp [e]
          · simp [e]
        rw [e2]
        omega
  refine wp_region_any hm (key ops.size _ (fun _ => false) a _ (by simp) (fun i hi => by simp [hi]) ?_ h0)
  exact Nat.le_trans (by unfold PQ.unm; exact List.length_filter_le _ _) (by simp)
/-- the same, the invariant told of the state at the region's beginning -/
theorem wp_region_inv2 {P : Program} {id : Nat} {ops : Array Oper} {Q : Exit → Act → World → Prop} {a : Act} {w : World} (hm : P.follows .mixedOrders = true) (Inv : Act → (Nat → Bool) → Act → World → Prop)
    (hwf : ∀ (i : Nat) (o : Oper), ops[i]? = some o → ∀ e ∈ o.after, e.on < i)
    (h0 : Inv a (fun _ => false) a w.drew)
    (hstep : ∀ (L : Nat → Bool) (i : Nat) (o : Oper) (a1 : Act) (w : World), ops[i]? = some o → L i = false → (∀ e ∈ o.after, Region.binds .any e = true → L e.on = true) → Inv a L a1 w → wpList P ops (Exit.then (fun a' w' => Inv a (mkd L i) a' w') Q) [o] a1 w)
    (hend : ∀ (L : Nat → Bool) (a1 : Act) (w : World), (∀ i, i < ops.size → L i = true) → Inv a L a1 w → Q .normal a1 w) : (Code.region id ops true).wp P Q a w :=
  wp_region_inv hm (Inv a) hwf h0 hstep hend
/-- every operation waits for earlier ones alone, as a Bool -/
def waitsBack (ops : Array Oper) : Bool := (List.range ops.size).all fun i => (ops[i]?.map fun o => o.after.all fun e => decide (e.on < i)).getD true
theorem waits_of {ops : Array Oper} (h : waitsBack ops = true) : ∀ (i : Nat) (o : Oper), ops[i]? = some o → ∀ e ∈ o.after, e.on < i := by
  intro i o ho e he
  have his : i < ops.size := by
    rcases Nat.lt_or_ge i ops.size with g | g
    · exact g
    · rw [Array.getElem?_eq_none g] at ho; cases ho
  have h1 := (List.all_eq_true.1 h) i (List.mem_range.2 his)
  rw [ho] at h1
  simp only [Option.map_some, Option.getD_some] at h1
  have := Array.all_eq_true'.1 h1 e he
  simpa using this
end Go.Proofs.Ytopfnffabaiceaa
