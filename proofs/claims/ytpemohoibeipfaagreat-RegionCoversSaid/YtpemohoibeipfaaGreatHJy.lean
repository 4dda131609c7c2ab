/- place.Contains at any valid place; the law RegionCovers. -/
import Derived.Test.YtpemohoibeipfaaGreatHJw
import Derived.Test.YtpemohoibeipfaaGreatHKz
import Derived.Test.YtpemohoibeipfaaGreatHGc
import Derived.Test.YtpemohoibeipfaaGreatHSf
import Derived.Test.YtpemohoibeipfaaGreatHNn
import Derived.Test.YtpemohoibeipfaaGreatHKt
set_option linter.unusedVariables false
set_option linter.unusedSimpArgs false
namespace Go.Proofs.YtpemohoibeipfaaGreat
open Canon
/-- a place that meets a cell meets one of its children -/
theorem kid_meets {p : Bx} (hp : VP p) {c : Cl} (hc : Vl c) (h : c.1 < 16) (hm : meetB p (bxI c) = true) : ∃ k ∈ kidsC c, meetB p (bxI k) = true := by
  obtain ⟨y, x, i1, i2⟩ := meet_pt hp (bxI_vp hc) hm
  have hkv := kids_vl hc h
  obtain ⟨l, r, cc⟩ := c
  obtain ⟨f1, f2, f3, f4, f5, f6, f7, f8⟩ := bx_facts hc
  obtain ⟨ll, rfl⟩ := Int.eq_ofNat_of_zero_le hc.l0
  have e1 : edg (2 * r) ((ll : Int) + 1) = edg r ll := edg_even r ll
  have e2 : edg (2 * r + 1 + 1) ((ll : Int) + 1) = edg (r + 1) ll := by rw [show 2 * r + 1 + 1 = 2 * (r + 1) by omega]; exact edg_even (r + 1) ll
  have e3 : edg (2 * cc) ((ll : Int) + 1) = edg cc ll := edg_even cc ll
  have e4 : edg (2 * cc + 1 + 1) ((ll : Int) + 1) = edg (cc + 1) ll := by rw [show 2 * cc + 1 + 1 = 2 * (cc + 1) by omega]; exact edg_even (cc + 1) ll
  have m1 : edg (2 * r) ((ll : Int) + 1) ≤ edg (2 * r + 1) ((ll : Int) + 1) := edg_mono _ (by omega)
  have m2 : edg (2 * r + 1) ((ll : Int) + 1) ≤ edg (2 * r + 1 + 1) ((ll : Int) + 1) := edg_mono _ (by omega)
  have m3 : edg (2 * cc) ((ll : Int) + 1) ≤ edg (2 * cc + 1) ((ll : Int) + 1) := edg_mono _ (by omega)
  have m4 : edg (2 * cc + 1) ((ll : Int) + 1) ≤ edg (2 * cc + 1 + 1) ((ll : Int) + 1) := edg_mono _ (by omega)
  unfold inX lonP bxI at i2
  simp only [] at i2 f1 f2 f3 f4 f5 f6 f7 f8
  unfold bxI at f1 f2 f3 f4 f5 f6 f7 f8
  simp only [] at f1 f2 f3 f4 f5 f6 f7 f8
  have key : ∃ k ∈ kidsC ((ll : Int), r, cc), inX (bxI k) y x := by
    unfold inX lonP bxI kidsC kids
    simp only [List.mem_cons, List.not_mem_nil, or_false, exists_eq_or_imp, exists_eq_left]
    rw [e1, e2, e3, e4] at *
    generalize edg (2 * r + 1) ((ll : Int) + 1) = rm at *
    generalize edg (2 * cc + 1) ((ll : Int) + 1) = cm at *
    generalize edg r ll = r0 at *
    generalize edg (r + 1) ll = r1 at *
    generalize edg cc ll = c0 at *
    generalize edg (cc + 1) ll = c1 at *
    omega
  obtain ⟨k, hk, hi⟩ := key
  exact ⟨k, hk, pt_meet hp (bxI_vp (hkv k hk)) i1 hi⟩
theorem arn_len {p : Bx} (hp : VP p) {lev : Int} (h16 : lev < 16) : ∀ (f : Nat) (c : Cl), Vl c → c.1 + (f : Int) = lev → (arnL (mtP p) lev f c).length ≤ (arnL (mtP p) (lev + 1) (f + 1) c).length := by
  intro f
  induction f with
  | zero =>
    intro c hc hl
    unfold arnL
    by_cases hm : mtP p c = true
    · rw [if_pos hm, if_pos (by omega), if_pos hm, if_neg (by omega)]
      obtain ⟨k, hk, hkm⟩ := kid_meets hp hc (by omega) hm
      have hk1 : k.1 = lev + 1 := by
        simp only [kidsC, kids, List.mem_cons, List.not_mem_nil, or_false] at hk
        rcases hk with rfl | rfl | rfl | rfl <;> (simp only []; omega)
      have hmem : k ∈ (kidsC c).flatMap (arnL (mtP p) (lev + 1) 0) := by
        refine List.mem_flatMap.2 ⟨k, hk, ?_⟩
        unfold arnL
        rw [if_pos (by exact hkm), if_pos hk1]
        simp
      have := List.length_pos_of_mem hmem
      exact this
    · rw [if_neg hm]; simp
  | succ f ih =>
    intro c hc hl
    have hlt : c.1 < 16 := by omega
    have hkv := kids_vl hc hlt
    have hkl : ∀ k ∈ kidsC c, k.1 + (f : Int) = lev := by
      intro k hk
      simp only [kidsC, kids, List.mem_cons, List.not_mem_nil, or_false] at hk
      rcases hk with rfl | rfl | rfl | rfl <;> (simp only []; omega)
    unfold arnL
    by_cases hm : mtP p c = true
    · rw [if_pos hm, if_neg (by omega), if_pos hm, if_neg (by omega)]
      have key : ∀ K : List Cl, (∀ k ∈ K, k ∈ kidsC c) → (K.flatMap (arnL (mtP p) lev f)).length ≤ (K.flatMap (arnL (mtP p) (lev + 1) (f + 1))).length := by
        intro K
        induction K with
        | nil => intro _; simp
        | cons z K ihK =>
          intro hK
          have h1 := ih z (hkv z (hK z (by simp))) (hkl z (hK z (by simp)))
          have h2 := ihK (fun k hk => hK k (by simp [hk]))
          simp only [List.flatMap_cons, List.length_append]
          omega
      exact key _ (fun _ h => h)
    · rw [if_neg hm]; simp
theorem arnA_len {p : Bx} (hp : VP p) {lev : Int} (h0 : 0 ≤ lev) (h16 : lev < 16) : (arnA (mtP p) lev).length ≤ (arnA (mtP p) (lev + 1)).length := by
  have e : (lev + 1).toNat = lev.toNat + 1 := by omega
  unfold arnA
  rw [e, List.length_append, List.length_append]
  have h1 := arn_len hp h16 lev.toNat (0, 0, 0) (top_vl 0 (by omega) (by omega)) (by simp only []; omega)
  have h2 := arn_len hp h16 lev.toNat (0, 0, 1) (top_vl 1 (by omega) (by omega)) (by simp only []; omega)
  omega
/-- a point of a place that is no pole is in a cell of the level -/
theorem arn_con {p : Bx} (hp : VP p) {lev : Int} (h0 : 0 ≤ lev) (h16 : lev ≤ 16) {a b : Int} (hv : vptB a b = true) (hi : inX p a b) (ha : a ≠ 5400000) (hb : a ≠ -5400000) : conB (canonC (covL (arnA (mtP p) lev))) a b = true := by
  have hX := arnA_v (mt := mtP p) h0 h16
  rw [con_iff (can_v _ hX) a b hv]
  obtain ⟨o1, -⟩ := of_in hv (show (0 : Int) ≤ 16 by omega) (by omega)
  have ho := of_pt hv (show (0 : Int) ≤ 16 by omega) (by omega)
  obtain ⟨g1, g2, g3, g4⟩ := (of_in hv (show (0 : Int) ≤ 16 by omega) (by omega)).2
  obtain ⟨c, hc⟩ : ∃ c, ofC a b 16 = c := ⟨_, rfl⟩
  have hcl : c.1 = 16 := by rw [← hc]; rfl
  rw [hc] at ho o1 g1 g2 g3 g4
  have hbk : (blkOf c).1 = 0 := by show 16 - c.1.toNat = 0; omega
  have hce : cellB (0, (blkOf c).2) = c := by
    have := cellB_blkOf c o1
    rw [show blkOf c = (0, (blkOf c).2) from Prod.ext hbk rfl] at this
    exact this
  have hq := (blk_lt c o1).2
  rw [hbk] at hq
  have hbx := bx_facts o1
  refine ⟨(blkOf c).2, ?_, ?_⟩
  · rw [cov_blk, can_cov hX]
    refine arn_pt hp h0 h16 (by simpa using hq) hi ?_
    rw [hce]
    unfold inX lonP bxI at *
    rw [hcl] at *
    simp only [] at *
    generalize edg c.2.1 16 = r0 at *
    generalize edg (c.2.1 + 1) 16 = r1 at *
    generalize edg c.2.2 16 = c0 at *
    generalize edg (c.2.2 + 1) 16 = c1 at *
    omega
  · unfold fin
    rw [hce]
    exact ho
end Go.Proofs.YtpemohoibeipfaaGreat
namespace Go.Proofs.YtpemohoibeipfaaGreat
open Go.RowKit
/-- what there is of the two great cells, when some of them have been looked at -/
noncomputable def arO (p : Bx) (lev : Int) (k : Nat) : List Cl := if k = 0 then [] else if k = 1 then canonC (covL (arnL (mtP p) lev lev.toNat (0, 0, 0))) else canonC (covL (arnA (mtP p) lev))
theorem arO_step {p : Bx} {lev : Int} (hp : VP p) (h0 : 0 ≤ lev) (h16 : lev ≤ 16) (hlen : (arnA (mtP p) lev).length ≤ 4000) (k : Nat) (hk : k < 2) :
    covP (mtP p) (inP p) lev lev.toNat (0, 0, (k : Int)) (arO p lev k) = arO p lev (k + 1) ∧ AllV (arO p lev k) ∧ (arO p lev k).length + (arnL (mtP p) lev lev.toNat (0, 0, (k : Int))).length ≤ 4064 := by
  obtain ⟨c0, c1⟩ := cov_around (mt := mtP p) (ins := inP p) h0 h16 (inP_kids hp h16)
  have hv := arnA_v (mt := mtP p) h0 h16
  have hsplit : (arnA (mtP p) lev).length = (arnL (mtP p) lev lev.toNat (0, 0, 0)).length + (arnL (mtP p) lev lev.toNat (0, 0, 1)).length := by unfold arnA; rw [List.length_append]
  have v0 : AllV (arnL (mtP p) lev lev.toNat (0, 0, 0)) := fun x hx => hv x (List.mem_append_left _ hx)
  match k, hk with
  | 0, _ =>
    refine ⟨?_, fun x hx => by simp [arO] at hx, ?_⟩
    · unfold arO; rw [if_pos rfl, if_neg (by omega), if_pos rfl]; exact c0
    · have e : arO p lev 0 = [] := by unfold arO; rw [if_pos rfl]
      rw [e]
      simp only [List.length_nil]
      have e2 : (((0 : Nat) : Int)) = 0 := rfl
      rw [e2]
      omega
  | 1, _ =>
    have hl := canonC_len _ v0
    refine ⟨?_, ?_, ?_⟩
    · unfold arO; rw [if_neg (by omega), if_pos rfl, if_neg (by omega), if_neg (by omega)]; exact c1
    · unfold arO; rw [if_neg (by omega), if_pos rfl]; exact can_v _ v0
    · unfold arO; rw [if_neg (by omega), if_pos rfl]; simp only [Int.natCast_one]; omega
theorem arO_end (p : Bx) (lev : Int) : arO p lev 2 = canonC (covL (arnA (mtP p) lev)) := by unfold arO; rw [if_neg (by omega), if_neg (by omega)]
set_option maxHeartbeats 4000000 in
set_option maxRecDepth 100000 in
theorem Around_yes (p0 p1 p2 p3 lev : Int) (w : World) (hp : VP (p0, p1, p2, p3)) (h0 : 0 ≤ lev) (h16 : lev ≤ 16) (hlen : (arnA (mtP (p0, p1, p2, p3)) lev).length ≤ 4000) :
    Calls Tryz.prog 25 #[.agg #[.int .i64 p0, .int .i64 p1, .int .i64 p2, .int .i64 p3], .int .i64 lev] w (RetCells w (canonC (covL (arnA (mtP (p0, p1, p2, p3)) lev))) 0) := by
  have KV := Lib.hid (fun W => placeValid_vp p0 p1 p2 p3 W hp)
  have ST := Lib.hid (arO_step hp h0 h16 hlen)
  have HE := Lib.hid (arO_end (p0, p1, p2, p3) lev)
  have HP := Lib.hid hp
  have hEL : (arO (p0, p1, p2, p3) lev 2).length ≤ 4000 := by rw [arO_end]; exact Nat.le_trans (canonC_len _ (arnA_v h0 h16)) hlen
  have HEL := Lib.hid hEL
  have G2 := Lib.hid (Blk.new w 43 #[.int .i64 p0, .int .i64 p1, .int .i64 p2, .int .i64 p3])
  have d0 : decide (lev < 0) = false := decide_eq_false (by omega)
  have d1 : decide (16 < lev) = false := decide_eq_false (by omega)
  clear hp hlen hEL
  rw [← HE.out]
  go_enter Tryz.func25, Tryz.ntmps25
  go_wp2_with fail
  (with_reducible refine (KV.out _).mono ?_)
  rintro e w1 ⟨rfl, hb1⟩
  have B1 := Lib.hid ((bl_alloc w (.cells #[.int .i64 p0, .int .i64 p1, .int .i64 p2, .int .i64 p3] 43)).trans (hb1.mono (by simp)))
  have G3 := Lib.hid (((G2.out.below hb1 G2.out.lt).alloc (.cells #[.slice none 0 0] 26)).alloc (.cells #[.int .i64 0, .int .i64 0, .int .i64 0, .int .i64 0, .int .i64 0, .int .i64 1] 58))
  have bB := (Boxed.new w1 26 (.slice none 0 0)).alloc (.cells #[.int .i64 0, .int .i64 0, .int .i64 0, .int .i64 0, .int .i64 0, .int .i64 1] 58)
  have gC := Blk.new (w1.alloc (.cells #[.slice none 0 0] 26)) 58 #[.int .i64 0, .int .i64 0, .int .i64 0, .int .i64 0, .int .i64 0, .int .i64 1]
  simp only [World.size_alloc] at gC
  have B2 := (B1.out.alloc B1.out.size (.cells #[.slice none 0 0] 26)).alloc (by have := B1.out.size; simp; omega) (.cells #[.int .i64 0, .int .i64 0, .int .i64 0, .int .i64 0, .int .i64 0, .int .i64 1] 58)
  have hs1 := B1.out.size
  have hg3 := (G2.out.below hb1 G2.out.lt).lt
  have hs2 : ((w1.alloc (.cells #[.slice none 0 0] 26)).alloc (.cells #[.int .i64 0, .int .i64 0, .int .i64 0, .int .i64 0, .int .i64 0, .int .i64 1] 58)).heap.size = w1.heap.size + 2 := by simp
  clear hb1 KV G2
  go_wp2
  generalize (w1.alloc (.cells #[.slice none 0 0] 26)).alloc (.cells #[.int .i64 0, .int .i64 0, .int .i64 0, .int .i64 0, .int .i64 0, .int .i64 1] 58) = w2 at bB gC B2 G3 hs2 ⊢
  have GC := Lib.hid gC
  have BB := Lib.hid bB
  have B2 := Lib.hid B2
  have hsl : ∀ u, u ∈ ([] : List Cl) → Vl u := fun u hu => by cases hu
  have S2 : Hid (St w1.heap.size w1.heap.size w2 (.slice none 0 0) (arO (p0, p1, p2, p3) lev 0)) := Lib.hid (by
    have e : arO (p0, p1, p2, p3) lev 0 = [] := by unfold arO; rw [if_pos rfl]
    rw [e]
    exact ⟨BB.out, own_nil _ _ _ _⟩)
  clear gC bB hsl
  go_loopg [24] 2 (fun gz s24 wr => ∃ (k : Nat) (u : Value), k + gz = 2 ∧ s24 = .int .i64 k ∧ St w1.heap.size w1.heap.size wr u (arO (p0, p1, p2, p3) lev k) ∧ XK w1.heap.size (.slice none 0 0) w2 wr ∧ Nx w2 (.slice none 0 0) u)
  case atStart => exact ⟨0, _, by omega, rfl, S2.out, XK.refl _ _ _, Nx.refl _ _⟩
  case round =>
    obtain ⟨k, u, hk, rfl, hSt, hX, hN⟩ := hrel
    have hss := hX.size
    have HSt := Lib.hid hSt
    have HX := Lib.hid hX
    have HN := Lib.hid hN
    by_cases hlt : k < 2
    · obtain ⟨t1, t2, t3⟩ := ST.out k hlt
      have gc := hX.blk GC.out (by omega) (by simp [Value.ownBlock])
      have g3 := hX.blk G3.out (by omega) (by simp [Value.ownBlock])
      have x0 := g3.cell 0
      have x1 := g3.cell 1
      have x2 := g3.cell 2
      have x3 := g3.cell 3
      have c0 : wr.cell? ⟨w1.heap.size + 1, k * 3, none⟩ = some (.int .i64 0) := by
        rw [gc.cell]
        match k, hlt with
        | 0, _ => rfl
        | 1, _ => rfl
      have c1 : wr.cell? ⟨w1.heap.size + 1, k * 3 + 1, none⟩ = some (.int .i64 0) := by
        rw [gc.cell]
        match k, hlt with
        | 0, _ => rfl
        | 1, _ => rfl
      have c2 : wr.cell? ⟨w1.heap.size + 1, k * 3 + 2, none⟩ = some (.int .i64 (k : Int)) := by
        rw [gc.cell]
        match k, hlt with
        | 0, _ => rfl
        | 1, _ => rfl
      simp only [List.getElem?_toArray, List.getElem?_cons_zero, List.getElem?_cons_succ] at x0 x1 x2 x3
      have hba := bl_alloc wr (.cells #[.int .i64 0, .int .i64 0, .int .i64 (k : Int)] 58)
      have hlt2 : w.heap.size < wr.heap.size := by omega
      have KC := cover_ok lev.toNat p0 p1 p2 p3 0 0 (k : Int) lev w1.heap.size w1.heap.size u (arO (p0, p1, p2, p3) lev k) (wr.alloc (.cells #[.int .i64 0, .int .i64 0, .int .i64 (k : Int)] 58)) HP.out (top_vl (k : Int) (by omega) (by omega)) (by omega) h16 (hSt.below hba) (by simp; omega) t2 t3
      rw [t1] at KC
      have KC := Lib.hid KC
      have HBA := Lib.hid hba
      clear hSt hX hN gc g3 hba t1 t2 t3
      go_wp2_with fail
      (with_reducible refine (KC.out).mono ?_)
      rintro e w9 ⟨rfl, hG⟩
      obtain ⟨u9, s1, s2, s3⟩ := hG.after HBA.out
      go_wp2
      go_roundg (2 - (k + 1))
      case measure => omega
      case rel => exact ⟨k + 1, u9, by omega, by go_num, s1, HX.out.trans HN.out s2, HN.out.trans hss s3⟩
    · have hk2 : k = 2 := by omega
      subst hk2
      obtain ⟨A9, c9, rfl, -, -⟩ := own_form hSt.row
      have hcc := hSt.box.cell
      have hd : decide (4000 < ((arO (p0, p1, p2, p3) lev 2).length : Int)) = false := decide_eq_false (by have := HEL.out; omega)
      have OW := Lib.hid (own_mono hSt.row hs1)
      have BW := Lib.hid (B2.out.trans ((hX.below (n₀ := w.heap.size) hs1 (by simp [Value.ownBlock]) (by omega))))
      clear hSt hX hN HSt HX HN
      go_wp2
      go_ret2
      exact ⟨_, rfl, OW.out, BW.out⟩
end Go.Proofs.YtpemohoibeipfaaGreat
namespace Go.Proofs.YtpemohoibeipfaaGreat
open Go.RowKit
theorem boxOk_of {x : Cl} (hx : Vl x) : BoxOk (edg x.2.1 x.1 - 5400000) (edg (x.2.1 + 1) x.1 - 5400000) (edg x.2.2 x.1 - 10800000) (edg (x.2.2 + 1) x.1 - 10800000) := by
  obtain ⟨h1, h2, h3, h4, h5, h6, h7, h8⟩ := box_nums hx
  constructor <;> omega
theorem cellContains (x : Cl) (a b : Int) (W : World) (hx : Vl x) (hp : vptB a b = true) :
    Calls Tryz.prog 28 #[boxV x.1 x.2.1 x.2.2, .agg #[.int .i64 a, .int .i64 b]] W fun e w' => e = .returned (.tuple #[.bool (ptB x a b), .int .i64 0]) ∧ Below W.heap.size W w' :=
  placeContains_any _ _ _ _ a b W (boxOk_of hx) hp
theorem con_take (L : List Cl) (a b : Int) (k : Nat) (hk : k < L.length) (h : ((L.take k).any fun x => ptB x a b) = false) : ((L.take (k + 1)).any fun x => ptB x a b) = ptB (gt L k) a b := by
  rw [List.take_succ_eq_append_getElem hk, List.any_append, h]
  simp [gt, hk]
theorem con_of (L : List Cl) (a b : Int) (k : Nat) (hk : k < L.length) (h : ptB (gt L k) a b = true) : conB L a b = true := by
  unfold conB
  rw [List.any_eq_true]
  simp [gt, hk] at h
  exact ⟨L[k], List.getElem_mem hk, h⟩
set_option maxHeartbeats 1000000 in
set_option maxRecDepth 100000 in
theorem Contains_any (A : Option Addr) (n c : Nat) (L : List Cl) (a b : Int) (w : World) (hr : Reads w w.heap.size 3 A n (cvs L)) (hn : n ≤ maxLen) (hv : vrB L = true) (hp : vptB a b = true) :
    Calls Tryz.prog 15 #[.slice A n c, .agg #[.int .i64 a, .int .i64 b]] w fun e w' => e = .returned (.tuple #[.bool (conB L a b), .int .i64 0]) ∧ Below w.heap.size w w' := by
  obtain ⟨R, hR⟩ : ∃ R, R = conB L a b := ⟨_, rfl⟩
  rw [← hR]
  have HR := Lib.hid hR
  have HL := Lib.hid hr.len
  have RD : Hid (∀ W, Below w.heap.size w W → Reads W W.heap.size 3 A n (cvs L)) := Lib.hid (fun W hW => (hr.below hW).more hW.size)
  have K1 := Lib.hid (fun W hW => vr_yes A n c L true hv W (RD.out W hW) hn)
  have K2 := Lib.hid (vpt_yes a b hp)
  have AV := Lib.hid (vr_parts hv).2.2
  have HP := Lib.hid hp
  have hlen := (vr_parts hv).1
  rw [hr.len] at hlen
  clear hR hr hv hp hn
  go_enter Tryz.func15, Tryz.ntmps15
  go_wp2_with fail
  have b0 := bl_alloc w (.cells #[.int .i64 a, .int .i64 b] 23)
  (with_reducible refine (K1.out _ b0).mono ?_)
  rintro e w1 ⟨rfl, hb1⟩
  have hb1' := b0.trans (hb1.mono (by simp))
  have hz1 := one_lt hb1
  have y0 := (hb1.cell (p := ⟨w.heap.size, 0, none⟩) (by simp)).trans (show _ = some (.int .i64 a) by simp)
  have y1 := (hb1.cell (p := ⟨w.heap.size, 1, none⟩) (by simp)).trans (show _ = some (.int .i64 b) by simp)
  clear hb1 b0
  go_wp2_with fail
  (with_reducible refine (K2.out _).mono ?_)
  rintro e w2 ⟨rfl, hb2⟩
  have hb2' := hb1'.trans (hb2.mono hb1'.size)
  have y0 := (hb2.cell (p := ⟨w.heap.size, 0, none⟩) hz1).trans y0
  have y1 := (hb2.cell (p := ⟨w.heap.size, 1, none⟩) hz1).trans y1
  have hz2 : w.heap.size < w2.heap.size := Nat.lt_of_lt_of_le hz1 hb2.size
  clear hb2 hb1' K1 K2 hz1
  go_wp2_with fail
  go_loopw [20] (fun i wr => ∃ k : Nat, k ≤ n ∧ i = .int .i64 k ∧ ((L.take k).any fun x => ptB x a b) = false ∧ Below w2.heap.size w2 wr) (fun i _ => n - (intOf i).toNat)
  case atStart => exact ⟨0, Nat.zero_le _, rfl, rfl, Below.refl _ _⟩
  case round =>
    obtain ⟨k, hk, rfl, hno, hbr⟩ := hrel
    have hzr := hbr.size
    by_cases hlt : k < n
    · have hbw := hb2'.trans (hbr.mono hb2'.size)
      obtain ⟨bk, off, rfl, hbk, x1, x2, x3⟩ := (RD.out wr hbw).elem hlt
      have hkl : k < L.length := by rw [HL.out]; exact hlt
      have hx := AV.out (gt L k) (by simp [gt, hkl])
      have KB := Lib.hid (fun W => box_any (gt L k).1 (gt L k).2.1 (gt L k).2.2 W ((vl_iff _).2 hx))
      have KC := Lib.hid (fun W => cellContains (gt L k) a b W hx HP.out)
      have h1 := Lib.hid (con_take L a b k hkl hno)
      have h2 := Lib.hid (con_of L a b k hkl)
      generalize gt L k = x at x1 x2 x3 KB KC h1 h2
      obtain ⟨xl, xr, xc⟩ := x
      simp only [] at x1 x2 x3 KB KC
      generalize ptB (xl, xr, xc) a b = z at KC h1 h2
      clear hx hno
      go_upto_region 6 with fail
      generalize hW5 : wr.alloc (.cells #[.int .i64 xl, .int .i64 xr, .int .i64 xc] 58) = w5
      have hz5 : wr.heap.size < w5.heap.size := by rw [← hW5]; simp
      have hb5 : Below w2.heap.size w2 w5 := by rw [← hW5]; exact hbr.alloc hzr _
      have c0 : ∀ s : BV w5, s.w.cell? ⟨wr.heap.size, 0, none⟩ = some (.int .i64 xl) := fun s => (s.hb.cell (p := ⟨wr.heap.size, 0, none⟩) hz5).trans (by rw [← hW5]; simp)
      have c1 : ∀ s : BV w5, s.w.cell? ⟨wr.heap.size, 1, none⟩ = some (.int .i64 xr) := fun s => (s.hb.cell (p := ⟨wr.heap.size, 1, none⟩) hz5).trans (by rw [← hW5]; simp)
      have c2 : ∀ s : BV w5, s.w.cell? ⟨wr.heap.size, 2, none⟩ = some (.int .i64 xc) := fun s => (s.hb.cell (p := ⟨wr.heap.size, 2, none⟩) hz5).trans (by rw [← hW5]; simp)
      have c3 : ∀ s : BV w5, s.w.cell? ⟨w.heap.size, 0, none⟩ = some (.int .i64 a) := fun s => (s.hb.cell (p := ⟨w.heap.size, 0, none⟩) (by simp only []; omega)).trans ((hb5.cell (p := ⟨w.heap.size, 0, none⟩) hz2).trans y0)
      have c4 : ∀ s : BV w5, s.w.cell? ⟨w.heap.size, 1, none⟩ = some (.int .i64 b) := fun s => (s.hb.cell (p := ⟨w.heap.size, 1, none⟩) (by simp only []; omega)).trans ((hb5.cell (p := ⟨w.heap.size, 1, none⟩) hz2).trans y1)
      clear hW5 x1 x2 x3
      refine wp_region_bv w5 (by kernel_rfl) (by kernel_rfl) (Below.refl _ _) ?_
      (repeat (go_big_quiet_step (first | (go_at_call 50; with_reducible exact quiet_bv (KB.out _)) | (go_at_call 28; with_reducible exact quiet_bv (KC.out _)) | fail)))
      refine wpQuiet_nil ?_
      intro w9 hb9
      have hb9' : Below w2.heap.size w2 w9 := hb5.trans (hb9.mono hb5.size)
      clear c0 c1 c2 c3 c4 KB KC
      cases z with
      | true =>
        have hE : Hid (R = true) := Lib.hid (by rw [HR.out]; exact h2.out rfl)
        go_wp2
        go_ret2
        exact ⟨by rw [hE.out]; rfl, hb2'.trans (hb9'.mono hb2'.size)⟩
      | false =>
        go_wp2
        go_roundw
        case rel => exact ⟨k + 1, by omega, by go_num, h1.out, hb9'⟩
        case measure => simp [intOf]; omega
    · have hkn : k = n := by omega
      have hE : Hid (R = false) := Lib.hid (by rw [HR.out]; unfold conB; rw [List.take_of_length_le (by rw [HL.out]; omega)] at hno; exact hno)
      clear hno
      go_wp2
      go_ret2
      exact ⟨by rw [hE.out]; rfl, hb2'.trans (hbr.mono hb2'.size)⟩
end Go.Proofs.YtpemohoibeipfaaGreat
namespace Go.Proofs.YtpemohoibeipfaaGreat
open Go.RowKit
set_option maxHeartbeats 1000000 in
set_option maxRecDepth 100000 in
theorem has_vp (x y n : Int) (w : World) (h : VL (x, y)) (h0 : -100000000 ≤ n) (h1 : n ≤ 100000000) : Calls Tryz.prog 63 #[.agg #[.int .i64 x, .int .i64 y], .int .i64 n] w fun e w' => e = .returned (.bool (lonIn x y n)) ∧ Below w.heap.size w w' := by
  have h' : (x = -10800000 ∧ y = 10800000) ∨ (-10800000 ≤ x ∧ x < 10800000 ∧ x ≤ y ∧ y - x < 21600000) := h
  rcases h' with ⟨rfl, rfl⟩ | ⟨q1, q2, q3, q4⟩
  · have K := fun W => all_any (-10800000) 10800000 W
    rw [show aeq (-10800000) 10800000 (-10800000) 10800000 = true by decide] at K
    have K := Lib.hid K
    have hl : lonIn (-10800000) 10800000 n = true := by unfold lonIn; rw [decide_eq_true_eq]; omega
    rw [hl]
    have b0 := bl_alloc w (.cells #[.int .i64 (-10800000), .int .i64 10800000] 32)
    have D0 := Lib.hid (D2.new w (-10800000) 10800000 32)
    have B0 := Lib.hid b0
    clear b0 h hl
    go_enter Tryz.func63, Tryz.ntmps63
    go_upto_region 1 with (fail)
    generalize w.alloc (.cells #[.int .i64 (-10800000), .int .i64 10800000] 32) = w1 at B0 D0 ⊢
    have c0 : ∀ s : BV w1, s.w.cell? ⟨w.heap.size, 0, none⟩ = some (.int .i64 (-10800000)) := fun s => (s.hb.cell (p := ⟨w.heap.size, 0, none⟩) D0.out.lt).trans D0.out.c0
    have c1 : ∀ s : BV w1, s.w.cell? ⟨w.heap.size, 1, none⟩ = some (.int .i64 10800000) := fun s => (s.hb.cell (p := ⟨w.heap.size, 1, none⟩) D0.out.lt).trans D0.out.c1
    refine wp_region_bv w1 (by kernel_rfl) (by kernel_rfl) (Below.refl _ _) ?_
    (repeat (go_big_quiet_step (first | (go_at_call 108; with_reducible exact quiet_bv (K.out _)) | fail)))
    refine wpQuiet_nil ?_
    intro w9 hb9
    clear c0 c1
    go_wp2
    go_ret
    exact ⟨ret_bool (by simp), B0.out.trans (hb9.mono B0.out.size)⟩
  · exact has_place x y n w h0 h1 (by omega) (by omega) q3 q4
set_option maxHeartbeats 1000000 in
theorem placeContains_vp (b0 b1 b2 b3 a b : Int) (w : World) (hb : VP (b0, b1, b2, b3)) (hp : vptB a b = true) :
    Calls Tryz.prog 28 #[.agg #[.int .i64 b0, .int .i64 b1, .int .i64 b2, .int .i64 b3], .agg #[.int .i64 a, .int .i64 b]] w fun e w' => e = .returned (.tuple #[.bool (inBox b0 b1 b2 b3 a b), .int .i64 0]) ∧ Below w.heap.size w w' := by
  have K1 := Lib.hid (fun W => placeValid_vp b0 b1 b2 b3 W hb)
  have K2 := Lib.hid (vpt_yes a b hp)
  obtain ⟨p1, p2, p3, p4⟩ := vptB_true.1 hp
  have K3 := Lib.hid (fun W => has_vp b2 b3 b W hb.o (by omega) (by omega))
  clear hb hp
  obtain ⟨R, hR⟩ : ∃ R, R = inBox b0 b1 b2 b3 a b := ⟨_, rfl⟩
  rw [← hR]
  have HR := Lib.hid hR
  clear hR
  go_enter Tryz.func28, Tryz.ntmps28
  go_wp2_with fail
  (with_reducible refine (K1.out _).mono ?_)
  rintro e w1 ⟨rfl, hb1⟩
  have hb1' := two_bl hb1
  have hz1 := two_lt hb1
  have x0 := (hb1.cell (p := ⟨w.heap.size, 0, none⟩) (by simp; omega)).trans (show _ = some (.int .i64 b0) by simp)
  have x1 := (hb1.cell (p := ⟨w.heap.size, 1, none⟩) (by simp; omega)).trans (show _ = some (.int .i64 b1) by simp)
  have x2 := (hb1.cell (p := ⟨w.heap.size, 2, none⟩) (by simp; omega)).trans (show _ = some (.int .i64 b2) by simp)
  have x3 := (hb1.cell (p := ⟨w.heap.size, 3, none⟩) (by simp; omega)).trans (show _ = some (.int .i64 b3) by simp)
  have y0 := (hb1.cell (p := ⟨w.heap.size + 1, 0, none⟩) (by simp)).trans (show _ = some (.int .i64 a) by simp)
  have y1 := (hb1.cell (p := ⟨w.heap.size + 1, 1, none⟩) (by simp)).trans (show _ = some (.int .i64 b) by simp)
  clear hb1
  go_wp2_with fail
  (with_reducible refine (K2.out _).mono ?_)
  rintro e w2 ⟨rfl, hb2⟩
  have hb2' := hb1'.trans (hb2.mono hb1'.size)
  have x0 := (hb2.cell (p := ⟨w.heap.size, 0, none⟩) hz1.1).trans x0
  have x1 := (hb2.cell (p := ⟨w.heap.size, 1, none⟩) hz1.1).trans x1
  have x2 := (hb2.cell (p := ⟨w.heap.size, 2, none⟩) hz1.1).trans x2
  have x3 := (hb2.cell (p := ⟨w.heap.size, 3, none⟩) hz1.1).trans x3
  have y0 := (hb2.cell (p := ⟨w.heap.size + 1, 0, none⟩) hz1.2).trans y0
  have y1 := (hb2.cell (p := ⟨w.heap.size + 1, 1, none⟩) hz1.2).trans y1
  clear hb2 hb1' K1 K2
  by_cases h0 : a < b0
  · have hE : Hid (R = false) := Lib.hid (by rw [HR.out]; simp [inBox]; omega)
    go_wp2
    go_ret2
    exact ⟨by rw [hE.out]; rfl, hb2'⟩
  · have d0 : decide (a < b0) = false := decide_eq_false h0
    by_cases h1 : b1 < a
    · have hE : Hid (R = false) := Lib.hid (by rw [HR.out]; simp [inBox]; omega)
      go_wp2
      go_ret2
      exact ⟨by rw [hE.out]; rfl, hb2'⟩
    · have d1 : decide (b1 < a) = false := decide_eq_false h1
      have hin : decide (b0 ≤ a ∧ a ≤ b1) = true := decide_eq_true (by omega)
      by_cases h2 : a = 5400000
      · have hE : Hid (R = true) := Lib.hid (by rw [HR.out, inBox, hin]; simp [h2])
        subst h2
        clear hin
        go_wp2
        go_ret2
        exact ⟨by rw [hE.out]; rfl, hb2'⟩
      · have e2 : (a == 5400000) = false := by simp [h2]
        by_cases h3 : a = -5400000
        · have hE : Hid (R = true) := Lib.hid (by rw [HR.out, inBox, hin]; simp [h3])
          subst h3
          clear hin
          go_wp2
          go_ret2
          exact ⟨by rw [hE.out]; rfl, hb2'⟩
        · have e3 : (a == -5400000) = false := by simp [h3]
          have hE : Hid (R = lonIn b2 b3 b) := Lib.hid (by rw [HR.out, inBox, hin]; simp [h2, h3])
          generalize lonIn b2 b3 b = z at K3 hE
          clear hin
          go_wp2_with (go_at_call 63; (with_reducible refine (K3.out _).mono ?_); rintro e w3 ⟨rfl, hb3⟩)
          go_ret2
          exact ⟨by rw [hE.out]; rfl, hb2'.trans (hb3.mono hb2'.size)⟩
end Go.Proofs.YtpemohoibeipfaaGreat
