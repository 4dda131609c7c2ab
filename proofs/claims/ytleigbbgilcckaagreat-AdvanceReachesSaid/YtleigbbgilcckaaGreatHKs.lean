/- The walks of combine's has, and of the rules. -/
import Derived.Lib.SliceRun
import Derived.BigQuiet
import Derived.Test.YtleigbbgilcckaaGreatHKz
import Derived.Test.YtleigbbgilcckaaGreatHJc
set_option linter.unusedVariables false
set_option linter.unusedSimpArgs false
namespace Go.Proofs.YtleigbbgilcckaaGreat
open Go.RowKit
/-- what there is of the two great cells, when some of them have been looked at -/
noncomputable def arO (p : Bx) (lev : Int) (k : Nat) : List Cl := if k = 0 then [] else if k = 1 then canonC (covL (arnL (mtP p) lev lev.toNat (0, 0, 0))) else canonC (covL (arnA (mtP p) lev))
theorem arO_step {p : Bx} {lev : Int} (hp : VP p) (h0 : 0 ≤ lev) (h16 : lev ≤ 16) (hlen : (arnA (mtP p) lev).length ≤ 4000) (k : Nat) (hk : k < 2) :
    covP (mtP p) (inP p) lev lev.toNat (0, 0, (k : Int)) (arO p lev k) = arO p lev (k + 1) ∧ AllV (arO p lev k) ∧ (arO p lev k).length + (arnL (mtP p) lev lev.toNat (0, 0, (k : Int))).length ≤ 4064 := by
  obtain ⟨c0, c1⟩ := cov_around (mt := mtP p) (ins := inP p) h0 h16 (inP_kids hp h16)
  have hv := arnA_v (mt := mtP p) h0 h16
  have hsplit : (arnA (mtP p) lev).length = (arnL (mtP p) lev lev.toNat (0, 0, 0)).length + (arnL (mtP p) lev lev.toNat (0, 0, 1)).length := by unfold arnA; rw [List.length_append]
  have v0 : AllV (arnL (mtP p) lev lev.toNat (0, 0, 0)) := fun x hx => hv x (List.mem_append_left _ hx)
  match k, hk with
  | 0, _ =>
    refine ⟨?_, fun x hx => by simp [arO] at hx, ?_⟩
    · unfold arO; rw [if_pos rfl, if_neg (by omega), if_pos rfl]; exact c0
    · have e : arO p lev 0 = [] := by unfold arO; rw [if_pos rfl]
      rw [e]
      simp only [List.length_nil]
      have e2 : (((0 : Nat) : Int)) = 0 := rfl
      rw [e2]
      omega
  | 1, _ =>
    have hl := canonC_len _ v0
    refine ⟨?_, ?_, ?_⟩
    · unfold arO; rw [if_neg (by omega), if_pos rfl, if_neg (by omega), if_neg (by omega)]; exact c1
    · unfold arO; rw [if_neg (by omega), if_pos rfl]; exact can_v _ v0
    · unfold arO; rw [if_neg (by omega), if_pos rfl]; simp only [Int.natCast_one]; omega
theorem arO_end (p : Bx) (lev : Int) : arO p lev 2 = canonC (covL (arnA (mtP p) lev)) := by unfold arO; rw [if_neg (by omega), if_neg (by omega)]
set_option maxHeartbeats 4000000 in
set_option maxRecDepth 100000 in
theorem Around_yes (p0 p1 p2 p3 lev : Int) (w : World) (hp : VP (p0, p1, p2, p3)) (h0 : 0 ≤ lev) (h16 : lev ≤ 16) (hlen : (arnA (mtP (p0, p1, p2, p3)) lev).length ≤ 4000) :
    Calls Tryz.prog 29 #[.agg #[.int .i64 p0, .int .i64 p1, .int .i64 p2, .int .i64 p3], .int .i64 lev] w (RetCells w (canonC (covL (arnA (mtP (p0, p1, p2, p3)) lev))) 0) := by
  have KV := Lib.hid (fun W => placeValid_vp p0 p1 p2 p3 W hp)
  have ST := Lib.hid (arO_step hp h0 h16 hlen)
  have HE := Lib.hid (arO_end (p0, p1, p2, p3) lev)
  have HP := Lib.hid hp
  have hEL : (arO (p0, p1, p2, p3) lev 2).length ≤ 4000 := by rw [arO_end]; exact Nat.le_trans (canonC_len _ (arnA_v h0 h16)) hlen
  have HEL := Lib.hid hEL
  have G2 := Lib.hid (Blk.new w 48 #[.int .i64 p0, .int .i64 p1, .int .i64 p2, .int .i64 p3])
  have d0 : decide (lev < 0) = false := decide_eq_false (by omega)
  have d1 : decide (16 < lev) = false := decide_eq_false (by omega)
  clear hp hlen hEL
  rw [← HE.out]
  go_enter Tryz.func29, Tryz.ntmps29
  go_wp2_with fail
  (with_reducible refine (KV.out _).mono ?_)
  rintro e w1 ⟨rfl, hb1⟩
  have B1 := Lib.hid ((bl_alloc w (.cells #[.int .i64 p0, .int .i64 p1, .int .i64 p2, .int .i64 p3] 48)).trans (hb1.mono (by simp)))
  have G3 := Lib.hid (((G2.out.below hb1 G2.out.lt).alloc (.cells #[.slice none 0 0] 22)).alloc (.cells #[.int .i64 0, .int .i64 0, .int .i64 0, .int .i64 0, .int .i64 0, .int .i64 1] 46))
  have bB := (Boxed.new w1 22 (.slice none 0 0)).alloc (.cells #[.int .i64 0, .int .i64 0, .int .i64 0, .int .i64 0, .int .i64 0, .int .i64 1] 46)
  have gC := Blk.new (w1.alloc (.cells #[.slice none 0 0] 22)) 46 #[.int .i64 0, .int .i64 0, .int .i64 0, .int .i64 0, .int .i64 0, .int .i64 1]
  simp only [World.size_alloc] at gC
  have B2 := (B1.out.alloc B1.out.size (.cells #[.slice none 0 0] 22)).alloc (by have := B1.out.size; simp; omega) (.cells #[.int .i64 0, .int .i64 0, .int .i64 0, .int .i64 0, .int .i64 0, .int .i64 1] 46)
  have hs1 := B1.out.size
  have hg3 := (G2.out.below hb1 G2.out.lt).lt
  have hs2 : ((w1.alloc (.cells #[.slice none 0 0] 22)).alloc (.cells #[.int .i64 0, .int .i64 0, .int .i64 0, .int .i64 0, .int .i64 0, .int .i64 1] 46)).heap.size = w1.heap.size + 2 := by simp
  clear hb1 KV G2
  go_wp2
  generalize (w1.alloc (.cells #[.slice none 0 0] 22)).alloc (.cells #[.int .i64 0, .int .i64 0, .int .i64 0, .int .i64 0, .int .i64 0, .int .i64 1] 46) = w2 at bB gC B2 G3 hs2 ⊢
  have GC := Lib.hid gC
  have BB := Lib.hid bB
  have B2 := Lib.hid B2
  have hsl : ∀ u, u ∈ ([] : List Cl) → Vl u := fun u hu => by cases hu
  have S2 : Hid (St w1.heap.size w1.heap.size w2 (.slice none 0 0) (arO (p0, p1, p2, p3) lev 0)) := Lib.hid (by
    have e : arO (p0, p1, p2, p3) lev 0 = [] := by unfold arO; rw [if_pos rfl]
    rw [e]
    exact ⟨BB.out, own_nil _ _ _ _⟩)
  clear gC bB hsl
  go_loopg [24] 2 (fun gz s24 wr => ∃ (k : Nat) (u : Value), k + gz = 2 ∧ s24 = .int .i64 k ∧ St w1.heap.size w1.heap.size wr u (arO (p0, p1, p2, p3) lev k) ∧ XK w1.heap.size (.slice none 0 0) w2 wr ∧ Nx w2 (.slice none 0 0) u)
  case atStart => exact ⟨0, _, by omega, rfl, S2.out, XK.refl _ _ _, Nx.refl _ _⟩
  case round =>
    obtain ⟨k, u, hk, rfl, hSt, hX, hN⟩ := hrel
    have hss := hX.size
    have HSt := Lib.hid hSt
    have HX := Lib.hid hX
    have HN := Lib.hid hN
    by_cases hlt : k < 2
    · obtain ⟨t1, t2, t3⟩ := ST.out k hlt
      have gc := hX.blk GC.out (by omega) (by simp [Value.ownBlock])
      have g3 := hX.blk G3.out (by omega) (by simp [Value.ownBlock])
      have x0 := g3.cell 0
      have x1 := g3.cell 1
      have x2 := g3.cell 2
      have x3 := g3.cell 3
      have c0 : wr.cell? ⟨w1.heap.size + 1, k * 3, none⟩ = some (.int .i64 0) := by
        rw [gc.cell]
        match k, hlt with
        | 0, _ => rfl
        | 1, _ => rfl
      have c1 : wr.cell? ⟨w1.heap.size + 1, k * 3 + 1, none⟩ = some (.int .i64 0) := by
        rw [gc.cell]
        match k, hlt with
        | 0, _ => rfl
        | 1, _ => rfl
      have c2 : wr.cell? ⟨w1.heap.size + 1, k * 3 + 2, none⟩ = some (.int .i64 (k : Int)) := by
        rw [gc.cell]
        match k, hlt with
        | 0, _ => rfl
        | 1, _ => rfl
      simp only [List.getElem?_toArray, List.getElem?_cons_zero, List.getElem?_cons_succ] at x0 x1 x2 x3
      have hba := bl_alloc wr (.cells #[.int .i64 0, .int .i64 0, .int .i64 (k : Int)] 46)
      have hlt2 : w.heap.size < wr.heap.size := by omega
      have KC := cover_ok lev.toNat p0 p1 p2 p3 0 0 (k : Int) lev w1.heap.size w1.heap.size u (arO (p0, p1, p2, p3) lev k) (wr.alloc (.cells #[.int .i64 0, .int .i64 0, .int .i64 (k : Int)] 46)) HP.out (top_vl (k : Int) (by omega) (by omega)) (by omega) h16 (hSt.below hba) (by simp; omega) t2 t3
      rw [t1] at KC
      have KC := Lib.hid KC
      have HBA := Lib.hid hba
      clear hSt hX hN gc g3 hba t1 t2 t3
      go_wp2_with fail
      (with_reducible refine (KC.out).mono ?_)
      rintro e w9 ⟨rfl, hG⟩
      obtain ⟨u9, s1, s2, s3⟩ := hG.after HBA.out
      go_wp2
      go_roundg (2 - (k + 1))
      case measure => omega
      case rel => exact ⟨k + 1, u9, by omega, by go_num, s1, HX.out.trans HN.out s2, HN.out.trans hss s3⟩
    · have hk2 : k = 2 := by omega
      subst hk2
      obtain ⟨A9, c9, rfl, -, -⟩ := own_form hSt.row
      have hcc := hSt.box.cell
      have hd : decide (4000 < ((arO (p0, p1, p2, p3) lev 2).length : Int)) = false := decide_eq_false (by have := HEL.out; omega)
      have OW := Lib.hid (own_mono hSt.row hs1)
      have BW := Lib.hid (B2.out.trans ((hX.below (n₀ := w.heap.size) hs1 (by simp [Value.ownBlock]) (by omega))))
      clear hSt hX hN HSt HX HN
      go_wp2
      go_ret2
      exact ⟨_, rfl, OW.out, BW.out⟩
end Go.Proofs.YtleigbbgilcckaaGreat
namespace Go.Proofs.YtleigbbgilcckaaGreat
open Go.RowKit Go.Sort Go.Shelf
def ivs (X : List Int) : List Value := X.map (Value.int .i64)
theorem ivs_length (X : List Int) : (ivs X).length = X.length := by simp [ivs]
theorem ivs_at (X : List Int) (k : Nat) (hk : k < X.length) : (ivs X)[k]? = some (.int .i64 (ge X k)) := by simp [ivs, ge, hk]
theorem ivs_append (X Y : List Int) : ivs (X ++ Y) = ivs X ++ ivs Y := by simp [ivs]
theorem ivs_one (X : List Int) : ∀ u ∈ ivs X, u.oneCell' = true := by
  intro u hu
  simp only [ivs, List.mem_map] at hu
  obtain ⟨x, _, rfl⟩ := hu
  rfl
theorem spvs_one (D : List Sp) : ∀ u ∈ spvs D, u.oneCell' = true := by
  intro u hu
  simp only [spvs, List.mem_flatMap] at hu
  obtain ⟨x, _, hx⟩ := hu
  exact spv_one x u hx
def sortI (X : List Int) : List Int := X.mergeSort fun x y => decide (x ≤ y)
theorem sortI_length (X : List Int) : (sortI X).length = X.length := List.length_mergeSort _
theorem putRow_ints (w : World) (g : Nat) (X : List Int) : putRow (Value.int .i64) w g 0 X.toArray = putRow id w g 0 (ivs X).toArray := by
  unfold putRow
  congr 1
  funext c
  unfold putCells
  simp only [List.size_toArray, ivs_length]
  congr 1
  funext i
  by_cases h : 0 ≤ i ∧ i < 0 + X.length
  · have h2 : i < X.length := by omega
    simp [h2, ivs]
  · have h2 : ¬ i < X.length := by omega
    simp [h2]
theorem sortInt_any (base : Nat) (v : Value) (X : List Int) (w : World) (h : w.ownsRow base 3 1 v X.length (ivs X)) (hn : X.length < 4611686018427387904) :
    Calls Tryz.prog 135 #[v] w fun e w' => e = .returned (.tuple #[]) ∧ w'.ownsRow base 3 1 v X.length (ivs (sortI X)) ∧ w.grownBy w' v.ownBlock := by
  rcases Nat.eq_zero_or_pos X.length with h0 | h0
  · have hX : X = [] := List.eq_nil_of_length_eq_zero h0
    subst hX
    have hs : sortI [] = [] := by simp [sortI]
    rw [hs]
    obtain ⟨A, c, rfl, _⟩ := own_form h
    have hcon := Any.slices_Sort_int_none Tryz.sortInt A c w
    change Calls Tryz.prog 135 _ _ _ at hcon
    refine hcon.mono ?_
    rintro e w' ⟨rfl, rfl⟩
    exact ⟨rfl, h, World.grownBy.refl _ _⟩
  · obtain ⟨g, cap, rfl, hg, hlt⟩ := h.form h0
    have hH : Holds (Value.int .i64) w g 0 X.toArray := by
      intro j hj
      have hj' : j < X.length := by simpa using hj
      have hu : (ivs X)[j]? = some (.int .i64 (X.toArray[j]!)) := by simp [ivs, hj']
      have := own_cell h j _ hu
      simpa using this
    have hcon := Any.slices_Sort_int Tryz.sortInt g 0 cap X w hH hlt hn
    change Calls Tryz.prog 135 _ _ _ at hcon
    refine hcon.mono ?_
    rintro e w' ⟨rfl, m, os, rfl⟩
    have hr := own_row w base _ 1 X.length cap g m _ (ivs (sortI X)).toArray os h (by simp [ivs, sortI])
    have hp := putRow_ints (Sort.ahead w m) g (sortI X)
    unfold sortI at hp
    rw [hp]
    exact ⟨rfl, hr.1, hr.2⟩
set_option maxHeartbeats 1000000 in
theorem Clone_any (A : Option Addr) (n ca : Nat) (D : List Sp) (w : World) (hr : Reads w w.heap.size 2 A n (spvs D)) (hn : n ≤ 1000000) :
    Calls Tryz.prog 134 #[.slice A n ca] w (RetSpans w D) := by
  have hl : D.length = n := by have := hr.1; rw [spvs_length] at this; omega
  obtain ⟨i0, hi0, hz0, hz1, hzb⟩ := info_parts Tryz.infoSpan
  have RD := Lib.hid hr
  cases A with
  | none =>
    have hn0 : n = 0 := by
      rcases Nat.eq_zero_or_pos n with h | h
      · exact h
      · obtain ⟨ad, e, _⟩ := hr.2 h
        cases e
    subst hn0
    have hD : D = [] := List.eq_nil_of_length_eq_zero hl
    subst hD
    have hq : ∀ (W : World) (c : Nat), (binOp .eql 89 (.slice none 0 c) (.slice none 0 0)).run Tryz.prog W = .ok (.bool true) W := fun W c => Go.Lib.run_eql_slice_nil W 89 116 none 0 c 0 0 Tryz.underlying89
    clear hr RD
    go_enter Tryz.func134, Tryz.ntmps134
    go_wp2
    go_ret
    exact ⟨_, rfl, own_nil _ _ _ _, Below.refl _ _⟩
  | some ad =>
    have hq : ∀ (W : World) (n c : Nat), (binOp .eql 89 (.slice (some ad) n c) (.slice none 0 0)).run Tryz.prog W = .ok (.bool false) W := fun W n c => Go.Lib.run_eql_slice_nil W 89 116 (some ad) n c 0 0 Tryz.underlying89
    clear hr
    go_enter Tryz.func134, Tryz.ntmps134
    go_wp2_with (at_builtin; (refine wpList_append_any _ rfl (.tmp 5) (.tmp 6) _ rfl w.heap.size 116 i0 _ 2 16 Tryz.underlying89 hi0 hz0 hz1 hzb rfl (by decide) (.slice (some ⟨w.heap.size, 0, none⟩) 0 0) 0 [] rfl (own_new w w.heap.size 116 2 0 _ #[] rfl (Nat.le_refl _) rfl (by simp [maxLen])) w.heap.size (some ad) n ca (spvs D) rfl (RD.out.alloc (Nat.le_refl _) _) (spvs_one D) (by simp only [maxLen]; omega) (by omega) (by simp) ?_); intro v2 w2 hown2 hg2 hat2)
    go_ret
    rw [Nat.zero_add, List.nil_append] at hown2
    exact ⟨_, rfl, by rw [hl]; exact hown2, ((Below.refl _ _).alloc (Nat.le_refl _) _).grown hg2 (by simp) (fun k hk => by simp [Value.ownBlock] at hk; omega)⟩
end Go.Proofs.YtleigbbgilcckaaGreat
namespace Go.Proofs.YtleigbbgilcckaaGreat
open Go.RowKit
/-- one number more, if it is not the last one again -/
def cptF (acc : List Int) (x : Int) : List Int := if acc.getLast? = some x then acc else acc ++ [x]
/-- no number twice in a row -/
def cpt (X : List Int) : List Int := X.foldl cptF []
theorem cpt_snoc (X : List Int) (x : Int) : cpt (X ++ [x]) = cptF (cpt X) x := by simp [cpt]
theorem cptF_last (acc : List Int) (x : Int) : (cptF acc x).getLast? = some x := by
  unfold cptF
  split
  · assumption
  · simp
theorem cptF_len (acc : List Int) (x : Int) : (cptF acc x).length ≤ acc.length + 1 := by
  unfold cptF
  split <;> simp
theorem takeI (X : List Int) (k : Nat) (hk : k < X.length) : X.take (k + 1) = X.take k ++ [ge X k] := by
  rw [List.take_succ_eq_append_getElem hk]
  simp [ge, hk]
theorem cpt_last (X : List Int) (k : Nat) (hk : k < X.length) : (cpt (X.take (k + 1))).getLast? = some (ge X k) := by
  rw [takeI X k hk, cpt_snoc, cptF_last]
theorem cpt_same (X : List Int) (k : Nat) (hk : k + 1 < X.length) (h : ge X (k + 1) = ge X k) : cpt (X.take (k + 2)) = cpt (X.take (k + 1)) := by
  rw [takeI X (k + 1) hk, cpt_snoc]
  unfold cptF
  rw [if_pos (by rw [cpt_last X k (by omega), h])]
theorem cpt_new (X : List Int) (k : Nat) (hk : k + 1 < X.length) (h : ¬ ge X (k + 1) = ge X k) : cpt (X.take (k + 2)) = cpt (X.take (k + 1)) ++ [ge X (k + 1)] := by
  rw [takeI X (k + 1) hk, cpt_snoc]
  unfold cptF
  rw [if_neg (by rw [cpt_last X k (by omega)]; intro e; exact h (Option.some.inj e).symm)]
theorem cpt_len (X : List Int) : (cpt X).length ≤ X.length := by
  have : ∀ (X acc : List Int), (X.foldl cptF acc).length ≤ acc.length + X.length := by
    intro X
    induction X with
    | nil => intro acc; simp
    | cons x r ih =>
      intro acc
      have h1 := ih (cptF acc x)
      have h2 := cptF_len acc x
      simp only [List.foldl_cons, List.length_cons]
      omega
  simpa [cpt] using this X []
theorem cpt_one (X : List Int) (h : 0 < X.length) : cpt (X.take 1) = X.take 1 := by
  match X, h with
  | x :: r, _ => simp [cpt, cptF]
theorem cpt_few (X : List Int) (h : X.length < 2) : cpt X = X := by
  match X, h with
  | [], _ => rfl
  | [x], _ => simp [cpt, cptF]
theorem fold_cpt : ∀ (X acc : List Int), acc.Pairwise (· < ·) → (∀ a ∈ acc, ∀ x ∈ X, a ≤ x) → X.Pairwise (· ≤ ·) → (X.foldl cptF acc).Pairwise (· < ·) ∧ ∀ y, y ∈ X.foldl cptF acc ↔ (y ∈ acc ∨ y ∈ X)
  | [], acc, h, _, _ => ⟨h, fun y => by simp⟩
  | x :: X, acc, h, hle, hX => by
    rw [List.pairwise_cons] at hX
    have hc : (cptF acc x).Pairwise (· < ·) ∧ ∀ y, y ∈ cptF acc x ↔ (y ∈ acc ∨ y = x) := by
      unfold cptF
      by_cases hl : acc.getLast? = some x
      · rw [if_pos hl]
        refine ⟨h, fun y => ⟨.inl, ?_⟩⟩
        rintro (hy | rfl)
        · exact hy
        · exact List.mem_of_getLast? hl
      · rw [if_neg hl]
        refine ⟨?_, fun y => by simp⟩
        rw [List.pairwise_append]
        refine ⟨h, by simp, fun a ha b hb => ?_⟩
        rw [List.mem_singleton] at hb
        subst hb
        have hab := hle a ha b (by simp)
        rcases Int.lt_or_eq_of_le hab with h1 | h1
        · exact h1
        · exfalso
          subst h1
          rcases List.eq_nil_or_concat acc with h0 | ⟨M, t, h0⟩
          · rw [h0] at ha; cases ha
          · rw [List.concat_eq_append] at h0
            subst h0
            have ht := hle t (by simp) a (by simp)
            rw [List.pairwise_append] at h
            rw [List.mem_append, List.mem_singleton] at ha
            rcases ha with ha | ha
            · have := h.2.2 a ha t (by simp)
              omega
            · subst ha
              simp at hl
    obtain ⟨g1, g2⟩ := fold_cpt X (cptF acc x) hc.1 (fun a ha y hy => by
      rcases (hc.2 a).1 ha with h1 | h1
      · exact hle a h1 y (by simp [hy])
      · rw [h1]; exact hX.1 y hy) hX.2
    refine ⟨g1, fun y => ?_⟩
    rw [List.foldl_cons, g2, hc.2, List.mem_cons]
    constructor
    · rintro ((h1 | h1) | h1)
      · exact .inl h1
      · exact .inr (.inl h1)
      · exact .inr (.inr h1)
    · rintro (h1 | h1 | h1)
      · exact .inl (.inl h1)
      · exact .inl (.inr h1)
      · exact .inr h1
theorem cpt_sorted (X : List Int) : (cpt (sortI X)).Pairwise (· < ·) ∧ ∀ y, y ∈ cpt (sortI X) ↔ y ∈ X := by
  have hs : (sortI X).Pairwise (· ≤ ·) := by
    have h := List.pairwise_mergeSort (le := fun x y : Int => decide (x ≤ y)) (by intro a b c h1 h2; simp only [decide_eq_true_eq] at *; omega) (by intro a b; simp only [Bool.or_eq_true, decide_eq_true_eq]; omega) X
    exact Canon.pairs_less (fun a b h => by simpa using h) h
  obtain ⟨h1, h2⟩ := fold_cpt (sortI X) [] (by simp) (by simp) hs
  refine ⟨h1, fun y => ?_⟩
  rw [cpt, h2]
  simp [sortI, List.mem_mergeSort]
/-! ### rows -/
theorem own_take {w : World} {base g cap : Nat} {e : TypeId} {size n k : Nat} {xs : List Value} (h : w.ownsRow base e size (.slice (some ⟨g, 0, none⟩) n cap) n xs) (hk : k ≤ n) :
    w.ownsRow base e size (.slice (some ⟨g, 0, none⟩) k cap) k (xs.take (k * size)) := by
  have hks : k * size ≤ n * size := Nat.mul_le_mul_right _ hk
  refine ⟨by rw [List.length_take, h.1]; omega, ?_⟩
  rcases h.2 with ⟨h1, _⟩ | ⟨g', cap', cur, hv, hg, hh, hnc, hcm, hcs, htk⟩
  · cases h1
  · injection hv with e1 e2 e3
    injection e1 with e1
    injection e1 with e1
    subst e1 e3
    refine .inr ⟨g, cap, cur, rfl, hg, hh, by omega, hcm, hcs, ?_⟩
    rw [← htk, List.take_take]
    congr 1
    omega
theorem own_setCells {base g cap : Nat} {e : TypeId} {n : Nat} : ∀ (vs : List Value) (o : Nat) (w : World) (xs : List Value), w.ownsRow base e 1 (.slice (some ⟨g, 0, none⟩) n cap) n xs → o + vs.length ≤ n →
    ∃ ys, (w.setCells g o vs).ownsRow base e 1 (.slice (some ⟨g, 0, none⟩) n cap) n ys ∧ ys.take o = xs.take o
  | [], o, w, xs, h, _ => ⟨xs, h, rfl⟩
  | v :: vs, o, w, xs, h, ho => by
    simp only [List.length_cons] at ho
    obtain ⟨ys, h1, h2⟩ := own_setCells vs (o + 1) (w.setCell ⟨g, o, none⟩ v) (xs.set o v) (own_set h o v (by omega)) (by omega)
    refine ⟨ys, h1, ?_⟩
    have h3 := congrArg (List.take o) h2
    rw [List.take_take, List.take_take, show min o (o + 1) = o by omega] at h3
    rw [h3, List.take_set_of_le (Nat.le_refl _)]
theorem bl_setCells {base g : Nat} {w0 : World} (hg : base ≤ g) : ∀ (vs : List Value) (o : Nat) (w : World), Below base w0 w → Below base w0 (w.setCells g o vs)
  | [], _, _, h => h
  | v :: vs, o, w, h => bl_setCells hg vs (o + 1) _ (h.setCell (p := ⟨g, o, none⟩) hg v)
theorem ivs_take (X : List Int) (k : Nat) : (ivs X).take k = ivs (X.take k) := by simp [ivs, List.map_take]
theorem ivs_set (X : List Int) (k : Nat) (u : Int) : (ivs X).set k (.int .i64 u) = ivs (X.set k u) := by simp [ivs, List.map_set]
theorem ge_set_ne (X : List Int) (k j : Nat) (u : Int) (h : ¬ k = j) : ge (X.set k u) j = ge X j := by simp [ge, List.getElem?_set, h]
theorem Tryz.zeroInt : ∀ w, (zeroValue 3).run Tryz.prog w = .ok (.int .i64 0) w := fun w => by go_simp
end Go.Proofs.YtleigbbgilcckaaGreat
namespace Go.Proofs.YtleigbbgilcckaaGreat
open Go.RowKit
theorem takeY (Y : List Int) (k : Nat) (a : Int) (hk : k < Y.length) : (Y.set k a).take (k + 1) = Y.take k ++ [a] := by
  rw [takeI _ k (by simpa using hk), List.take_set_of_le (Nat.le_refl _)]
  simp [ge, hk]
set_option maxHeartbeats 2000000 in
set_option maxRecDepth 100000 in
theorem Compact_any (base : Nat) (v : Value) (X : List Int) (w : World) (h : w.ownsRow base 3 1 v X.length (ivs X)) (hn : X.length ≤ 1000000) :
    Calls Tryz.prog 136 #[v] w fun e w' => ∃ v', e = .returned v' ∧ w'.ownsRow base 3 1 v' (cpt X).length (ivs (cpt X)) ∧ Below base w w' := by
  by_cases hs : X.length < 2
  · have hC := Lib.hid (cpt_few X hs)
    have HO := Lib.hid h
    obtain ⟨A, c, rfl, -⟩ := own_form h
    clear h
    generalize hXn : X.length = n at HO hn hs
    have HX := Lib.hid hXn
    clear hXn
    go_enter Tryz.func136, Tryz.ntmps136
    go_wp2
    go_ret
    exact ⟨_, rfl, by rw [hC.out, HX.out]; exact HO.out, Below.refl _ _⟩
  · obtain ⟨g, cap, rfl, hg, hlt⟩ := h.form (by omega)
    obtain ⟨n, hXn⟩ : ∃ n, n = X.length := ⟨_, rfl⟩
    rw [← hXn] at h hn hs ⊢
    obtain ⟨_, _, e, _, hnc, hcm⟩ := own_form h
    cases e
    have HX := Lib.hid hXn
    have HO := Lib.hid h
    have HG := Lib.hid hg
    unfold maxLen at hcm
    clear h hXn hg
    go_enter Tryz.func136, Tryz.ntmps136
    go_wp2
    go_loopw [3] (fun i wr => ∃ k j q : Nat, k = j + 1 ∧ k ≤ n ∧ i = .int .i64 k ∧ wr = w.drewN q ∧ cpt (X.take k) = X.take k) (fun i _ => n - (intOf i).toNat)
    case atStart => exact ⟨1, 0, 0, rfl, by omega, rfl, rfl, cpt_one X (by rw [← HX.out]; omega)⟩
    case round =>
      obtain ⟨k, j, q, hkj, hk, rfl, rfl, hcp⟩ := hrel
      by_cases hlt2 : k < n
      · have hj : j < n := by omega
        obtain ⟨y1, -⟩ := own_cell HO.out k _ (ivs_at X k (by rw [← HX.out]; omega))
        obtain ⟨y2, -⟩ := own_cell HO.out j _ (ivs_at X j (by rw [← HX.out]; omega))
        have SJ : Hid (IntKind.i64.wrap ((k : Int) - 1) = (j : Int)) := Lib.hid ((IntWalk.i64_in _ (by omega)).trans (by omega))
        have c1 : Hid (ge X k = ge X j → cpt (X.take (k + 1)) = X.take k) := Lib.hid (by rw [← hcp]; subst hkj; exact cpt_same X j (by rw [← HX.out]; omega))
        have c2 : Hid (¬ ge X k = ge X j → cpt (X.take (k + 1)) = X.take (k + 1)) := Lib.hid (fun hne => by rw [takeI X k (by rw [← HX.out]; omega), ← takeI X k (by rw [← HX.out]; omega)]; have h2 : cpt (X.take (k + 1)) = cpt (X.take k) ++ [ge X k] := (by subst hkj; exact cpt_new X j (by rw [← HX.out]; omega) hne); rw [h2, hcp, takeI X k (by rw [← HX.out]; omega)])
        have HKJ := Lib.hid hkj
        clear hkj hcp
        generalize hxk : ge X k = xk at y1 c1 c2
        generalize ge X j = xj at y2 c1 c2
        clear hxk
        go_upto_region 6 with (fail)
        have sj := SJ.out
        by_cases he : xk = xj
        · have hC1 := Lib.hid (c1.out he)
          subst he
          clear c1 c2
          go_quiet (fail)
          clear sj y1 y2
          go_wp2
          go_loopw [3, 5] (fun i3 i5 wr => ∃ (kk k2 p : Nat) (Y : List Int), k2 = p + 1 ∧ k + k2 ≤ n ∧ i3 = .int .i64 kk ∧ i5 = .int .i64 k2 ∧ kk < k + k2 ∧ Y.length = n ∧ Y.take kk = cpt (X.take (k + k2)) ∧ (∀ t, k + p ≤ t → ge Y t = ge X t) ∧ wr.ownsRow base 3 1 (.slice (some ⟨g, 0, none⟩) n cap) n (ivs Y) ∧ Below base w wr) (fun _ i5 _ => n - (intOf i5).toNat)
          case atStart => exact ⟨k, 1, 0, X, rfl, by omega, rfl, rfl, by omega, HX.out.symm, hC1.out.symm, fun _ _ => rfl, own_bl HO.out (bl_drewN (Below.refl _ _) _) (Nat.le_refl _), bl_drewN (Below.refl _ _) _⟩
          case round =>
            obtain ⟨kk, k2, p, Y, hkp, hle, rfl, rfl, hkk, hYl, hYt, hYx, hown, hbr⟩ := hrel
            have hg2 := HG.out
            by_cases hlt3 : k2 < n - k
            · have e1 := hYx (k + k2) (by omega)
              have e2 := hYx (k + p) (by omega)
              obtain ⟨z1, -⟩ := own_cell hown (k + k2) _ (ivs_at Y (k + k2) (by omega))
              obtain ⟨z2, -⟩ := own_cell hown (k + p) _ (ivs_at Y (k + p) (by omega))
              obtain ⟨z3, z4⟩ := own_cell hown kk _ (ivs_at Y kk (by omega))
              rw [e1] at z1
              rw [e2] at z2
              have SP : Hid (IntKind.i64.wrap ((k2 : Int) - 1) = (p : Int)) := Lib.hid ((IntWalk.i64_in _ (by omega)).trans (by omega))
              have hp2 : p < n - k := by omega
              have d1 : Hid (ge X (k + k2) = ge X (k + p) → cpt (X.take (k + (k2 + 1))) = cpt (X.take (k + k2))) := Lib.hid (by subst hkp; exact cpt_same X (k + p) (by rw [← HX.out]; omega))
              have d2 : Hid (¬ ge X (k + k2) = ge X (k + p) → cpt (X.take (k + (k2 + 1))) = cpt (X.take (k + k2)) ++ [ge X (k + k2)]) := Lib.hid (by subst hkp; exact cpt_new X (k + p) (by rw [← HX.out]; omega))
              have HKP := Lib.hid hkp
              have hkkn : kk < n := by omega
              clear hkp e1 e2
              generalize ge X (k + k2) = a at z1 d1 d2
              generalize ge X (k + p) = b at z2 d1 d2
              have HYX := Lib.hid hYx
              have HYT := Lib.hid hYt
              clear hYx hYt
              go_upto_region 11 with (fail)
              have sp := SP.out
              by_cases he : a = b
              · have hd := Lib.hid (d1.out he)
                subst he
                clear d1 d2 z3 z4
                go_quiet (fail)
                clear sp z1 z2
                go_wp2
                go_roundw
                case rel => exact ⟨kk, k2 + 1, p + 1, Y, by have := HKP.out; omega, by omega, rfl, by go_num, by omega, hYl, by rw [hd.out]; exact HYT.out, fun t ht => HYX.out t (by omega), own_bl hown (bl_drewN (Below.refl _ _) _) (Nat.le_refl _), bl_drewN hbr _⟩
                case measure => simp [intOf]; omega
              · have hd := Lib.hid (d2.out he)
                have hbne : (a != b) = true := by simp [he]
                clear d1 d2 he
                go_quiet (fail)
                clear sp
                go_wp2
                go_roundw
                case rel => exact ⟨kk + 1, k2 + 1, p + 1, Y.set kk a, by have := HKP.out; omega, by omega, by go_num, by go_num, by omega, by simpa using hYl, by rw [takeY Y kk a (by omega), HYT.out, hd.out], fun t ht => by rw [ge_set_ne _ _ _ _ (by have := HKP.out; omega)]; exact HYX.out t (by omega), by rw [← ivs_set]; exact own_set (own_bl hown (bl_drewN (Below.refl _ _) _) (Nat.le_refl _)) kk _ (by omega), (bl_drewN hbr _).setCell (p := ⟨g, kk, none⟩) hg2 _⟩
                case measure => simp [intOf]; omega
            · have hm : k + k2 = n := by omega
              have hcl : ∀ (ty : TypeId) (c : Nat), (Builtin.clear_ #[144] ty #[.slice (some ⟨g, kk, none⟩) (n - kk) c]).run Tryz.prog wr = .ok (.tuple #[]) (wr.setCells g kk (List.replicate (n - kk) (.int .i64 0))) := fun ty c =>
                Go.Lib.run_clear_slice wr 144 3 ty (.int .i64 0) Tryz.underlying144 Tryz.zeroInt rfl rfl g kk (n - kk) c (by omega)
                  (fun t ht => by rw [(own_cell hown (kk + t) _ (ivs_at Y (kk + t) (by omega))).1]; rfl) (fun t ht => (own_cell hown (kk + t) _ (ivs_at Y (kk + t) (by omega))).2)
              have HYT := Lib.hid hYt
              obtain ⟨ys, o1, o2⟩ := own_setCells (List.replicate (n - kk) (.int .i64 0)) kk wr (ivs Y) hown (by simp; omega)
              have o3 := own_take o1 (k := kk) (by omega)
              rw [Nat.mul_one, o2, ivs_take, hYt, hm, List.take_of_length_le (by rw [← HX.out]; omega)] at o3
              have hb3 := bl_setCells hg2 (List.replicate (n - kk) (.int .i64 0)) kk wr hbr
              have hkl : kk = (cpt X).length := by
                have := congrArg List.length HYT.out
                rw [List.length_take, hm, List.take_of_length_le (l := X) (by rw [← HX.out]; omega)] at this
                omega
              have hkkn : kk ≤ n := by omega
              have HK := Lib.hid hkl
              have O3 := Lib.hid o3
              clear hYx hYt hown hkl o1 o2 o3
              go_wp2
              go_ret
              exact ⟨_, rfl, by rw [← HK.out]; exact O3.out, hb3⟩
        · have hC2 := Lib.hid (c2.out he)
          have hbne : (xk == xj) = false := by simp [he]
          clear c1 c2 he
          go_quiet (fail)
          clear sj
          go_wp2
          go_roundw
          case rel => exact ⟨k + 1, k, q + nq, rfl, by omega, by go_num, rfl, hC2.out⟩
          case measure => simp [intOf]; omega
      · have hkn : k = n := by omega
        have hX : X.take k = X := List.take_of_length_le (by rw [← HX.out]; omega)
        rw [hX] at hcp
        have HCP := Lib.hid hcp
        clear hcp hX hkj hkn
        go_wp2
        go_ret
        exact ⟨_, rfl, by rw [HCP.out, ← HX.out]; exact own_bl HO.out (bl_drewN (Below.refl _ _) _) (Nat.le_refl _), bl_drewN (Below.refl _ _) _⟩
end Go.Proofs.YtleigbbgilcckaaGreat
namespace Go.Proofs.YtleigbbgilcckaaGreat
open Go.RowKit
theorem rule_or (x y : Bool) (w : World) : Calls Tryz.prog 67 #[.bool x, .bool y] w fun e w' => e = .returned (.bool (x || y)) ∧ w' = w := by
  cases x with
  | true =>
    go_enter Tryz.func67, Tryz.ntmps67
    go_wp2
    go_ret
    exact ⟨rfl, rfl⟩
  | false =>
    go_enter Tryz.func67, Tryz.ntmps67
    go_wp2
    go_ret
    exact ⟨rfl, rfl⟩
theorem sreads_tail {w : World} {B b off m : Nat} {s : Sp} {r : List Sp} (h : Reads w B 2 (some ⟨b, off, none⟩) (m + 1) (spvs (s :: r))) : Reads w B 2 (some ⟨b, off + 2, none⟩) m (spvs r) := by
  have e : spvs (s :: r) = .int .i64 s.1 :: .int .i64 s.2 :: spvs r := rfl
  obtain ⟨h1, h2⟩ := h
  rw [e] at h1 h2
  refine ⟨by simp only [List.length_cons] at h1; omega, fun _ => ?_⟩
  obtain ⟨ad, ea, hb, hc⟩ := h2 (by omega)
  cases ea
  refine ⟨_, rfl, hb, fun j u hu => ?_⟩
  have := hc (j + 2) u (by simpa using hu)
  rw [Go.WideShapes.add_plain] at this ⊢
  rw [show off + 2 + j = off + (j + 2) by omega]
  exact this
theorem grown_set {w w' : World} {g : Nat} (h : w.grownBy w' (some g)) (u : Value) : w.grownBy (w'.setCell ⟨g, 0, none⟩ u) (some g) :=
  ⟨h.os, h.tape, h.output, Nat.le_trans h.size (by simp [World.setCell]), fun i hi hne => (Below.heap_setCell w' ⟨g, 0, none⟩ u i (fun e => hne (by rw [e]))).trans (h.block i hi hne)⟩
theorem dropS_yes {e : Int} {s : Sp} {r : List Sp} (h : s.2 ≤ e) : dropS e (s :: r) = dropS e r := by simp [dropS, h]
theorem dropS_no {e : Int} {s : Sp} {r : List Sp} (h : ¬ s.2 ≤ e) : dropS e (s :: r) = s :: r := by simp [dropS, h]
set_option maxHeartbeats 1000000 in
set_option maxRecDepth 100000 in
theorem hasS_any (g B : Nat) (A : Option Addr) (n ca : Nat) (D : List Sp) (e : Int) (w : World) (hB : Blk w g 89 #[.slice A n ca]) (hr : Reads w B 2 A n (spvs D)) (hBg : B ≤ g) (hn : n ≤ ca) (hca : ca ≤ maxLen) :
    Calls Tryz.prog 137 #[.pointer (some ⟨g, 0, none⟩), .int .i64 e] w fun e' w' => e' = .returned (.bool (hdS e (dropS e D))) ∧ w.grownBy w' (some g) ∧
      ∃ A' n' ca', Blk w' g 89 #[.slice A' n' ca'] ∧ Reads w' B 2 A' n' (spvs (dropS e D)) ∧ n' ≤ ca' ∧ ca' ≤ ca := by
  have HB := Lib.hid hB
  have HR := Lib.hid hr
  unfold maxLen at hca
  clear hB hr
  go_enter Tryz.func137, Tryz.ntmps137
  go_wp2
  go_loopg [] n (fun gg wr => ∃ (A' : Option Addr) (n' ca' : Nat) (F : List Sp), n' ≤ gg ∧ Blk wr g 89 #[.slice A' n' ca'] ∧ Reads wr B 2 A' n' (spvs F) ∧ n' ≤ ca' ∧ ca' ≤ ca ∧ dropS e F = dropS e D ∧ w.grownBy wr (some g))
  case atStart => exact ⟨A, n, ca, D, Nat.le_refl _, HB.out, HR.out, hn, Nat.le_refl _, rfl, World.grownBy.refl _ _⟩
  case round =>
    obtain ⟨A', n', ca', F, hgg, hB', hr', hn', hca', hF, hgw⟩ := hrel
    have x0 : wr.cell? ⟨g, 0, none⟩ = some (.slice A' n' ca') := hB'.cell 0
    have x1 := hB'.frozen 0
    have HF := Lib.hid hF
    have HB' := Lib.hid hB'
    have HR' := Lib.hid hr'
    have HGW := Lib.hid hgw
    have hlF : F.length = n' := by have := hr'.1; rw [spvs_length] at this; omega
    clear hF hB' hgw
    cases F with
    | nil =>
      have h0 : n' = 0 := by simpa using hlF.symm
      subst h0
      clear hr' hlF
      have e1 : Hid (dropS e D = []) := Lib.hid (by rw [← HF.out]; rfl)
      go_wp2
      go_ret
      exact ⟨ret_bool (by rw [e1.out]; rfl), HGW.out, A', 0, ca', HB'.out, by rw [e1.out]; exact HR'.out, hn', hca'⟩
    | cons s r =>
      obtain ⟨m, rfl, hrm⟩ : ∃ m, n' = m + 1 ∧ r.length = m := ⟨r.length, by simpa using hlF.symm, rfl⟩
      have HRM := Lib.hid hrm
      clear hrm
      obtain ⟨b, off, rfl, hb, y1, y2⟩ := SReads.elem hr' (k := 0) (by omega)
      have e0 : gs (s :: r) 0 = s := rfl
      rw [e0] at y1 y2
      simp only [Nat.zero_mul, Nat.add_zero] at y1 y2
      obtain ⟨sf, st⟩ := s
      simp only [] at y1 y2
      clear e0 hr' hlF
      by_cases hst : st ≤ e
      · have hd := Lib.hid (dropS_yes (e := e) (s := (sf, st)) (r := r) hst)
        by_cases hc1 : ca' = 1
        · have hm0 : m = 0 := by omega
          have hr0 : r = [] := List.eq_nil_of_length_eq_zero (by rw [HRM.out]; exact hm0)
          subst hc1 hm0 hr0
          go_wp2
          go_roundg 0
          case measure => omega
          case rel => exact ⟨_, 0, 0, [], Nat.le_refl _, HB'.out.set_ 0 _, Reads.none_, Nat.le_refl _, by omega, by rw [← hd.out]; exact HF.out, grown_set HGW.out _⟩
        · have hc2 : 1 < ca' := by omega
          have hc3 : ¬ ca' - 1 = 0 := by omega
          clear hc1
          go_wp2
          go_roundg m
          case measure => omega
          case rel => exact ⟨_, m, ca' - 1, r, Nat.le_refl _, HB'.out.set_ 0 _, (sreads_tail HR'.out).setCell hBg _, by omega, by omega, by rw [← hd.out]; exact HF.out, grown_set HGW.out _⟩
      · have hd : Hid (dropS e D = (sf, st) :: r) := Lib.hid (by rw [← HF.out]; exact dropS_no hst)
        go_wp2
        go_ret
        exact ⟨ret_bool (by rw [hd.out]; rfl), HGW.out, _, _, _, HB'.out, by rw [hd.out]; exact HR'.out, hn', hca'⟩
end Go.Proofs.YtleigbbgilcckaaGreat
