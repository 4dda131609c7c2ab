/- Contracts of Go's library at this seat's numbers, laid by the kit's tools. -/
import Derived.Test.YthfndnmfnijpeaaGreatProg
import Derived.Shelf.Lay
import Derived.Shelf.LaySoft
import Derived.Shelf.Spec.BitsCarry
import Derived.Ground.Names7Prog
import Derived.Shelf.Bits.Mul64
import Derived.Ground.NamesProg
import Derived.Shelf.Small.Bits
import Derived.Test.YthfndnmfnijpeaaGreatHLy
import Derived.Test.YthfndnmfnijpeaaGreatHRin
set_option linter.unusedVariables false
set_option linter.unusedSimpArgs false
namespace Go.Proofs.YthfndnmfnijpeaaGreat
open Go.RowKit Go.Shelf
open LB (Bs Rec)
def AdI (w2 : World) (l g : Nat) (bk v : Value) (n base : Nat) (xs : List Value) (cs : Array Value) (a : Act) (M : Nat → Bool) (a' : Act) (w' : World) : Prop :=
  ∃ (v99 v100 v101 v102 v103 v104 v105 v106 v107 v108 v109 : Value), a' = (((((((((((a.put (some 99) v99).put (some 100) v100).put (some 101) v101).put (some 102) v102).put (some 103) v103).put (some 104) v104).put (some 105) v105).put (some 106) v106).put (some 107) v107).put (some 108) v108).put (some 109) v109) ∧ AdK l v w2 w' ∧
    Blk w' g 33 cs ∧
    (M 11 = false → Blk w' l 102 #[bk, .int .i64 0, .slice none 0 0, v]) ∧
    (M 11 = true → Blk w' l 102 #[bk, .int .i64 0, .slice none 0 0, v107]) ∧
    (M 8 = false → w'.ownsRow base 33 24 v n xs) ∧
    (M 8 = true → w'.ownsRow base 33 24 v107 (n + 1) (xs ++ cs.toList)) ∧
    (M 7 = true → M 8 = false → ∃ b, v106 = .slice (some ⟨b, 0, none⟩) 1 1 ∧ b < w'.heap.size ∧ some b ≠ v.ownBlock ∧ RecAt w' b 0 cs) ∧
    (M 8 = true → M 7 = true ∧ M 4 = true) ∧
    (M 11 = true → M 8 = true) ∧
    (M 7 = true → M 6 = true) ∧
    (M 0 = true → v99 = .pointer (some ⟨l, 0, none⟩)) ∧ (M 1 = true → v100 = .pointer (some ⟨l, 0, none⟩)) ∧ (M 2 = true → v101 = .pointer (some ⟨l, 0, none⟩)) ∧ (M 3 = true → v102 = .pointer (some ⟨l, 3, none⟩)) ∧ (M 4 = true → v103 = v) ∧ (M 5 = true → v104 = .agg cs) ∧ (M 6 = true → v105 = .agg cs) ∧ (M 9 = true → v108 = .pointer (some ⟨l, 0, none⟩)) ∧ (M 10 = true → v109 = .pointer (some ⟨l, 3, none⟩))
theorem AdI.start {w2 : World} {l g : Nat} {bk v : Value} {n base : Nat} {xs : List Value} {cs : Array Value} (a : Act) (hG : Blk w2 g 33 cs) (hL : Blk w2 l 102 #[bk, .int .i64 0, .slice none 0 0, v]) (hO : w2.ownsRow base 33 24 v n xs) : AdI w2 l g bk v n base xs cs a (fun _ => false) a w2.drew :=
  ⟨_, _, _, _, _, _, _, _, _, _, _, by rw [putQ_self a 99, putQ_self a 100, putQ_self a 101, putQ_self a 102, putQ_self a 103, putQ_self a 104, putQ_self a 105, putQ_self a 106, putQ_self a 107, putQ_self a 108, putQ_self a 109], (AdK.refl l v w2).bl (bl_drew (Below.refl _ _)), hG.drew, fun _ => hL.drew, nofun, fun _ => own_bl hO (bl_drew (Below.refl _ _)) (Nat.le_refl _), nofun, nofun, nofun, nofun, nofun, nofun, nofun, nofun, nofun, nofun, nofun, nofun, nofun, nofun⟩
/-- what Add leaves of a log of n records -/
def AdP (l base : Nat) (bk v : Value) (n : Nat) (xs : List Value) (cs : Array Value) (w : World) (e : Ending) (w' : World) : Prop :=
  e = .returned (.int .i64 0) ∧ AdK l v w w' ∧ ∃ v', Blk w' l 102 #[bk, .int .i64 0, .slice none 0 0, v'] ∧ w'.ownsRow base 33 24 v' (n + 1) (xs ++ cs.toList)
set_option maxHeartbeats 8000000 in
set_option maxRecDepth 100000 in
theorem add0_any (l base : Nat) (bk : Value) (r : Rec) (w : World) (hbase : base ≤ w.heap.size) (hv : vaB r = true) (hli : r.list = []) (hbo : r.body.length ≤ 100000) (hte : r.text.length ≤ 100000) (h3 : r.kind ≠ 3) (h4 : r.kind ≠ 4) (hL0 : Blk w l 102 #[bk, .int .i64 0, .slice none 0 0, .slice none 0 0]) :
    Calls Tryz.prog 13 #[.pointer (some ⟨l, 0, none⟩), recV r (.slice none 0 0)] w (AdP l base bk (.slice none 0 0) 0 [] (recC r (.slice none 0 0)) w) := by
  have KV := Lib.hid (fun W => valid_any r none 0 0 W (.inl hli) (by simp [hli]) (by omega) (Nat.le_refl _) (by simp [maxLen]) hbo hte)
  rw [hv] at KV
  have KC := Lib.hid (fun W => copied_nil r W)
  have d3 : (r.kind == 3) = false := by simpa using h3
  have d4 : (r.kind == 4) = false := by simpa using h4
  clear hv hli hbo hte h3 h4
  have hlt := hL0.lt
  have B1 := Lib.hid (bl_alloc w (.cells (recC r (.slice none 0 0)) 33))
  have G1 := Lib.hid (Blk.new w 33 (recC r (.slice none 0 0)))
  have L1 := Lib.hid (hL0.alloc (.cells (recC r (.slice none 0 0)) 33))
  clear hL0
  obtain ⟨cs, hcs⟩ : ∃ cs, (recC r (.slice none 0 0)) = cs := ⟨_, rfl⟩
  have hsz : cs.size = 24 := by rw [← hcs]; rfl
  have k0 : cs[0]? = some (.int .i64 r.kind) := by rw [← hcs]; rfl
  have hone : ∀ u ∈ cs.toList, u.oneCell' = true := by rw [← hcs]; simp [txb, Value.oneCell']
  have hrv : recV r (.slice none 0 0) = .agg cs := by rw [← hcs]
  have HRV := Lib.hid hrv
  have HCS := Lib.hid hcs
  rw [hcs] at B1 G1 L1 ⊢
  rw [hrv] at KV KC ⊢
  clear hcs hrv
  go_enter Tryz.func13, Tryz.ntmps13
  go_upto_region 1 with fail
  generalize w.alloc (.cells cs 33) = wa at *
  have hgl : w.heap.size ≠ l := by omega
  repeat ((fail_if_success (refine wp_load_rec (.tmp 3) rfl rfl G1.out hsz ?_)); (first | go_values | go_skip | go_guarded | go_step))
  refine wp_load_rec (.tmp 3) rfl rfl G1.out hsz ?_
  simp only [Act.put, List.setIfInBounds_toArray, List.set_cons_zero, List.set_cons_succ]
  go_upto_region 3 with (go_at_call 9; (with_reducible refine (KV.out _).mono ?_); rintro e wb ⟨rfl, hb⟩; have B2 := Lib.hid (B1.out.trans (hb.mono B1.out.size)); have G2 := Lib.hid (G1.out.below hb G1.out.lt); have L2 := Lib.hid (L1.out.below hb L1.out.lt))
  clear hb B1 G1 L1 KV
  have y3 : wb.cell? ⟨l, 3, none⟩ = some (.slice none 0 0) := L2.out.cell 3
  have y0 : wb.cell? ⟨w.heap.size, 0, none⟩ = some (.int .i64 r.kind) := (G2.out.cell 0).trans k0
  go_upto_region 5 with fail
  go_quiet (fail)
  go_upto_region 18 with fail
  clear y0 y3 d3 d4
  have G3 := Lib.hid (G2.out.drewN nq)
  have L3 := Lib.hid (L2.out.drewN nq)
  have B3 := Lib.hid (bl_drewN B2.out nq)
  have O3 := Lib.hid (own_nil (wb.drewN nq) base 33 24)
  clear G2 L2 B2
  generalize wb.drewN nq = w2 at *
  have hbase2 : base ≤ w2.heap.size := by have := B3.out.size; omega
  obtain ⟨iR, zR, hiR, hzR, hsR, hszR, hbR⟩ := rec_parts
  have hgv : some w.heap.size ≠ (.slice none 0 0 : Value).ownBlock := by simp [Value.ownBlock]
  refine wp_region_inv3 (by kernel_rfl) (AdI w2 l w.heap.size bk (.slice none 0 0) 0 base [] cs) (waits_bind (by kernel_rfl)) ?start ?step ?fin
  case start => exact AdI.start _ G3.out L3.out O3.out
  case step =>
    clear G3 L3 O3
    rintro M i o a1' w' ho hL haf ⟨v99, v100, v101, v102, v103, v104, v105, v106, v107, v108, v109, rfl, hK, hG, hB, hN, hO, hP, hR, hU, hX, hW, e0, e1, e2, e3, e4, e5, e6, e9, e10⟩
    have HK := Lib.hid hK
    have HG := Lib.hid hG
    have HB := Lib.hid hB
    have HN := Lib.hid hN
    have HO := Lib.hid hO
    have HP := Lib.hid hP
    have HR := Lib.hid hR
    have HU := Lib.hid hU
    have HX := Lib.hid hX
    have HW := Lib.hid hW
    have E0 := Lib.hid e0
    have E1 := Lib.hid e1
    have E2 := Lib.hid e2
    have E3 := Lib.hid e3
    have E4 := Lib.hid e4
    have E5 := Lib.hid e5
    have E6 := Lib.hid e6
    have E9 := Lib.hid e9
    have E10 := Lib.hid e10
    clear hK hG hB hN hO hP hR hU hX hW e0 e1 e2 e3 e4 e5 e6 e9 e10
    rcases i with _ | _ | _ | _ | _ | _ | _ | _ | _ | _ | _ | _ | i
    all_goals (simp at ho; try subst ho)
    all_goals (try simp [Region.binds] at haf)
    · go_wp2
      unfold AdI
      exact ⟨(.pointer (some ⟨l, 0, none⟩)), v100, v101, v102, v103, v104, v105, v106, v107, v108, v109, pu_, HK.out, HG.out, kn HB, kp HN, kn HO, kp HP, km HR, fun h => (by have q := HU.out (by simpa [mkd] using h); simp [mkd, q]), fun h => (by have q := HX.out (by simpa [mkd] using h); simp [mkd, q]), fun h => (by have q := HW.out (by simpa [mkd] using h); simp [mkd, q]), fun _ => rfl, kq E1, kq E2, kq E3, kq E4, kq E5, kq E6, kq E9, kq E10⟩
    · go_wp2
      unfold AdI
      exact ⟨v99, (.pointer (some ⟨l, 0, none⟩)), v101, v102, v103, v104, v105, v106, v107, v108, v109, pu_, HK.out, HG.out, kn HB, kp HN, kn HO, kp HP, km HR, fun h => (by have q := HU.out (by simpa [mkd] using h); simp [mkd, q]), fun h => (by have q := HX.out (by simpa [mkd] using h); simp [mkd, q]), fun h => (by have q := HW.out (by simpa [mkd] using h); simp [mkd, q]), kq E0, fun _ => rfl, kq E2, kq E3, kq E4, kq E5, kq E6, kq E9, kq E10⟩
    · obtain rfl := (E1.out (by simp [haf])).symm
      go_wp2
      unfold AdI
      exact ⟨v99, (.pointer (some ⟨l, 0, none⟩)), (.pointer (some ⟨l, 0, none⟩)), v102, v103, v104, v105, v106, v107, v108, v109, pu_, HK.out, HG.out, kn HB, kp HN, kn HO, kp HP, km HR, fun h => (by have q := HU.out (by simpa [mkd] using h); simp [mkd, q]), fun h => (by have q := HX.out (by simpa [mkd] using h); simp [mkd, q]), fun h => (by have q := HW.out (by simpa [mkd] using h); simp [mkd, q]), kq E0, fun _ => rfl, fun _ => rfl, kq E3, kq E4, kq E5, kq E6, kq E9, kq E10⟩
    · obtain rfl := (E2.out (by simp [haf])).symm
      go_wp2
      unfold AdI
      exact ⟨v99, v100, (.pointer (some ⟨l, 0, none⟩)), (.pointer (some ⟨l, 3, none⟩)), v103, v104, v105, v106, v107, v108, v109, pu_, HK.out, HG.out, kn HB, kp HN, kn HO, kp HP, km HR, fun h => (by have q := HU.out (by simpa [mkd] using h); simp [mkd, q]), fun h => (by have q := HX.out (by simpa [mkd] using h); simp [mkd, q]), fun h => (by have q := HW.out (by simpa [mkd] using h); simp [mkd, q]), kq E0, kq E1, fun _ => rfl, fun _ => rfl, kq E4, kq E5, kq E6, kq E9, kq E10⟩
    · obtain rfl := (E3.out (by simp [haf])).symm
      have n8 : M 8 = false := by cases h8 : M 8 with | false => rfl | true => exact absurd (HU.out h8).2 (by simp [hL])
      have n11 : M 11 = false := by cases h8 : M 11 with | false => rfl | true => exact absurd (HX.out h8) (by simp [n8])
      have y0 := (HB.out n11).cell 3
      simp only [List.getElem?_toArray, List.getElem?_cons_succ, List.getElem?_cons_zero] at y0
      go_wp2
      unfold AdI
      exact ⟨v99, v100, v101, (.pointer (some ⟨l, 3, none⟩)), (.slice none 0 0), v104, v105, v106, v107, v108, v109, pu_, HK.out, HG.out, kn HB, kp HN, kn HO, kp HP, km HR, fun h => (by have q := HU.out (by simpa [mkd] using h); simp [mkd, q]), fun h => (by have q := HX.out (by simpa [mkd] using h); simp [mkd, q]), fun h => (by have q := HW.out (by simpa [mkd] using h); simp [mkd, q]), kq E0, kq E1, kq E2, fun _ => rfl, fun _ => rfl, kq E5, kq E6, kq E9, kq E10⟩
    · simp only [Act.put, List.setIfInBounds_toArray, List.set_cons_zero, List.set_cons_succ]
      refine wpList_load_recAt rfl (.tmp 3) rfl w.heap.size 0 rfl (fun j _ => by rw [Nat.zero_add]; exact HG.out.cell j) hsz ?_
      go_wp2
      unfold AdI
      exact ⟨v99, v100, v101, v102, v103, (.agg cs), v105, v106, v107, v108, v109, pu_, HK.out, HG.out, kn HB, kp HN, kn HO, kp HP, km HR, fun h => (by have q := HU.out (by simpa [mkd] using h); simp [mkd, q]), fun h => (by have q := HX.out (by simpa [mkd] using h); simp [mkd, q]), fun h => (by have q := HW.out (by simpa [mkd] using h); simp [mkd, q]), kq E0, kq E1, kq E2, kq E3, kq E4, fun _ => rfl, kq E6, kq E9, kq E10⟩
    · obtain rfl := (E5.out (by simp [haf])).symm
      have n7 : M 7 = false := by cases h8 : M 7 with | false => rfl | true => exact absurd (HW.out h8) (by simp [hL])
      have n8 : M 8 = false := by cases h8 : M 8 with | false => rfl | true => exact absurd (HU.out h8).1 (by simp [n7])
      have n11 : M 11 = false := by cases h8 : M 11 with | false => rfl | true => exact absurd (HX.out h8) (by simp [n8])
      go_wp2_with fail
      (with_reducible refine (KC.out _).mono ?_)
      rintro e9 w9 ⟨rfl, hb9⟩
      go_wp2
      unfold AdI
      exact ⟨v99, v100, v101, v102, v103, (.agg cs), (.agg cs), v106, v107, v108, v109, pu_, HK.out.bl hb9, HG.out.below hb9 HG.out.lt, fun _ => (HB.out n11).below hb9 (HB.out n11).lt, fun h => absurd h (by simp [mkd, n11]), fun _ => own_bl (HO.out n8) hb9 (Nat.le_refl _), fun h => absurd h (by simp [mkd, n8]), fun h => absurd h (by simp [mkd, n7]), fun h => absurd h (by simp [mkd, n8]), fun h => absurd h (by simp [mkd, n11]), fun h => absurd h (by simp [mkd, n7]), kq E0, kq E1, kq E2, kq E3, kq E4, fun _ => rfl, fun _ => rfl, kq E9, kq E10⟩
    · obtain rfl := (E6.out (by simp [haf])).symm
      have n8 : M 8 = false := by cases h8 : M 8 with | false => rfl | true => exact absurd (HU.out h8).1 (by simp [hL])
      have n11 : M 11 = false := by cases h8 : M 11 with | false => rfl | true => exact absurd (HX.out h8) (by simp [n8])
      have m6 : M 6 = true := by simp [haf]
      simp only [Act.put, List.setIfInBounds_toArray, List.set_cons_zero, List.set_cons_succ]
      refine wpList_build_rec rfl (.tmp 105) rfl r (.slice none 0 0) HRV.out.symm ?_
      rw [HCS.out]
      go_wp2
      unfold AdI
      exact ⟨v99, v100, v101, v102, v103, v104, (.agg cs), (.slice (some ⟨w'.heap.size, 0, none⟩) 1 1), v107, v108, v109, pu_, HK.out.bl (bl_alloc _ _), HG.out.alloc _, fun _ => (HB.out n11).alloc _, fun h => absurd h (by simp [mkd, n11]), fun _ => own_bl (HO.out n8) (bl_alloc _ _) (Nat.le_refl _), fun h => absurd h (by simp [mkd, n8]), fun _ _ => ⟨_, rfl, by simp, fun e => absurd (own_lt (HO.out n8) e) (by omega), RecAt.new _ _ _⟩, fun h => absurd h (by simp [mkd, n8]), fun h => absurd h (by simp [mkd, n11]), fun _ => by simp [mkd, m6], kq E0, kq E1, kq E2, kq E3, kq E4, kq E5, fun _ => rfl, kq E9, kq E10⟩
    · obtain rfl := (E4.out (by simp [haf])).symm
      have n11 : M 11 = false := by cases h8 : M 11 with | false => rfl | true => exact absurd (HX.out h8) (by simp [hL])
      have m7 : M 7 = true := by simp [haf]
      obtain ⟨b7, rfl, hb7, hbv, hR⟩ := HR.out m7 hL
      have hO := HO.out hL
      have hz9 := HK.out.size
      simp only [Act.put, List.setIfInBounds_toArray, List.set_cons_zero, List.set_cons_succ]
      refine wpList_append_own_at _ rfl (.tmp 103) (.tmp 106) _ rfl base 33 iR zR 24 iR.bytes Tryz.underlying57 hiR hzR hszR rfl hsR (by decide) (.slice none 0 0) 0 [] rfl hO ⟨b7, 0, none⟩ 1 1 cs.toList rfl (by simp [hsz]) (hR.news hsz) hone (by simp only [maxLen]; omega) (by omega) (by omega) ?_
      intro u9 w9 hown9 hg9 hnil9 hob9
      have hne := own_blk_ne hO (HB.out n11) (by decide)
      go_wp2
      unfold AdI
      exact ⟨v99, v100, v101, v102, (.slice none 0 0), v104, v105, (.slice (some ⟨b7, 0, none⟩) 1 1), u9, v108, v109, pu_, HK.out.gr hg9, HG.out.grown hg9 hgv, fun _ => (HB.out n11).grown hg9 (fun e => hne e.symm), fun h => absurd h (by simp [mkd, n11]), fun h => absurd h (by simp [mkd]), fun _ => hown9, fun _ h => absurd h (by simp [mkd]), fun _ => by simp [mkd, m7, show M 4 = true by simp [haf]], fun h => absurd h (by simp [mkd, n11]), fun h => (by have q := HW.out m7; simp [mkd, q]), kq E0, kq E1, kq E2, kq E3, fun _ => rfl, kq E5, kq E6, kq E9, kq E10⟩
    · obtain rfl := (E0.out (by simp [haf])).symm
      go_wp2
      unfold AdI
      exact ⟨(.pointer (some ⟨l, 0, none⟩)), v100, v101, v102, v103, v104, v105, v106, v107, (.pointer (some ⟨l, 0, none⟩)), v109, pu_, HK.out, HG.out, kn HB, kp HN, kn HO, kp HP, km HR, fun h => (by have q := HU.out (by simpa [mkd] using h); simp [mkd, q]), fun h => (by have q := HX.out (by simpa [mkd] using h); simp [mkd, q]), fun h => (by have q := HW.out (by simpa [mkd] using h); simp [mkd, q]), fun _ => rfl, kq E1, kq E2, kq E3, kq E4, kq E5, kq E6, fun _ => rfl, kq E10⟩
    · obtain rfl := (E9.out (by simp [haf])).symm
      go_wp2
      unfold AdI
      exact ⟨v99, v100, v101, v102, v103, v104, v105, v106, v107, (.pointer (some ⟨l, 0, none⟩)), (.pointer (some ⟨l, 3, none⟩)), pu_, HK.out, HG.out, kn HB, kp HN, kn HO, kp HP, km HR, fun h => (by have q := HU.out (by simpa [mkd] using h); simp [mkd, q]), fun h => (by have q := HX.out (by simpa [mkd] using h); simp [mkd, q]), fun h => (by have q := HW.out (by simpa [mkd] using h); simp [mkd, q]), kq E0, kq E1, kq E2, kq E3, kq E4, kq E5, kq E6, fun _ => rfl, fun _ => rfl⟩
    · obtain rfl := (E10.out (by simp [haf])).symm
      have m8 : M 8 = true := by simp [haf]
      have hP := HP.out m8
      obtain ⟨A3, c3, hu3, -⟩ := own_form hP
      subst hu3
      have hLg := HB.out hL
      have y0 := hLg.cell 3
      have f0 := hLg.frozen 3
      simp only [List.getElem?_toArray, List.getElem?_cons_succ, List.getElem?_cons_zero] at y0
      have hne := own_blk_ne hP hLg (by decide)
      go_wp2
      unfold AdI
      exact ⟨v99, v100, v101, v102, v103, v104, v105, v106, (.slice A3 (0 + 1) c3), v108, (.pointer (some ⟨l, 3, none⟩)), pu_, HK.out.set _ _, HG.out.far (p := ⟨l, 3, none⟩) hgl _, fun h => absurd h (by simp [mkd]), fun _ => hLg.set_ 3 _, fun h => absurd h (by simp [mkd, m8]), fun _ => own_same hP (fun k hk => Below.heap_setCell _ _ _ _ (fun e => hne (by rw [← hk]; exact congrArg some e))), fun _ h => absurd h (by simp [mkd, m8]), fun h => (by have q := HU.out (by simpa [mkd] using h); simp [mkd, q]), fun _ => by simp [mkd, m8], fun h => (by have q := HW.out (by simpa [mkd] using h); simp [mkd, q]), kq E0, kq E1, kq E2, kq E3, kq E4, kq E5, kq E6, kq E9, fun _ => rfl⟩
  case fin =>
    rintro M a1' w' hall ⟨v99, v100, v101, v102, v103, v104, v105, v106, v107, v108, v109, rfl, hK, hG, hB, hN, hO, hP, hR, hU, hX, hW, e0, e1, e2, e3, e4, e5, e6, e9, e10⟩
    have m11 : M 11 = true := hall 11 (by simp)
    have m8 : M 8 = true := hall 8 (by simp)
    replace hN := hN m11
    replace hP := hP m8
    have HN := Lib.hid hN
    have HP := Lib.hid hP
    have HK := Lib.hid hK
    clear hK hG hB hN hO hP hR hU hX hW e0 e1 e2 e3 e4 e5 e6 e9 e10
    simp only [Act.put, List.setIfInBounds_toArray, List.set_cons_zero, List.set_cons_succ]
    go_wp2
    go_ret
    exact ⟨rfl, AdK.pre B3.out HK.out, _, HN.out, HP.out⟩
set_option maxHeartbeats 8000000 in
set_option maxRecDepth 100000 in
theorem add1_any (l base : Nat) (bk : Value) (r : Rec) (w : World) (hbase : base ≤ w.heap.size) (hv : vaB r = true) (hli : r.list = []) (hbo : r.body.length ≤ 100000) (hte : r.text.length ≤ 100000) (h3 : r.kind ≠ 3) (h4 : r.kind ≠ 4) (g0 c0 : Nat) (r0 : Rec) (hL0 : Blk w l 102 #[bk, .int .i64 0, .slice none 0 0, .slice (some ⟨g0, 0, none⟩) 1 c0]) (hO0 : w.ownsRow base 33 24 (.slice (some ⟨g0, 0, none⟩) 1 c0) 1 (recC r0 (.slice none 0 0)).toList) (hR0 : RecAt w g0 0 (recC r0 (.slice none 0 0))) (hg0 : g0 < w.heap.size) (hw : ¬ (if r.kind = 3 then r.sa0 else r.at0) < (if r0.kind = 3 then r0.sa0 else r0.at0)) :
    Calls Tryz.prog 13 #[.pointer (some ⟨l, 0, none⟩), recV r (.slice none 0 0)] w (AdP l base bk (.slice (some ⟨g0, 0, none⟩) 1 c0) 1 (recC r0 (.slice none 0 0)).toList (recC r (.slice none 0 0)) w) := by
  have KV := Lib.hid (fun W => valid_any r none 0 0 W (.inl hli) (by simp [hli]) (by omega) (Nat.le_refl _) (by simp [maxLen]) hbo hte)
  rw [hv] at KV
  have KC := Lib.hid (fun W => copied_nil r W)
  have KW := Lib.hid (fun W => when_any r (.slice none 0 0) W)
  have KX := Lib.hid (fun W => when_any r0 (.slice none 0 0) W)
  have dw : decide ((if r.kind = 3 then r.sa0 else r.at0) < (if r0.kind = 3 then r0.sa0 else r0.at0)) = false := decide_eq_false hw
  generalize (if r.kind = 3 then r.sa0 else r.at0) = tr at KW dw
  generalize (if r0.kind = 3 then r0.sa0 else r0.at0) = t0 at KX dw
  clear hw
  have d3 : (r.kind == 3) = false := by simpa using h3
  have d4 : (r.kind == 4) = false := by simpa using h4
  clear hv hli hbo hte h3 h4
  have hlt := hL0.lt
  have B1 := Lib.hid (bl_alloc w (.cells (recC r (.slice none 0 0)) 33))
  have G1 := Lib.hid (Blk.new w 33 (recC r (.slice none 0 0)))
  have L1 := Lib.hid (hL0.alloc (.cells (recC r (.slice none 0 0)) 33))
  have O1 := Lib.hid (own_bl hO0 (bl_alloc w (.cells (recC r (.slice none 0 0)) 33)) (Nat.le_refl _))
  have R1 := Lib.hid (hR0.below (bl_alloc w (.cells (recC r (.slice none 0 0)) 33)) hg0)
  clear hO0 hR0
  clear hL0
  obtain ⟨cs, hcs⟩ : ∃ cs, (recC r (.slice none 0 0)) = cs := ⟨_, rfl⟩
  have hsz : cs.size = 24 := by rw [← hcs]; rfl
  have k0 : cs[0]? = some (.int .i64 r.kind) := by rw [← hcs]; rfl
  have hone : ∀ u ∈ cs.toList, u.oneCell' = true := by rw [← hcs]; simp [txb, Value.oneCell']
  have hrv : recV r (.slice none 0 0) = .agg cs := by rw [← hcs]
  have HRV := Lib.hid hrv
  have HCS := Lib.hid hcs
  rw [hcs] at B1 G1 L1 O1 R1 ⊢
  rw [hrv] at KV KC KW ⊢
  clear hcs hrv
  obtain ⟨cs0, hcs0⟩ : ∃ cs, recC r0 (.slice none 0 0) = cs := ⟨_, rfl⟩
  have hsz0 : cs0.size = 24 := by rw [← hcs0]; rfl
  have hrv0 : recV r0 (.slice none 0 0) = .agg cs0 := by rw [← hcs0]
  rw [hcs0] at O1 R1 ⊢
  rw [hrv0] at KX
  clear hcs0 hrv0
  go_enter Tryz.func13, Tryz.ntmps13
  go_upto_region 1 with fail
  generalize w.alloc (.cells cs 33) = wa at *
  have hgl : w.heap.size ≠ l := by omega
  repeat ((fail_if_success (refine wp_load_rec (.tmp 3) rfl rfl G1.out hsz ?_)); (first | go_values | go_skip | go_guarded | go_step))
  refine wp_load_rec (.tmp 3) rfl rfl G1.out hsz ?_
  simp only [Act.put, List.setIfInBounds_toArray, List.set_cons_zero, List.set_cons_succ]
  go_upto_region 3 with (go_at_call 9; (with_reducible refine (KV.out _).mono ?_); rintro e wb ⟨rfl, hb⟩; have B2 := Lib.hid (B1.out.trans (hb.mono B1.out.size)); have G2 := Lib.hid (G1.out.below hb G1.out.lt); have L2 := Lib.hid (L1.out.below hb L1.out.lt); have O2 := Lib.hid (own_bl O1.out hb (Nat.le_refl _)); have R2 := Lib.hid (R1.out.below hb (by have := B1.out.size; omega)))
  clear hb B1 G1 L1 KV O1 R1
  have y3 : wb.cell? ⟨l, 3, none⟩ = some (.slice (some ⟨g0, 0, none⟩) 1 c0) := L2.out.cell 3
  have y0 : wb.cell? ⟨w.heap.size, 0, none⟩ = some (.int .i64 r.kind) := (G2.out.cell 0).trans k0
  go_upto_region 5 with fail
  have yl : ∀ s : BW wb, s.w.cell? ⟨l, 3, none⟩ = some (.slice (some ⟨g0, 0, none⟩) 1 c0) := fun s => (s.hb.cell (p := ⟨l, 3, none⟩) L2.out.lt).trans y3
  have RA := Lib.hid (fun W (h : ∃ s : BW wb, W = s.w) => (show RecAt W w.heap.size 0 cs from by obtain ⟨s, rfl⟩ := h; exact fun j _ => by rw [Nat.zero_add]; exact (G2.out.below s.hb G2.out.lt).cell j))
  have RB := Lib.hid (fun W (h : ∃ s : BW wb, W = s.w) => (show RecAt W g0 0 cs0 from by obtain ⟨s, rfl⟩ := h; exact R2.out.below s.hb (by have := B2.out.size; omega)))
  refine wp_region_bw wb (by kernel_rfl) (by kernel_rfl) (Below.refl _ _) ?_
  repeat (first | (go_big_quiet_want; refine quiet_rec (.tmp 3) rfl w.heap.size 0 rfl RA.out hsz ?_; simp only [Act.put, List.setIfInBounds_toArray, List.set_cons_zero, List.set_cons_succ]; go_big_quiet_on) | (go_big_quiet_want; refine quiet_rec (.tmp 44) rfl g0 0 rfl RB.out hsz0 ?_; simp only [Act.put, List.setIfInBounds_toArray, List.set_cons_zero, List.set_cons_succ]; go_big_quiet_on) | (go_big_quiet_step (first | (go_at_call 40; with_reducible exact quiet_bw (KW.out _)) | (go_at_call 40; with_reducible exact quiet_bw (KX.out _)) | fail)))
  refine wpQuiet_nil ?_
  intro w9 hb9
  have y3 : w9.cell? ⟨l, 3, none⟩ = some (.slice (some ⟨g0, 0, none⟩) 1 c0) := yl ⟨w9, hb9⟩
  have y0 : w9.cell? ⟨w.heap.size, 0, none⟩ = some (.int .i64 r.kind) := ((G2.out.below hb9 G2.out.lt).cell 0).trans k0
  have G3 := Lib.hid (G2.out.below hb9 G2.out.lt)
  have L3 := Lib.hid (L2.out.below hb9 L2.out.lt)
  have B3 := Lib.hid (B2.out.trans (hb9.mono B2.out.size))
  have O3 := Lib.hid (own_bl O2.out hb9 (Nat.le_refl _))
  clear G2 L2 B2 O2 R2 RA RB yl KW KX hb9
  go_upto_region 18 with fail
  clear y0 y3 d3 d4
  generalize w9 = w2 at *
  have hbase2 : base ≤ w2.heap.size := by have := B3.out.size; omega
  obtain ⟨iR, zR, hiR, hzR, hsR, hszR, hbR⟩ := rec_parts
  have hgv : some w.heap.size ≠ (.slice (some ⟨g0, 0, none⟩) 1 c0 : Value).ownBlock := by simp [Value.ownBlock]; omega
  refine wp_region_inv3 (by kernel_rfl) (AdI w2 l w.heap.size bk (.slice (some ⟨g0, 0, none⟩) 1 c0) 1 base cs0.toList cs) (waits_bind (by kernel_rfl)) ?start ?step ?fin
  case start => exact AdI.start _ G3.out L3.out O3.out
  case step =>
    clear G3 L3 O3
    rintro M i o a1' w' ho hL haf ⟨v99, v100, v101, v102, v103, v104, v105, v106, v107, v108, v109, rfl, hK, hG, hB, hN, hO, hP, hR, hU, hX, hW, e0, e1, e2, e3, e4, e5, e6, e9, e10⟩
    have HK := Lib.hid hK
    have HG := Lib.hid hG
    have HB := Lib.hid hB
    have HN := Lib.hid hN
    have HO := Lib.hid hO
    have HP := Lib.hid hP
    have HR := Lib.hid hR
    have HU := Lib.hid hU
    have HX := Lib.hid hX
    have HW := Lib.hid hW
    have E0 := Lib.hid e0
    have E1 := Lib.hid e1
    have E2 := Lib.hid e2
    have E3 := Lib.hid e3
    have E4 := Lib.hid e4
    have E5 := Lib.hid e5
    have E6 := Lib.hid e6
    have E9 := Lib.hid e9
    have E10 := Lib.hid e10
    clear hK hG hB hN hO hP hR hU hX hW e0 e1 e2 e3 e4 e5 e6 e9 e10
    rcases i with _ | _ | _ | _ | _ | _ | _ | _ | _ | _ | _ | _ | i
    all_goals (simp at ho; try subst ho)
    all_goals (try simp [Region.binds] at haf)
    · go_wp2
      unfold AdI
      exact ⟨(.pointer (some ⟨l, 0, none⟩)), v100, v101, v102, v103, v104, v105, v106, v107, v108, v109, pu_, HK.out, HG.out, kn HB, kp HN, kn HO, kp HP, km HR, fun h => (by have q := HU.out (by simpa [mkd] using h); simp [mkd, q]), fun h => (by have q := HX.out (by simpa [mkd] using h); simp [mkd, q]), fun h => (by have q := HW.out (by simpa [mkd] using h); simp [mkd, q]), fun _ => rfl, kq E1, kq E2, kq E3, kq E4, kq E5, kq E6, kq E9, kq E10⟩
    · go_wp2
      unfold AdI
      exact ⟨v99, (.pointer (some ⟨l, 0, none⟩)), v101, v102, v103, v104, v105, v106, v107, v108, v109, pu_, HK.out, HG.out, kn HB, kp HN, kn HO, kp HP, km HR, fun h => (by have q := HU.out (by simpa [mkd] using h); simp [mkd, q]), fun h => (by have q := HX.out (by simpa [mkd] using h); simp [mkd, q]), fun h => (by have q := HW.out (by simpa [mkd] using h); simp [mkd, q]), kq E0, fun _ => rfl, kq E2, kq E3, kq E4, kq E5, kq E6, kq E9, kq E10⟩
    · obtain rfl := (E1.out (by simp [haf])).symm
      go_wp2
      unfold AdI
      exact ⟨v99, (.pointer (some ⟨l, 0, none⟩)), (.pointer (some ⟨l, 0, none⟩)), v102, v103, v104, v105, v106, v107, v108, v109, pu_, HK.out, HG.out, kn HB, kp HN, kn HO, kp HP, km HR, fun h => (by have q := HU.out (by simpa [mkd] using h); simp [mkd, q]), fun h => (by have q := HX.out (by simpa [mkd] using h); simp [mkd, q]), fun h => (by have q := HW.out (by simpa [mkd] using h); simp [mkd, q]), kq E0, fun _ => rfl, fun _ => rfl, kq E3, kq E4, kq E5, kq E6, kq E9, kq E10⟩
    · obtain rfl := (E2.out (by simp [haf])).symm
      go_wp2
      unfold AdI
      exact ⟨v99, v100, (.pointer (some ⟨l, 0, none⟩)), (.pointer (some ⟨l, 3, none⟩)), v103, v104, v105, v106, v107, v108, v109, pu_, HK.out, HG.out, kn HB, kp HN, kn HO, kp HP, km HR, fun h => (by have q := HU.out (by simpa [mkd] using h); simp [mkd, q]), fun h => (by have q := HX.out (by simpa [mkd] using h); simp [mkd, q]), fun h => (by have q := HW.out (by simpa [mkd] using h); simp [mkd, q]), kq E0, kq E1, fun _ => rfl, fun _ => rfl, kq E4, kq E5, kq E6, kq E9, kq E10⟩
    · obtain rfl := (E3.out (by simp [haf])).symm
      have n8 : M 8 = false := by cases h8 : M 8 with | false => rfl | true => exact absurd (HU.out h8).2 (by simp [hL])
      have n11 : M 11 = false := by cases h8 : M 11 with | false => rfl | true => exact absurd (HX.out h8) (by simp [n8])
      have y0 := (HB.out n11).cell 3
      simp only [List.getElem?_toArray, List.getElem?_cons_succ, List.getElem?_cons_zero] at y0
      go_wp2
      unfold AdI
      exact ⟨v99, v100, v101, (.pointer (some ⟨l, 3, none⟩)), (.slice (some ⟨g0, 0, none⟩) 1 c0), v104, v105, v106, v107, v108, v109, pu_, HK.out, HG.out, kn HB, kp HN, kn HO, kp HP, km HR, fun h => (by have q := HU.out (by simpa [mkd] using h); simp [mkd, q]), fun h => (by have q := HX.out (by simpa [mkd] using h); simp [mkd, q]), fun h => (by have q := HW.out (by simpa [mkd] using h); simp [mkd, q]), kq E0, kq E1, kq E2, fun _ => rfl, fun _ => rfl, kq E5, kq E6, kq E9, kq E10⟩
    · simp only [Act.put, List.setIfInBounds_toArray, List.set_cons_zero, List.set_cons_succ]
      refine wpList_load_recAt rfl (.tmp 3) rfl w.heap.size 0 rfl (fun j _ => by rw [Nat.zero_add]; exact HG.out.cell j) hsz ?_
      go_wp2
      unfold AdI
      exact ⟨v99, v100, v101, v102, v103, (.agg cs), v105, v106, v107, v108, v109, pu_, HK.out, HG.out, kn HB, kp HN, kn HO, kp HP, km HR, fun h => (by have q := HU.out (by simpa [mkd] using h); simp [mkd, q]), fun h => (by have q := HX.out (by simpa [mkd] using h); simp [mkd, q]), fun h => (by have q := HW.out (by simpa [mkd] using h); simp [mkd, q]), kq E0, kq E1, kq E2, kq E3, kq E4, fun _ => rfl, kq E6, kq E9, kq E10⟩
    · obtain rfl := (E5.out (by simp [haf])).symm
      have n7 : M 7 = false := by cases h8 : M 7 with | false => rfl | true => exact absurd (HW.out h8) (by simp [hL])
      have n8 : M 8 = false := by cases h8 : M 8 with | false => rfl | true => exact absurd (HU.out h8).1 (by simp [n7])
      have n11 : M 11 = false := by cases h8 : M 11 with | false => rfl | true => exact absurd (HX.out h8) (by simp [n8])
      go_wp2_with fail
      (with_reducible refine (KC.out _).mono ?_)
      rintro e9 w9 ⟨rfl, hb9⟩
      go_wp2
      unfold AdI
      exact ⟨v99, v100, v101, v102, v103, (.agg cs), (.agg cs), v106, v107, v108, v109, pu_, HK.out.bl hb9, HG.out.below hb9 HG.out.lt, fun _ => (HB.out n11).below hb9 (HB.out n11).lt, fun h => absurd h (by simp [mkd, n11]), fun _ => own_bl (HO.out n8) hb9 (Nat.le_refl _), fun h => absurd h (by simp [mkd, n8]), fun h => absurd h (by simp [mkd, n7]), fun h => absurd h (by simp [mkd, n8]), fun h => absurd h (by simp [mkd, n11]), fun h => absurd h (by simp [mkd, n7]), kq E0, kq E1, kq E2, kq E3, kq E4, fun _ => rfl, fun _ => rfl, kq E9, kq E10⟩
    · obtain rfl := (E6.out (by simp [haf])).symm
      have n8 : M 8 = false := by cases h8 : M 8 with | false => rfl | true => exact absurd (HU.out h8).1 (by simp [hL])
      have n11 : M 11 = false := by cases h8 : M 11 with | false => rfl | true => exact absurd (HX.out h8) (by simp [n8])
      have m6 : M 6 = true := by simp [haf]
      simp only [Act.put, List.setIfInBounds_toArray, List.set_cons_zero, List.set_cons_succ]
      refine wpList_build_rec rfl (.tmp 105) rfl r (.slice none 0 0) HRV.out.symm ?_
      rw [HCS.out]
      go_wp2
      unfold AdI
      exact ⟨v99, v100, v101, v102, v103, v104, (.agg cs), (.slice (some ⟨w'.heap.size, 0, none⟩) 1 1), v107, v108, v109, pu_, HK.out.bl (bl_alloc _ _), HG.out.alloc _, fun _ => (HB.out n11).alloc _, fun h => absurd h (by simp [mkd, n11]), fun _ => own_bl (HO.out n8) (bl_alloc _ _) (Nat.le_refl _), fun h => absurd h (by simp [mkd, n8]), fun _ _ => ⟨_, rfl, by simp, fun e => absurd (own_lt (HO.out n8) e) (by omega), RecAt.new _ _ _⟩, fun h => absurd h (by simp [mkd, n8]), fun h => absurd h (by simp [mkd, n11]), fun _ => by simp [mkd, m6], kq E0, kq E1, kq E2, kq E3, kq E4, kq E5, fun _ => rfl, kq E9, kq E10⟩
    · obtain rfl := (E4.out (by simp [haf])).symm
      have n11 : M 11 = false := by cases h8 : M 11 with | false => rfl | true => exact absurd (HX.out h8) (by simp [hL])
      have m7 : M 7 = true := by simp [haf]
      obtain ⟨b7, rfl, hb7, hbv, hR⟩ := HR.out m7 hL
      have hO := HO.out hL
      have hz9 := HK.out.size
      simp only [Act.put, List.setIfInBounds_toArray, List.set_cons_zero, List.set_cons_succ]
      refine wpList_append_own_at _ rfl (.tmp 103) (.tmp 106) _ rfl base 33 iR zR 24 iR.bytes Tryz.underlying57 hiR hzR hszR rfl hsR (by decide) (.slice (some ⟨g0, 0, none⟩) 1 c0) 1 cs0.toList rfl hO ⟨b7, 0, none⟩ 1 1 cs.toList rfl (by simp [hsz]) (hR.news hsz) hone (by simp only [maxLen]; omega) (by omega) (by omega) ?_
      intro u9 w9 hown9 hg9 hnil9 hob9
      have hne := own_blk_ne hO (HB.out n11) (by decide)
      go_wp2
      unfold AdI
      exact ⟨v99, v100, v101, v102, (.slice (some ⟨g0, 0, none⟩) 1 c0), v104, v105, (.slice (some ⟨b7, 0, none⟩) 1 1), u9, v108, v109, pu_, HK.out.gr hg9, HG.out.grown hg9 hgv, fun _ => (HB.out n11).grown hg9 (fun e => hne e.symm), fun h => absurd h (by simp [mkd, n11]), fun h => absurd h (by simp [mkd]), fun _ => hown9, fun _ h => absurd h (by simp [mkd]), fun _ => by simp [mkd, m7, show M 4 = true by simp [haf]], fun h => absurd h (by simp [mkd, n11]), fun h => (by have q := HW.out m7; simp [mkd, q]), kq E0, kq E1, kq E2, kq E3, fun _ => rfl, kq E5, kq E6, kq E9, kq E10⟩
    · obtain rfl := (E0.out (by simp [haf])).symm
      go_wp2
      unfold AdI
      exact ⟨(.pointer (some ⟨l, 0, none⟩)), v100, v101, v102, v103, v104, v105, v106, v107, (.pointer (some ⟨l, 0, none⟩)), v109, pu_, HK.out, HG.out, kn HB, kp HN, kn HO, kp HP, km HR, fun h => (by have q := HU.out (by simpa [mkd] using h); simp [mkd, q]), fun h => (by have q := HX.out (by simpa [mkd] using h); simp [mkd, q]), fun h => (by have q := HW.out (by simpa [mkd] using h); simp [mkd, q]), fun _ => rfl, kq E1, kq E2, kq E3, kq E4, kq E5, kq E6, fun _ => rfl, kq E10⟩
    · obtain rfl := (E9.out (by simp [haf])).symm
      go_wp2
      unfold AdI
      exact ⟨v99, v100, v101, v102, v103, v104, v105, v106, v107, (.pointer (some ⟨l, 0, none⟩)), (.pointer (some ⟨l, 3, none⟩)), pu_, HK.out, HG.out, kn HB, kp HN, kn HO, kp HP, km HR, fun h => (by have q := HU.out (by simpa [mkd] using h); simp [mkd, q]), fun h => (by have q := HX.out (by simpa [mkd] using h); simp [mkd, q]), fun h => (by have q := HW.out (by simpa [mkd] using h); simp [mkd, q]), kq E0, kq E1, kq E2, kq E3, kq E4, kq E5, kq E6, fun _ => rfl, fun _ => rfl⟩
    · obtain rfl := (E10.out (by simp [haf])).symm
      have m8 : M 8 = true := by simp [haf]
      have hP := HP.out m8
      obtain ⟨A3, c3, hu3, -⟩ := own_form hP
      subst hu3
      have hLg := HB.out hL
      have y0 := hLg.cell 3
      have f0 := hLg.frozen 3
      simp only [List.getElem?_toArray, List.getElem?_cons_succ, List.getElem?_cons_zero] at y0
      have hne := own_blk_ne hP hLg (by decide)
      go_wp2
      unfold AdI
      exact ⟨v99, v100, v101, v102, v103, v104, v105, v106, (.slice A3 (1 + 1) c3), v108, (.pointer (some ⟨l, 3, none⟩)), pu_, HK.out.set _ _, HG.out.far (p := ⟨l, 3, none⟩) hgl _, fun h => absurd h (by simp [mkd]), fun _ => hLg.set_ 3 _, fun h => absurd h (by simp [mkd, m8]), fun _ => own_same hP (fun k hk => Below.heap_setCell _ _ _ _ (fun e => hne (by rw [← hk]; exact congrArg some e))), fun _ h => absurd h (by simp [mkd, m8]), fun h => (by have q := HU.out (by simpa [mkd] using h); simp [mkd, q]), fun _ => by simp [mkd, m8], fun h => (by have q := HW.out (by simpa [mkd] using h); simp [mkd, q]), kq E0, kq E1, kq E2, kq E3, kq E4, kq E5, kq E6, kq E9, fun _ => rfl⟩
  case fin =>
    rintro M a1' w' hall ⟨v99, v100, v101, v102, v103, v104, v105, v106, v107, v108, v109, rfl, hK, hG, hB, hN, hO, hP, hR, hU, hX, hW, e0, e1, e2, e3, e4, e5, e6, e9, e10⟩
    have m11 : M 11 = true := hall 11 (by simp)
    have m8 : M 8 = true := hall 8 (by simp)
    replace hN := hN m11
    replace hP := hP m8
    have HN := Lib.hid hN
    have HP := Lib.hid hP
    have HK := Lib.hid hK
    clear hK hG hB hN hO hP hR hU hX hW e0 e1 e2 e3 e4 e5 e6 e9 e10
    simp only [Act.put, List.setIfInBounds_toArray, List.set_cons_zero, List.set_cons_succ]
    go_wp2
    go_ret
    exact ⟨rfl, AdK.pre B3.out HK.out, _, HN.out, HP.out⟩
end Go.Proofs.YthfndnmfnijpeaaGreat
namespace Go.Proofs.YthfndnmfnijpeaaGreat
open Go.RowKit Go.Shelf
open LB (Bs Rec)
/-- the records that have been copied -/
def outR (c1 c2 : Array Value) : Nat → List Value
  | 0 => []
  | 1 => c1.toList
  | _ => c1.toList ++ c2.toList
theorem info24 {n : Nat} (h : n = 24) : (Tryz.prog.info? 33).map (·.size) = some n := by rw [h]; kernel_rfl
theorem own_slice {w : World} {base : Nat} {e : TypeId} {size n : Nat} {v : Value} {xs : List Value} (h : w.ownsRow base e size v n xs) : ∃ A c, v = .slice A n c := by
  obtain ⟨A, c, hv, -⟩ := own_form h
  exact ⟨A, c, hv⟩
set_option maxHeartbeats 8000000 in
set_option maxRecDepth 100000 in
theorem records2_any (l g0 n0 : Nat) (bk : Value) (r1 r2 : Rec) (w : World) (hL : Blk w l 102 #[bk, .int .i64 0, .slice none 0 0, .slice (some ⟨g0, 0, none⟩) 2 n0]) (h1 : RecAt w g0 0 (recC r1 (.slice none 0 0))) (h2 : RecAt w g0 24 (recC r2 (.slice none 0 0))) (hg : g0 < w.heap.size) :
    Calls Tryz.prog 15 #[.pointer (some ⟨l, 0, none⟩)] w fun e w' => (∃ A c, e = .returned (.slice A 2 c)) ∧ Below w.heap.size w w' := by
  have KC1 := Lib.hid (fun W => copied_nil r1 W)
  obtain ⟨c1, hc1⟩ : ∃ cs, recC r1 (.slice none 0 0) = cs := ⟨_, rfl⟩
  have hsz1 : c1.size = 24 := by rw [← hc1]; rfl
  have hone1 : ∀ u ∈ c1.toList, u.oneCell' = true := by rw [← hc1]; simp [txb, Value.oneCell']
  have hall1 : c1.all (·.oneCell') = true := by rw [← hc1]; simp [txb, Value.oneCell']
  have hrv1 : recV r1 (.slice none 0 0) = .agg c1 := by rw [← hc1]
  have HRV1 := Lib.hid hrv1
  have HC1 := Lib.hid hc1
  rw [hc1] at h1
  rw [hrv1] at KC1
  clear hrv1 hc1
  have KC2 := Lib.hid (fun W => copied_nil r2 W)
  obtain ⟨c2, hc2⟩ : ∃ cs, recC r2 (.slice none 0 0) = cs := ⟨_, rfl⟩
  have hsz2 : c2.size = 24 := by rw [← hc2]; rfl
  have hone2 : ∀ u ∈ c2.toList, u.oneCell' = true := by rw [← hc2]; simp [txb, Value.oneCell']
  have hall2 : c2.all (·.oneCell') = true := by rw [← hc2]; simp [txb, Value.oneCell']
  have hrv2 : recV r2 (.slice none 0 0) = .agg c2 := by rw [← hc2]
  have HRV2 := Lib.hid hrv2
  have HC2 := Lib.hid hc2
  rw [hc2] at h2
  rw [hrv2] at KC2
  clear hrv2 hc2
  have H1 := Lib.hid h1
  have H2 := Lib.hid h2
  have y3 : w.cell? ⟨l, 3, none⟩ = some (.slice (some ⟨g0, 0, none⟩) 2 n0) := hL.cell 3
  clear h1 h2 hL
  obtain ⟨iR, zR, hiR, hzR, hsR, hszR, hbR⟩ := rec_parts
  go_enter Tryz.func15, Tryz.ntmps15
  go_wp2_with fail
  go_loopg [3, 13] 2 (fun gz s3 s13 wr => ∃ k : Nat, k ≤ 2 ∧ 2 - k ≤ gz ∧ s13 = .int .i64 k ∧ wr.ownsRow w.heap.size 33 24 s3 k (outR c1 c2 k) ∧ Below w.heap.size w wr)
  case atStart => exact ⟨0, by omega, by omega, rfl, own_nil _ _ _ _, Below.refl _ _⟩
  case round =>
    obtain ⟨k, hk, hgk, rfl, hO, hB⟩ := hrel
    have hcase : k = 0 ∨ k = 1 ∨ k = 2 := by omega
    have OO := Lib.hid hO
    have BB := Lib.hid hB
    obtain ⟨A3, n3, hs3⟩ := own_slice hO
    subst hs3
    clear hk hO hB
    rcases hcase with rfl | rfl | rfl
    · have R1 := Lib.hid (H1.out.below BB.out hg)
      skip
      go_upto_region 6 with fail
      repeat ((fail_if_success (refine wp_load_recAt (.tmp 15) rfl g0 0 rfl R1.out hsz1 ?_)); (first | go_values | go_skip | go_guarded | go_step))
      refine wp_load_recAt (.tmp 15) rfl g0 0 rfl R1.out hsz1 ?_
      simp only [Act.put, List.setIfInBounds_toArray, List.set_cons_zero, List.set_cons_succ]
      repeat ((fail_if_success (refine wpList_store_row rfl _ (.tmp 5) (.tmp 16) rfl wr.heap.size c1 rfl rfl _ _ (heap_alloc_last _ _) (info24 hsz1) (by rw [hsz1]; rfl) hall1 ?_)); (first | go_values | go_skip | go_guarded | go_step))
      refine wpList_store_row rfl _ (.tmp 5) (.tmp 16) rfl wr.heap.size c1 rfl rfl _ _ (heap_alloc_last _ _) (info24 hsz1) (by rw [hsz1]; rfl) hall1 ?_
      rw [World.setRow_alloc_new]
      have G1 := Lib.hid (Blk.new wr 33 c1)
      have O1 := Lib.hid (own_bl OO.out (bl_alloc wr (.cells c1 33)) (Nat.le_refl _))
      have B1 := Lib.hid (BB.out.trans ((bl_alloc wr (.cells c1 33)).mono BB.out.size))
      clear OO R1
      generalize wr.alloc (.cells c1 33) = wa at *
      go_upto_region 7 with fail
      repeat ((fail_if_success (refine wp_load_rec (.tmp 5) rfl rfl G1.out hsz1 ?_)); (first | go_values | go_skip | go_guarded | go_step))
      refine wp_load_rec (.tmp 5) rfl rfl G1.out hsz1 ?_
      simp only [Act.put, List.setIfInBounds_toArray, List.set_cons_zero, List.set_cons_succ]
      go_wp2_with fail
      (with_reducible refine (KC1.out _).mono ?_)
      rintro e wb ⟨rfl, hb⟩
      have O2 := Lib.hid (own_bl O1.out hb (Nat.le_refl _))
      have B2 := Lib.hid (B1.out.trans (hb.mono B1.out.size))
      clear O1 B1 G1 hb
      dsimp only
      repeat ((fail_if_success (refine wpList_build_rec rfl (.tmp 19) rfl r1 (.slice none 0 0) HRV1.out.symm ?_)); (first | go_values | go_skip | go_guarded | go_step))
      refine wpList_build_rec rfl (.tmp 19) rfl r1 (.slice none 0 0) HRV1.out.symm ?_
      rw [HC1.out]
      simp only [Act.put, List.setIfInBounds_toArray, List.set_cons_zero, List.set_cons_succ]
      have O3 := own_bl O2.out (bl_alloc wb (.cells c1 33)) (Nat.le_refl _)
      have B3 := B2.out.trans ((bl_alloc wb (.cells c1 33)).mono B2.out.size)
      have hz3 := B3.size
      refine wpList_append_own_at _ rfl (.tmp 17) (.tmp 20) _ rfl w.heap.size 33 iR zR 24 iR.bytes Tryz.underlying57 hiR hzR hszR rfl hsR (by decide) (.slice A3 0 n3) 0 (outR c1 c2 0) rfl O3 ⟨wb.heap.size, 0, none⟩ 1 1 c1.toList rfl (by simp [hsz1]) ((RecAt.new wb c1 _).news hsz1) hone1 (by simp only [maxLen]; omega) (by omega) hz3 ?_
      intro u9 w9 hown9 hg9 hnil9 hob9
      have O9 := Lib.hid (show w9.ownsRow w.heap.size 33 24 u9 1 (outR c1 c2 1) from hown9)
      have B9 := Lib.hid (B3.grown hg9 hz3 (fun j hj => own_base O3 j hj))
      clear O2 B2 O3 B3 hz3 hown9 hg9 hnil9 hob9
      go_wp2
      go_roundg 1
      case measure => omega
      case rel => exact ⟨1, by omega, by omega, by go_num, O9.out, B9.out⟩
    · have R2 := Lib.hid (H2.out.below BB.out hg)
      skip
      go_upto_region 6 with fail
      repeat ((fail_if_success (refine wp_load_recAt (.tmp 15) rfl g0 24 rfl R2.out hsz2 ?_)); (first | go_values | go_skip | go_guarded | go_step))
      refine wp_load_recAt (.tmp 15) rfl g0 24 rfl R2.out hsz2 ?_
      simp only [Act.put, List.setIfInBounds_toArray, List.set_cons_zero, List.set_cons_succ]
      repeat ((fail_if_success (refine wpList_store_row rfl _ (.tmp 5) (.tmp 16) rfl wr.heap.size c2 rfl rfl _ _ (heap_alloc_last _ _) (info24 hsz2) (by rw [hsz2]; rfl) hall2 ?_)); (first | go_values | go_skip | go_guarded | go_step))
      refine wpList_store_row rfl _ (.tmp 5) (.tmp 16) rfl wr.heap.size c2 rfl rfl _ _ (heap_alloc_last _ _) (info24 hsz2) (by rw [hsz2]; rfl) hall2 ?_
      rw [World.setRow_alloc_new]
      have G1 := Lib.hid (Blk.new wr 33 c2)
      have O1 := Lib.hid (own_bl OO.out (bl_alloc wr (.cells c2 33)) (Nat.le_refl _))
      have B1 := Lib.hid (BB.out.trans ((bl_alloc wr (.cells c2 33)).mono BB.out.size))
      clear OO R2
      generalize wr.alloc (.cells c2 33) = wa at *
      go_upto_region 7 with fail
      repeat ((fail_if_success (refine wp_load_rec (.tmp 5) rfl rfl G1.out hsz2 ?_)); (first | go_values | go_skip | go_guarded | go_step))
      refine wp_load_rec (.tmp 5) rfl rfl G1.out hsz2 ?_
      simp only [Act.put, List.setIfInBounds_toArray, List.set_cons_zero, List.set_cons_succ]
      go_wp2_with fail
      (with_reducible refine (KC2.out _).mono ?_)
      rintro e wb ⟨rfl, hb⟩
      have O2 := Lib.hid (own_bl O1.out hb (Nat.le_refl _))
      have B2 := Lib.hid (B1.out.trans (hb.mono B1.out.size))
      clear O1 B1 G1 hb
      dsimp only
      repeat ((fail_if_success (refine wpList_build_rec rfl (.tmp 19) rfl r2 (.slice none 0 0) HRV2.out.symm ?_)); (first | go_values | go_skip | go_guarded | go_step))
      refine wpList_build_rec rfl (.tmp 19) rfl r2 (.slice none 0 0) HRV2.out.symm ?_
      rw [HC2.out]
      simp only [Act.put, List.setIfInBounds_toArray, List.set_cons_zero, List.set_cons_succ]
      have O3 := own_bl O2.out (bl_alloc wb (.cells c2 33)) (Nat.le_refl _)
      have B3 := B2.out.trans ((bl_alloc wb (.cells c2 33)).mono B2.out.size)
      have hz3 := B3.size
      refine wpList_append_own_at _ rfl (.tmp 17) (.tmp 20) _ rfl w.heap.size 33 iR zR 24 iR.bytes Tryz.underlying57 hiR hzR hszR rfl hsR (by decide) (.slice A3 1 n3) 1 (outR c1 c2 1) rfl O3 ⟨wb.heap.size, 0, none⟩ 1 1 c2.toList rfl (by simp [hsz2]) ((RecAt.new wb c2 _).news hsz2) hone2 (by simp only [maxLen]; omega) (by omega) hz3 ?_
      intro u9 w9 hown9 hg9 hnil9 hob9
      have O9 := Lib.hid (show w9.ownsRow w.heap.size 33 24 u9 2 (outR c1 c2 2) from hown9)
      have B9 := Lib.hid (B3.grown hg9 hz3 (fun j hj => own_base O3 j hj))
      clear O2 B2 O3 B3 hz3 hown9 hg9 hnil9 hob9
      go_wp2
      go_roundg 0
      case measure => omega
      case rel => exact ⟨2, by omega, by omega, by go_num, O9.out, B9.out⟩
    · clear OO
      go_wp2
      go_ret
      exact ⟨⟨_, _, rfl⟩, BB.out⟩
end Go.Proofs.YthfndnmfnijpeaaGreat
namespace Go.Proofs
open Go.Shelf
shelf_try shelf_lay Lays7.n25 Nm7 25 at Tryz as Tryz.lays25
shelf_try shelf_lay Lays7.n26 Nm7 26 at Tryz as Tryz.lays26
shelf_try shelf_lay Lays.n264 Nm 264 at Tryz as Tryz.mul64
shelf_try shelf_lay Lays.n134 Nm 134 at Tryz as Tryz.lz64
shelf_tried
end Go.Proofs
