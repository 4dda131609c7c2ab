/- The last step of a row where the call left nothing changed that was there. -/
import Derived.Test.YtopfnffabaiceaaRows
import Derived.Below
import Derived.ProofKit
import Derived.Lib.SmallJoins
import Derived.Test.YtopfnffabaiceaaGHs
import Derived.Test.YtopfnffabaiceaaGHq
import Derived.Test.YtopfnffabaiceaaGHo
import Derived.Test.YtopfnffabaiceaaGRl
set_option linter.unusedVariables false
set_option linter.unusedSimpArgs false
/- The walk of the law FixParts. -/
namespace Go.Proofs.Ytopfnffabaiceaa
open Go.RowKit
/-- what lies behind the first elements of a slice -/
theorem Reads.tail1 {w : World} {B N c3 k : Nat} {A A5 : Option Addr} {vs : List Value} (h : Reads w B 1 A N vs) (hk : k < N) (hc : N ≤ c3) (hA : c3 ≠ k + 1 → A5 = A.map (·.add (k + 1))) : Reads w B 1 A5 (N - (k + 1)) (vs.drop (k + 1)) := by
  have hl := h.1
  refine ⟨by rw [List.length_drop]; omega, fun hn => ?_⟩
  obtain ⟨ad, rfl, hb, hx⟩ := h.2 (by omega)
  rw [hA (by omega)]
  refine ⟨ad.add (k + 1), rfl, by rw [block_of_add]; exact hb, fun j u hu => ?_⟩
  rw [add_of_add]
  rw [List.getElem?_drop] at hu
  exact hx _ _ hu
theorem take_flat (LL : List (List Cl)) {k : Nat} (h : k < LL.length) : (LL.take (k + 1)).flatten = (LL.take k).flatten ++ gl LL k := by
  rw [List.take_succ_eq_append_getElem h, List.flatten_append]; simp [gl, h]
set_option maxHeartbeats 8000000 in
set_option maxRecDepth 100000 in
theorem fixParts_any (A : Option Addr) (n ca : Nat) (L : List Cl) (w : World) (hr : Reads w w.heap.size 3 A n (cvs L)) (hn : n ≤ ca) (hca : ca ≤ maxLen) :
    Calls Try.prog 3 #[.slice A n ca] w fun e w' => e = .returned (.bool true) ∧ Below w.heap.size w w' := by
  have hl := hr.len
  have hnm : n ≤ maxLen := Nat.le_trans hn hca
  have RD : ∀ W, Below w.heap.size w W → Reads W W.heap.size 3 A n (cvs L) := fun W hW => (hr.below hW).more hW.size
  obtain ⟨vb, hvb⟩ : ∃ vb, vrB L = vb := ⟨_, rfl⟩
  have KA := Lib.hid (fun W => awake40 W)
  have KR : Hid (∀ W, Below w.heap.size w W → Calls Try.prog 7 #[.slice A n ca] W fun e w' => e = .returned (.bool vb) ∧ Below W.heap.size W w') := Lib.hid (fun W hW => by rw [← hvb, ← rvrB_eq]; exact refVR_any A n ca L W (RD W hW) hn hca)
  have KP : Hid (∀ W, Below w.heap.size w W → Calls Try.prog 6 #[.slice A n ca] W (RetRws W (if vb = true then partsL L else []) (if vb = true then 0 else 1))) := Lib.hid (fun W hW => by rw [← hvb]; exact Parts_any A n ca L W (RD W hW) hnm)
  by_cases h40 : n ≤ 40
  · have h40' : (n : Int) ≤ 40 := by omega
    cases vb with
    | false =>
      simp only [Bool.false_eq_true, if_false] at KP
      clear RD hr hvb hl
      unfold maxLen at hca hnm
      go_enter Try.func3, Try.ntmps3
      go_wp2_with fail
      (with_reducible refine (KA.out _).mono ?_)
      rintro e w1 ⟨rfl, hb1⟩
      go_wp2_with fail
      (with_reducible refine (KP.out _ hb1).mono ?_)
      rintro e w2 ⟨v, vs, rfl, hro, hb2⟩
      obtain ⟨A3, c3, rfl, -, -, -⟩ := own_form hro.row
      have hb2' := hb1.trans (hb2.mono hb1.size)
      clear hb1 hb2 KA KP hro
      simp only [List.length_nil]
      go_wp2_with fail
      (with_reducible refine (KR.out _ hb2').mono ?_)
      rintro e w3 ⟨rfl, hb3⟩
      go_wp2
      go_ret
      exact ⟨ret_bool (by simp), hb2'.trans (hb3.mono hb2'.size)⟩
    | true =>
      simp only [if_true] at KP
      have HV : Hid (∀ x ∈ L, Vl x) := Lib.hid (((vrB_iff L).1 hvb).2.1)
      have KQ : Hid (∀ W, Below w.heap.size w W → Calls Try.prog 9 #[.slice A n ca] W fun e w' => ∃ v vs, e = .returned v ∧ Rws w' W.heap.size v (partsL L) vs ∧ Below W.heap.size W w') := Lib.hid (fun W hW => refParts_any A n ca L W (RD W hW) (by omega) HV.out)
      have HRD := Lib.hid RD
      have HTP := Lib.hid (tidy_parts hvb)
      have HAP := Lib.hid (fun (u v : Nat) (A B : List Cl) (h1 : (partsL L)[u]? = some A) (h2 : (partsL L)[v]? = some B) (hne : u ≠ v) (x y : Cl) (hx : x ∈ A) (hy : y ∈ B) => parts_apart h1 h2 hne hx hy)
      have HME := Lib.hid (fun (u : Nat) (A : List Cl) (h1 : (partsL L)[u]? = some A) (x : Cl) (hx : x ∈ A) => HV.out x (parts_mem h1 hx))
      have HLE := Lib.hid (fun (u : Nat) (A : List Cl) (h1 : (partsL L)[u]? = some A) => parts_len h1)
      have HCO := Lib.hid (parts_count L)
      have HFL := Lib.hid (parts_flat L).length_eq
      have HTK := Lib.hid (fun k => take_flat_len (partsL L) k)
      have HL := Lib.hid hl
      obtain ⟨LL, hLL⟩ : ∃ LL, partsL L = LL := ⟨_, rfl⟩
      rw [hLL] at KP KQ HTP HAP HME HLE HCO HFL HTK
      clear RD hr hvb hl hLL
      unfold maxLen at hca hnm
      go_enter Try.func3, Try.ntmps3
      go_wp2_with fail
      (with_reducible refine (KA.out _).mono ?_)
      rintro e w1 ⟨rfl, hb1⟩
      go_wp2_with fail
      (with_reducible refine (KP.out _ hb1).mono ?_)
      rintro e w2 ⟨v, vs, rfl, hro, hb2⟩
      obtain ⟨A3, c3, rfl, -, -, -⟩ := own_form hro.row
      have HR2 := Lib.hid hro
      have hb2' := hb1.trans (hb2.mono hb1.size)
      clear hb1 hb2 KA KP hro
      go_wp2_with fail
      (with_reducible refine (KR.out _ hb2').mono ?_)
      rintro e w3 ⟨rfl, hb3⟩
      have HR3 := Lib.hid (HR2.out.bl hb3)
      have hb3' := hb2'.trans (hb3.mono hb2'.size)
      clear hb2' hb3 KR HR2
      go_wp2_with fail
      (with_reducible refine (KQ.out _ hb3').mono ?_)
      rintro e w4 ⟨v4, vs4, rfl, hro4, hb4⟩
      have HR4 := Lib.hid (HR3.out.bl hb4)
      have hb4' := hb3'.trans (hb4.mono hb3'.size)
      have KE := Lib.hid (EqualFunc_yes _ _ _ _ LL vs vs4 w4 HR4.out hro4 (by have := HCO.out; rw [HL.out] at this; omega) (fun k hk => by
        have := HLE.out k (gl LL k) (by unfold gl; simp [hk])
        rw [HL.out] at this; omega))
      obtain ⟨A4, c4, rfl, -, -, -⟩ := own_form hro4.row
      clear hb3' hb4 KQ hro4 HR3
      go_wp2_with fail
      (with_reducible refine KE.out.mono ?_)
      rintro e w5 ⟨rfl, q5, rfl⟩
      have HR5 := Lib.hid (HR4.out.bl (bl_drewN (Below.refl _ w4) q5))
      have HB5 := Lib.hid (bl_drewN hb4' q5)
      clear KE HR4 hb4'
      generalize w4.drewN q5 = w5 at *
      obtain ⟨N, hN⟩ : ∃ N, LL.length = N := ⟨_, rfl⟩
      have hN40 : N ≤ 40 := by have := HCO.out; rw [HL.out] at this; omega
      simp only [hN]
      have HN := Lib.hid hN
      have RA : Hid (Reads w5 w5.heap.size 1 A3 N vs) := Lib.hid (by
        obtain ⟨A', c', e, h, -, -⟩ := own_form HR5.out.row
        cases e
        rw [← hN]; exact h)
      have hc3 : N ≤ c3 := by
        obtain ⟨A', c', e, -, h, -⟩ := own_form HR5.out.row
        cases e
        omega
      have HGL : Hid (∀ k, k < N → LL[k]? = some (gl LL k) ∧ (gl LL k).length ≤ 40) := Lib.hid (fun k hk => by
        have h1 : LL[k]? = some (gl LL k) := by unfold gl; simp [show k < LL.length by omega]
        exact ⟨h1, by have := HLE.out k _ h1; rw [HL.out] at this; omega⟩)
      have HFT : Hid (∀ k, (LL.take k).flatten.length ≤ 40) := Lib.hid (fun k => by have h1 := HTK.out k; have h2 := HFL.out; rw [HL.out] at h2; omega)
      have HTA := Lib.hid (fun k (hk : k < N) => take_flat LL (k := k) (by omega))
      have HEL := Lib.hid (fun k (hk : k < N) => HR5.out.at_ (k := k) (by omega))
      have HEND : Hid ((LL.take N).flatten = LL.flatten) := Lib.hid (by rw [List.take_of_length_le (by omega)])
      obtain ⟨iC, hiC, hzC, hz1C, hzbC⟩ := info_parts Try.infoCell
      have eg := enters_of Try.func12 (by kernel_rfl) rfl
      clear hN HLE HCO HFL HTK HR5
      go_wp2
      go_loopw [5, 45] (fun s5 s45 wq => ∃ k : Nat, k ≤ N ∧ s45 = .int .i64 k ∧ wq.ownsRow w5.heap.size 33 3 s5 (LL.take k).flatten.length (cvs (LL.take k).flatten) ∧ Below w5.heap.size w5 wq) (fun _ i _ => N - (intOf i).toNat)
      case atStart => exact ⟨0, Nat.zero_le _, rfl, own_nil _ _ _ _, Below.refl _ _⟩
      case round =>
        obtain ⟨k, hk, rfl, hown, hb⟩ := hrel
        have HOW := Lib.hid hown
        have HBR := Lib.hid hb
        clear hown hb
        by_cases hlt : k < N
        · obtain ⟨U, d, eU, rU⟩ := HEL.out k hlt
          obtain ⟨b3, o3, rfl, hb3, x3⟩ := Reads.elem1 RA.out eU
          have y3 := (HBR.out.cell (p := ⟨b3, o3 + k, none⟩) hb3).trans x3
          obtain ⟨hgk, hgl⟩ := HGL.out k hlt
          have HTAk := Lib.hid (HTA.out k hlt)
          have hft := HFT.out k
          obtain ⟨F, hF⟩ : ∃ F, (LL.take k).flatten = F := ⟨_, rfl⟩
          obtain ⟨G, hG⟩ : ∃ G, gl LL k = G := ⟨_, rfl⟩
          rw [hF] at HOW HTAk hft
          rw [hG] at HTAk hgk hgl rU y3
          obtain ⟨NF, hNF⟩ : ∃ NF, F.length = NF := ⟨_, rfl⟩
          obtain ⟨NG, hNG⟩ : ∃ NG, G.length = NG := ⟨_, rfl⟩
          rw [hNF] at HOW hft
          rw [hNG] at hgl rU y3
          have HNF := Lib.hid hNF
          have HNG := Lib.hid hNG
          have HGK := Lib.hid hgk
          have RU5 := Lib.hid rU
          have hzb := HBR.out.size
          have RU := Lib.hid ((rU.below HBR.out).more hzb)
          clear hF hG hNF hNG hgk rU x3 eU
          obtain ⟨A5, hA5⟩ : ∃ A5 : Option Addr, (if c3 = k + 1 then some ⟨b3, o3, none⟩ else some ⟨b3, o3 + (k + 1), none⟩) = A5 := ⟨_, rfl⟩
          have hsl : ∀ W, (Instr.slice 24 (.slice (some ⟨b3, o3, none⟩) N c3) (some (.int .i64 ((k : Int) + 1))) none none).run Try.prog W = .ok (.slice A5 (N - (k + 1)) (c3 - (k + 1))) W := fun W => by
            rw [run_slice_l W 24 (some ⟨b3, o3, none⟩) N c3 Try.underlying24 .i64 ((k : Int) + 1) (by omega) (by omega)]
            have e1 : ((k : Int) + 1).toNat = k + 1 := by omega
            simp [go_sem, ← hA5, Addr.add, e1]
          have RT := Lib.hid (RA.out.tail1 (A5 := A5) hlt hc3 (fun h => by rw [← hA5, if_neg h]; simp [Addr.add]))
          clear hA5
          obtain ⟨M, hM⟩ : ∃ M, N - (k + 1) = M := ⟨_, rfl⟩
          rw [hM] at RT
          simp only [hM] at hsl
          have HM := Lib.hid hM
          clear hM
          go_wp2_with (at_builtin; first
            | (refine wpList_append_any _ rfl (.tmp 50) (.tmp 51) _ rfl w5.heap.size 33 iC _ 3 24 Try.underlying22 hiC hzC hz1C hzbC rfl (by decide) _ NF (cvs F) rfl HOW.out wr.heap.size U NG d (cvs G) rfl RU.out (cvs_one _) (by simp only [maxLen]; omega) (by omega) hzb ?_; intro v7 w7 hown7 hg7 hat7; have b7 := HBR.out.grown hg7 hzb (own_base HOW.out))
            | fail)
          have HO7 := Lib.hid hown7
          have HB7 := Lib.hid b7
          clear hown7 hg7 hat7 b7 HOW HBR RU y3 hsl hzb
          go_loopw [58] (fun s58 wq => ∃ j : Nat, j ≤ M ∧ s58 = .int .i64 j ∧ Below w7.heap.size w7 wq) (fun i _ => M - (intOf i).toNat)
          case atStart => exact ⟨0, Nat.zero_le _, rfl, Below.refl _ _⟩
          case round =>
            obtain ⟨j, hj, rfl, hb⟩ := hrel
            have HBJ := Lib.hid hb
            clear hb
            by_cases hjm : j < M
            · have hkj : k + 1 + j < N := by have := HM.out; omega
              obtain ⟨U2, d2, eU2, rU2⟩ := HEL.out (k + 1 + j) hkj
              obtain ⟨hg2, hgl2⟩ := HGL.out (k + 1 + j) hkj
              obtain ⟨b4, o4, e4, hb4, x4⟩ := Reads.elem1 RT.out (k := j) (by rw [List.getElem?_drop]; exact eU2)
              subst e4
              have hz7 := HB7.out.size
              have y4 := ((HB7.out.trans (HBJ.out.mono hz7)).cell (p := ⟨b4, o4 + j, none⟩) hb4).trans x4
              obtain ⟨G2, hG2⟩ : ∃ G2, gl LL (k + 1 + j) = G2 := ⟨_, rfl⟩
              rw [hG2] at hg2 hgl2 rU2 y4
              obtain ⟨N2, hN2⟩ : ∃ N2, G2.length = N2 := ⟨_, rfl⟩
              rw [hN2] at hgl2 rU2 y4
              have RU2 := Lib.hid rU2
              have HG2 := Lib.hid hg2
              clear x4 eU2 rU2 hg2 hG2 hN2
              go_wp2
              clear y4
              go_loopw [64] (fun s64 wq => ∃ q : Nat, q ≤ NG ∧ s64 = .int .i64 q ∧ Below w7.heap.size w7 wq) (fun i _ => NG - (intOf i).toNat)
              case atStart => exact ⟨0, Nat.zero_le _, rfl, HBJ.out⟩
              case round =>
                obtain ⟨q, hq, rfl, hb⟩ := hrel
                have HBQ := Lib.hid hb
                clear hb
                by_cases hqn : q < NG
                · obtain ⟨b6, o6, e6, hb6, z1, z2, z3⟩ := RU5.out.elem hqn
                  subst e6
                  have bq := HB7.out.trans (HBQ.out.mono hz7)
                  have y1 := (bq.cell (p := ⟨b6, o6 + q * 3, none⟩) hb6).trans z1
                  have y2 := (bq.cell (p := ⟨b6, o6 + q * 3 + 1, none⟩) hb6).trans z2
                  have y3 := (bq.cell (p := ⟨b6, o6 + q * 3 + 2, none⟩) hb6).trans z3
                  have hmem := gt_mem G q (by rw [HNG.out]; exact hqn)
                  have hbz := bq.size
                  obtain ⟨X, hX⟩ : ∃ X, gt G q = X := ⟨_, rfl⟩
                  rw [hX] at y1 y2 y3 hmem
                  have KC := Lib.hid (contIn_any 12 #[.pointer (some ⟨wr.heap.size, 0, none⟩)] (fun y => tchB (bxI X) (bxI y)) eg U2 N2 d2 G2 (wr.alloc (.cells #[.int .i64 X.1, .int .i64 X.2.1, .int .i64 X.2.2] 33))
                    (((RU2.out.below bq).more (by omega)).alloc (Nat.le_refl _) _ |>.more (by simp)) (by simp only [maxLen]; omega)
                    (fun W y hy hW => clos_any wr.heap.size X y (HME.out k G HGK.out X hmem) (HME.out (k + 1 + j) G2 HG2.out y hy) W ((K3.mk (W := wr.alloc (.cells #[.int .i64 X.1, .int .i64 X.2.1, .int .i64 X.2.2] 33)) (g := wr.heap.size) (x := X) (by simp) (by simp) (by simp) (by simp)).below hW (by simp))))
                  have hany : (G2.any fun y => tchB (bxI X) (bxI y)) = false := by
                    rw [List.any_eq_false]
                    intro y hy
                    rw [HAP.out k (k + 1 + j) G G2 HGK.out HG2.out (by omega) X y hmem hy]
                    decide
                  rw [hany] at KC
                  clear hany hmem hX z1 z2 z3
                  obtain ⟨cl, cr, cc⟩ := X
                  simp only [] at y1 y2 y3 KC
                  have hb9' := HBQ.out.alloc (by have := HBQ.out.size; omega) (.cells #[.int .i64 cl, .int .i64 cr, .int .i64 cc] 33)
                  have HB9 := Lib.hid hb9'
                  clear hb9' bq hbz
                  go_wp2_with fail
                  (with_reducible refine KC.out.mono ?_)
                  rintro e w9 ⟨rfl, hb9⟩
                  go_wp2
                  go_roundw
                  case rel => exact ⟨q + 1, by omega, by go_num, HB9.out.trans (hb9.mono HB9.out.size)⟩
                  case measure => simp [intOf]; omega
                · obtain rfl : q = NG := by omega
                  go_wp2
                  go_roundw
                  case rel => exact ⟨j + 1, by omega, by go_num, HBQ.out⟩
                  case measure => simp [intOf]; omega
            · obtain rfl : j = M := by omega
              go_wp2
              go_roundw
              case rel =>
                refine ⟨k + 1, by omega, by go_num, ?_, HB7.out.trans (HBJ.out.mono HB7.out.size)⟩
                rw [HTAk.out, List.length_append, HNF.out, HNG.out, cvs_append]
                exact own_bl HO7.out HBJ.out (Nat.le_refl _)
              case measure => simp [intOf]; omega
        · obtain rfl : k = N := by omega
          rw [HEND.out] at HOW
          obtain ⟨A8, c8, hv8, r8, -, -⟩ := own_form HOW.out
          subst hv8
          have h8 := HFT.out k
          rw [HEND.out] at h8
          have KT := Lib.hid (Tidy_any A8 LL.flatten.length c8 LL.flatten wr r8 (by simp only [maxLen]; omega))
          rw [HTP.out.1, HTP.out.2] at KT
          have HBW := Lib.hid (HB5.out.trans (HBR.out.mono HB5.out.size))
          clear HOW HBR r8
          generalize LL.flatten.length = n8 at *
          go_wp2_with fail
          (with_reducible refine KT.out.mono ?_)
          rintro e w8 ⟨v9, rfl, hown9, hb9⟩
          obtain ⟨A9, c9, hv9, r9, -, -⟩ := own_form hown9
          subst hv9
          have HB8 := Lib.hid (HBW.out.trans (hb9.mono HBW.out.size))
          have KE := Lib.hid (Equal_any A9 A L.length n c9 ca L L w8 _ _ r9 (HRD.out _ HB8.out) (by rw [HL.out]; simp only [maxLen]; omega) (by simp only [maxLen]; omega))
          rw [decide_eq_true (rfl : L = L)] at KE
          clear hown9 r9 hb9 HBW KT
          go_wp2_with fail
          (with_reducible refine KE.out.mono ?_)
          rintro e w10 ⟨rfl, q10, rfl⟩
          go_wp2
          go_ret
          exact ⟨ret_bool (by simp), bl_drewN HB8.out _⟩
  · have h40' : (40 : Int) < (n : Int) := by omega
    clear RD hr hvb hl KR KP
    unfold maxLen at hca hnm
    go_enter Try.func3, Try.ntmps3
    go_wp2_with fail
    (with_reducible refine (KA.out _).mono ?_)
    rintro e w1 ⟨rfl, hb1⟩
    go_wp2
    go_ret
    exact ⟨rfl, hb1⟩
end Go.Proofs.Ytopfnffabaiceaa
namespace Go.Proofs.Ytopfnffabaiceaa
open Go.ChangeShapes Go.WideShapes Go.ChangeAt Go.RowKit
theorem Try.own : ownKnob Try.prog.godebug = none := by kernel_rfl
section
variable {H : Type} {enc : TypeId × Value → H} {P : Program}
theorem post_of_below {f : Func} {s : ChangeSpec} {apart fresh handsOn again : Bool} {W W' : World} {args : Array Value} {v : Value} {ds gs : List (DataW H)} {before pa pv : List MemPlace}
    (hW : DataW.Whole enc P f.params.toList s.vars apart W args.toList ds gs before)
    (hres : ∀ (b : Nat) (sp : Nat → Bool) (hd : Bool), DataW.TrodAll enc P W' b sp hd f.resultTypes.toList (v.resultList f.resultTypes.size) (s.fn H (ds ++ gs)).results [])
    (hargs : ∀ sp : Nat → Bool, (∀ p ∈ before, sp p.block = true) → DataW.TrodAll enc P W' 0 sp true f.params.toList args.toList (s.fn H (ds ++ gs)).args pa)
    (hvars : ∀ sp : Nat → Bool, (∀ p ∈ before, sp p.block = true) → DataW.TrodVars enc P W' sp s.vars (s.fn H (ds ++ gs)).vars pv)
    (hps : before = pa ++ pv) (hb : Below W.heap.size W W')
    (hok : ∀ (j : Nat) (t : TypeId) (r : Value), f.resultTypes[j]? = some t → (v.resultList f.resultTypes.size)[j]? = some r → Value.okWide P W' .any 0 t r) :
    s.post enc P f apart fresh handsOn again W args v W' := by
  have hlt : ∀ p ∈ before, p.block < W.heap.size := fun p hp => hW.lt p hp
  have hold : ∀ p ∈ before, (fun b => decide (b < W.heap.size)) p.block = true := fun p hp => by simpa using hlt p hp
  refine ⟨ds, gs, before, [], pa, pv, hW, hres _ _ _, hargs _ hold, hvars _ hold, World.keptBut_mono (fun p hp => ⟨hp, ?_⟩) (hb.frame (· ∈ before)), fun _ => ?_⟩
  · rw [hps, List.mem_append] at hp
    exact Or.inr hp
  · obtain ⟨_, _, _, _, _, hz, hn⟩ := hW
    refine ⟨hok, _, _, ([] ++ pa) ++ pv, ⟨[] ++ pa, pv, trodAll_append (hargs _ (fun _ _ => rfl)) (hres _ _ _), hvars _ (fun _ _ => rfl), rfl, ?_, ?_⟩, ?_⟩
    · intro b off hp
      have hin : MemPlace.cell b off ∈ before := by rw [hps]; simpa using hp
      rw [hb.frozen (hlt _ hin)]
      exact hz b off hin
    · intro ha
      have := hn ha
      rw [hps] at this
      simpa using this
    · intro p hp _
      rw [hps]
      simpa using hp
end
end Go.Proofs.Ytopfnffabaiceaa
