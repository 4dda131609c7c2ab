/- Arguments that are places, circles, and slices of circles. -/
import Derived.Test.YtpemohoibeipfaaGreatRows
import Derived.Below
import Derived.ProofKit
import Derived.Lib.SmallJoins
import Derived.Deep.Slices
import Derived.Deep.Strs
import Derived.Deep.Fields
import Derived.ChangeSame
import Derived.Carry
import Derived.Test.YtpemohoibeipfaaGreatHNn
import Derived.Test.YtpemohoibeipfaaGreatHSf
import Derived.Test.YtpemohoibeipfaaGreatHUa
import Derived.Test.YtpemohoibeipfaaGreatHKt
set_option linter.unusedVariables false
set_option linter.unusedSimpArgs false
namespace Go.Proofs.YtpemohoibeipfaaGreat
open Go.RowKit
set_option maxHeartbeats 8000000 in
set_option maxRecDepth 100000 in
theorem regionLevels_any (A : Option Addr) (n c : Nat) (K : List Ci) (Al : Option Addr) (nl cl : Nat) (L : List Cl) (lv fn : Int) (w : World) (hrd : Reads w w.heap.size 6 A n (civs K)) (hnc : n ≤ c) (hcm : c ≤ maxLen) (hrl : Reads w w.heap.size 3 Al nl (cvs L)) (hnl : nl ≤ cl) (hcl : cl ≤ maxLen)
    (l0 : 0 ≤ lv) (l1 : lv ≤ 255) (f0 : 0 ≤ fn) (f1 : fn ≤ 255) :
    Calls Tryz.prog 5 #[.slice A n c, .slice Al nl cl, .int .u8 lv, .int .u8 fn] w fun e w' => e = .returned (.bool true) ∧ Below w.heap.size w w' := by
  have hkn := hrd.lenC
  have hln := hrl.len
  have KA := Lib.hid awake39
  obtain ⟨lev, hlev⟩ : ∃ k : Int, lv % 17 = k := ⟨_, rfl⟩
  obtain ⟨fin4, hfin⟩ : ∃ k : Int, fn % 4 = k := ⟨_, rfl⟩
  have b0 : 0 ≤ lev ∧ lev ≤ 16 := by omega
  have b1 : 0 ≤ fin4 ∧ fin4 ≤ 3 := by omega
  have t0 : lv.tmod 17 = lev := by rw [Int.tmod_eq_emod_of_nonneg l0]; exact hlev
  have t1 : fn.tmod 4 = fin4 := by rw [Int.tmod_eq_emod_of_nonneg f0]; exact hfin
  have u0 : wrap64 lv = lv := IntWalk.wrap64_in _ (by omega)
  have u1 : wrap64 fn = fn := IntWalk.wrap64_in _ (by omega)
  have u2 : wrap64 lev = lev := IntWalk.wrap64_in _ (by omega)
  have u3 : wrap64 fin4 = fin4 := IntWalk.wrap64_in _ (by omega)
  have u4 : wrap64 (lev + fin4) = lev + fin4 := IntWalk.wrap64_in _ (by omega)
  obtain ⟨mm, hmm⟩ : ∃ k : Int, min 16 (lev + fin4) = k := ⟨_, rfl⟩
  have bm : lev ≤ mm ∧ mm ≤ 16 ∧ 0 ≤ mm := by omega
  clear hlev hfin
  by_cases c1 : 4 < n
  · have d1 : decide ((4 : Int) < (n : Int)) = true := decide_eq_true (by omega)
    clear hrd hrl
    go_enter Tryz.func5, Tryz.ntmps5
    go_wp2_with fail
    (with_reducible refine (KA.out _).mono ?_)
    rintro e w1 ⟨rfl, hb1⟩
    have B1 := Lib.hid hb1
    clear hb1 KA
    go_wp2
    go_ret
    exact ⟨rfl, B1.out⟩
  have d1 : decide ((4 : Int) < (n : Int)) = false := decide_eq_false (by omega)
  by_cases c2 : 100 < nl
  · have d2 : decide ((100 : Int) < (nl : Int)) = true := decide_eq_true (by omega)
    clear hrd hrl
    go_enter Tryz.func5, Tryz.ntmps5
    go_wp2_with fail
    (with_reducible refine (KA.out _).mono ?_)
    rintro e w1 ⟨rfl, hb1⟩
    have B1 := Lib.hid hb1
    clear hb1 KA
    go_wp2
    go_ret
    exact ⟨rfl, B1.out⟩
  have d2 : decide ((100 : Int) < (nl : Int)) = false := decide_eq_false (by omega)
  have RD : Hid (∀ W, Below w.heap.size w W → Reads W W.heap.size 6 A n (civs K)) := Lib.hid fun W h => (hrd.below h).more h.size
  have RL : Hid (∀ W, Below w.heap.size w W → Reads W W.heap.size 3 Al nl (cvs L)) := Lib.hid fun W h => (hrl.below h).more h.size
  have KV := fun (W : World) (h : Below w.heap.size w W) => rValid39_any A n c K W (RD.out W h) (by simp only [maxLen]; omega)
  have KR := fun (W : World) (h : Below w.heap.size w W) => refVR_any Al nl cl L W (RL.out W h) hnl hcl
  rw [rvrB_eq] at KR
  have KF := Lib.hid (fun (W : World) (h : Below w.heap.size w W) => rFine_any Al nl cl L lev W (RL.out W h) (by simp only [maxLen]; omega))
  clear hrd hrl
  cases hvk : K.all vciB with
  | false =>
    rw [hvk] at KV
    have KV := Lib.hid KV
    clear KR KF
    go_enter Tryz.func5, Tryz.ntmps5
    go_wp2_with fail
    (with_reducible refine (KA.out _).mono ?_)
    rintro e w1 ⟨rfl, hb1⟩
    have B1 := Lib.hid hb1
    have KV2 := Lib.hid (KV.out w1 hb1)
    clear hb1 KA KV
    go_wp2_with fail
    (with_reducible refine (KV2.out).mono ?_)
    rintro e w2 ⟨rfl, hb2⟩
    have B2 := Lib.hid (B1.out.trans (hb2.mono B1.out.size))
    clear hb2
    go_wp2
    go_ret
    exact ⟨rfl, B2.out⟩
  | true =>
  have hK : ∀ k ∈ K, VCi k := fun k hk => (vciB_iff k).1 (List.all_eq_true.1 hvk k hk)
  rw [hvk] at KV
  have KV := Lib.hid KV
  cases hvl : vrB L with
  | false =>
    rw [hvl] at KR
    have KR := Lib.hid KR
    clear KF
    go_enter Tryz.func5, Tryz.ntmps5
    go_wp2_with fail
    (with_reducible refine (KA.out _).mono ?_)
    rintro e w1 ⟨rfl, hb1⟩
    have B1 := Lib.hid hb1
    have KV2 := Lib.hid (KV.out w1 hb1)
    clear hb1 KA KV
    go_wp2_with fail
    (with_reducible refine (KV2.out).mono ?_)
    rintro e w2 ⟨rfl, hb2⟩
    have B2 := Lib.hid (B1.out.trans (hb2.mono B1.out.size))
    have KR2 := Lib.hid (KR.out w2 B2.out)
    clear hb2 KR KV2
    go_wp2_with fail
    (with_reducible refine (KR2.out).mono ?_)
    rintro e w3 ⟨rfl, hb3⟩
    have B3 := Lib.hid (B2.out.trans (hb3.mono B2.out.size))
    clear hb3
    go_wp2
    go_ret
    exact ⟨rfl, B3.out⟩
  | true =>
  rw [hvl] at KR
  have KR := Lib.hid KR
  cases hfi : (L.any fun x => decide (lev < x.1)) with
  | true =>
    rw [hfi] at KF
    go_enter Tryz.func5, Tryz.ntmps5
    go_wp2_with fail
    (with_reducible refine (KA.out _).mono ?_)
    rintro e w1 ⟨rfl, hb1⟩
    have B1 := Lib.hid hb1
    have KV2 := Lib.hid (KV.out w1 hb1)
    clear hb1 KA KV
    go_wp2_with fail
    (with_reducible refine (KV2.out).mono ?_)
    rintro e w2 ⟨rfl, hb2⟩
    have B2 := Lib.hid (B1.out.trans (hb2.mono B1.out.size))
    have KR2 := Lib.hid (KR.out w2 B2.out)
    clear hb2 KR KV2
    go_wp2_with fail
    (with_reducible refine (KR2.out).mono ?_)
    rintro e w3 ⟨rfl, hb3⟩
    have B3 := Lib.hid (B2.out.trans (hb3.mono B2.out.size))
    have KF2 := Lib.hid (KF.out w3 B3.out)
    clear hb3 KF KR2
    go_wp2_with fail
    (with_reducible refine (KF2.out).mono ?_)
    rintro e w4 ⟨rfl, hb4⟩
    have B4 := Lib.hid (B3.out.trans (hb4.mono B3.out.size))
    clear hb4
    go_wp2
    go_ret
    exact ⟨rfl, B4.out⟩
  | false =>
  rw [hfi] at KF
  obtain ⟨hLV, hT⟩ := vr_td hvl
  have hflev : ∀ x ∈ L, x.1 ≤ lev := fun x hx => by
    have := List.any_eq_false.1 hfi x hx
    simpa using this
  have KO := Lib.hid (fun (W : World) (h : Below w.heap.size w W) => rOf_any K A n c L Al nl cl mm 300 W hK (by omega) (RD.out W h) (RL.out W h) hnl hcl hvl bm.2.2 bm.2.1 (by decide) (by decide))
  have KOf := Lib.hid (fun (W : World) (h : Below w.heap.size w W) (lx : Int) (h0 : 0 ≤ lx) (h16 : lx ≤ 16) (hc : prN (agP K) (suP K) lx L ≤ 4000) => Of39_yes K A n c L Al nl cl lx W hK (by omega) (RD.out W h) (RL.out W h) hvl h0 h16 hc)
  have HV := Lib.hid hvl
  have HKV := Lib.hid hK
  have HLV := Lib.hid hLV
  have HTT := Lib.hid hT
  have HFL := Lib.hid hflev
  clear hvk hvl hfi hK hLV hT hflev RL hln hkn
  go_enter Tryz.func5, Tryz.ntmps5
  go_wp2_with fail
  (with_reducible refine (KA.out _).mono ?_)
  rintro e w1 ⟨rfl, hb1⟩
  have B1 := Lib.hid hb1
  have KV2 := Lib.hid (KV.out w1 hb1)
  clear hb1 KA KV
  go_wp2_with fail
  (with_reducible refine (KV2.out).mono ?_)
  rintro e w2 ⟨rfl, hb2⟩
  have B2 := Lib.hid (B1.out.trans (hb2.mono B1.out.size))
  have KR2 := Lib.hid (KR.out w2 B2.out)
  clear hb2 KR KV2
  go_wp2_with fail
  (with_reducible refine (KR2.out).mono ?_)
  rintro e w3 ⟨rfl, hb3⟩
  have B3 := Lib.hid (B2.out.trans (hb3.mono B2.out.size))
  have KF2 := Lib.hid (KF.out w3 B3.out)
  clear hb3 KF KR2
  go_wp2_with fail
  (with_reducible refine (KF2.out).mono ?_)
  rintro e w4 ⟨rfl, hb4⟩
  have B4 := Lib.hid (B3.out.trans (hb4.mono B3.out.size))
  have KO2 := Lib.hid (KO.out w4 B4.out)
  clear hb4 KO KF2 B1 B2 B3
  go_wp2_with fail
  (with_reducible refine (KO2.out).mono ?_)
  rintro e w5 ⟨v5, E5, rfl, hb5, he5⟩
  have B5 := Lib.hid (B4.out.trans (hb5.mono B4.out.size))
  clear hb5 KO2 B4
  by_cases hE : E5 = 0
  · subst hE
    have hcm' := he5 rfl
    have hcm2 : prN (agP K) (suP K) mm L ≤ 300 := by omega
    have hcl2 : prN (agP K) (suP K) lev L ≤ 300 := Nat.le_trans (prN_level bm.1 L) hcm2
    obtain ⟨r1, r2, r3⟩ := prA_refine (ag := agP K) (su := suP K) bm.2.1 bm.1 HLV.out HTT.out
    have hva := prA_v (ag := agP K) (su := suP K) b0.2 HLV.out
    have hvb := prA_v (ag := agP K) (su := suP K) bm.2.1 HLV.out
    obtain ⟨a, ha⟩ : ∃ a, canonC (covL (prA (agP K) (suP K) lev L)) = a := ⟨_, rfl⟩
    obtain ⟨b, hb⟩ : ∃ b, canonC (covL (prA (agP K) (suP K) mm L)) = b := ⟨_, rfl⟩
    have hra : vrB a = true := by rw [← ha]; exact can_vr hva.1 (by have := hva.2.2.1; omega)
    have hrb : vrB b = true := by rw [← hb]; exact can_vr hvb.1 (by have := hvb.2.2.1; omega)
    have hla : a.length ≤ 300 := by rw [← ha]; have := can_pr (K := K) HLV.out b0.2; omega
    have hlb : b.length ≤ 300 := by rw [← hb]; have := can_pr (K := K) HLV.out bm.2.1; omega
    have hins : insL b a = true := by
      rw [← ha, ← hb, ins_can hvb.1 hva.1]
      intro q hq
      exact prA_less bm.2.1 bm.1 (fun _ h => h) (fun _ h => h) HLV.out hq
    rw [ha] at r1 r2 r3
    have hsame : canonC (covL (prA (agP K) (suP K) mm a)) = b := by rw [← hb]; exact canonC_congr r1
    have hfa : ∀ y ∈ a, y.1 ≤ mm := fun y hy => by
      obtain ⟨x, hx, hle⟩ := r3 y hy
      have := HFL.out x hx
      omega
    have hca : prN (agP K) (suP K) mm a ≤ 90000 := by
      refine Nat.le_trans r2 ?_
      exact Nat.le_trans (Nat.mul_le_mul hcl2 hcm2) (by decide)
    have K1 := fun W h => KOf.out W h lev b0.1 b0.2 (by omega)
    have K2 := fun W h => KOf.out W h mm bm.2.2 bm.2.1 (by omega)
    rw [ha] at K1
    rw [hb] at K2
    have K1 := Lib.hid (K1 w5 B5.out)
    have K2 := Lib.hid K2
    have K3 := Lib.hid (fun (W : World) (h : Below w.heap.size w W) (Aa : Option Addr) (ca : Nat) (hr : Reads W W.heap.size 3 Aa a.length (cvs a)) => Refine39_yes K A n c a Aa a.length ca mm W HKV.out (by omega) (RD.out W h) hr hra bm.2.2 bm.2.1 hfa hca (by rw [hsame]; omega))
    rw [hsame] at K3
    have HINS := Lib.hid hins
    have HRA := Lib.hid hra
    have HRB := Lib.hid hrb
    clear r1 r2 r3 hva hvb ha hb hra hrb hins hsame hfa hca hcm' hcm2 hcl2 he5 KOf HLV HTT HFL HKV RD HV
    go_wp2_with fail
    (with_reducible refine (K1.out).mono ?_)
    rintro e w6 ⟨v6, rfl, ho6, hb6⟩
    have B6 := Lib.hid (B5.out.trans (hb6.mono B5.out.size))
    obtain ⟨Aa, ca, rfl, hraa, -, -⟩ := own_form ho6
    have RA := Lib.hid hraa
    have K22 := Lib.hid (K2.out w6 B6.out)
    clear ho6 hraa hb6 K1 K2
    go_wp2_with fail
    (with_reducible refine (K22.out).mono ?_)
    rintro e w7 ⟨v7, rfl, ho7, hb7⟩
    have B7 := Lib.hid (B6.out.trans (hb7.mono B6.out.size))
    obtain ⟨Ab, cb, rfl, hrbb, -, -⟩ := own_form ho7
    have RB := Lib.hid hrbb
    have RA7 := Lib.hid ((RA.out.below hb7).more hb7.size)
    have K32 := Lib.hid (K3.out w7 B7.out Aa ca RA7.out)
    clear ho7 hrbb hb7 K22 K3 RA B5 B6
    go_wp2_with fail
    (with_reducible refine (K32.out).mono ?_)
    rintro e w8 ⟨v8, rfl, ho8, hb8⟩
    have B8 := Lib.hid (B7.out.trans (hb8.mono B7.out.size))
    obtain ⟨Ac, cc, rfl, hrcc, -, -⟩ := own_form ho8
    have RA8 := Lib.hid ((RA7.out.below hb8).more hb8.size)
    have RB8 := Lib.hid ((RB.out.below hb8).more hb8.size)
    have KE := Equal_any Ab Ac b.length b.length cb cc b b w8 _ _ RB8.out hrcc (by simp only [maxLen]; omega) (by simp only [maxLen]; omega)
    rw [decide_eq_true (rfl : b = b)] at KE
    have KE := Lib.hid KE
    clear ho8 hrcc hb8 K32 RA7 RB B7
    go_wp2_with fail
    (with_reducible refine (KE.out).mono ?_)
    rintro e w9 ⟨rfl, q9, rfl⟩
    have B9 := Lib.hid (bl_drewN B8.out q9)
    have KI := Inside_any Ab Aa b.length a.length cb ca b a (w8.drewN q9) (RB8.out.drewN q9) (RA8.out.drewN q9) (by simp only [maxLen]; omega) (by simp only [maxLen]; omega) HRB.out HRA.out
    rw [HINS.out] at KI
    have KI := Lib.hid KI
    clear KE
    go_wp2_with fail
    (with_reducible refine (KI.out).mono ?_)
    rintro e w10 ⟨rfl, hb10⟩
    have B10 := Lib.hid (B9.out.trans (hb10.mono B9.out.size))
    clear hb10
    go_wp2
    go_ret
    exact ⟨rfl, B10.out⟩
  · have hbe : (E5 != 0) = true := by simpa using hE
    clear hE he5
    go_wp2
    go_ret
    exact ⟨rfl, B5.out⟩
end Go.Proofs.YtpemohoibeipfaaGreat
namespace Go.Proofs.YtpemohoibeipfaaGreat
open Go.ChangeShapes Go.WideShapes Go.ChangeAt Go.RowKit
theorem Tryz.own : ownKnob Tryz.prog.godebug = none := by kernel_rfl
section
variable {H : Type} {enc : TypeId × Value → H} {P : Program}
theorem post_of_below {f : Func} {s : ChangeSpec} {apart fresh handsOn again : Bool} {W W' : World} {args : Array Value} {v : Value} {ds gs : List (DataW H)} {before pa pv : List MemPlace}
    (hW : DataW.Whole enc P f.params.toList s.vars apart W args.toList ds gs before)
    (hres : ∀ (b : Nat) (sp : Nat → Bool) (hd : Bool), DataW.TrodAll enc P W' b sp hd f.resultTypes.toList (v.resultList f.resultTypes.size) (s.fn H (ds ++ gs)).results [])
    (hargs : ∀ sp : Nat → Bool, (∀ p ∈ before, sp p.block = true) → DataW.TrodAll enc P W' 0 sp true f.params.toList args.toList (s.fn H (ds ++ gs)).args pa)
    (hvars : ∀ sp : Nat → Bool, (∀ p ∈ before, sp p.block = true) → DataW.TrodVars enc P W' sp s.vars (s.fn H (ds ++ gs)).vars pv)
    (hps : before = pa ++ pv) (hb : Below W.heap.size W W')
    (hok : ∀ (j : Nat) (t : TypeId) (r : Value), f.resultTypes[j]? = some t → (v.resultList f.resultTypes.size)[j]? = some r → Value.okWide P W' .any 0 t r) :
    s.post enc P f apart fresh handsOn again W args v W' := by
  have hlt : ∀ p ∈ before, p.block < W.heap.size := fun p hp => hW.lt p hp
  have hold : ∀ p ∈ before, (fun b => decide (b < W.heap.size)) p.block = true := fun p hp => by simpa using hlt p hp
  refine ⟨ds, gs, before, [], pa, pv, hW, hres _ _ _, hargs _ hold, hvars _ hold, World.keptBut_mono (fun p hp => ⟨hp, ?_⟩) (hb.frame (· ∈ before)), fun _ => ?_⟩
  · rw [hps, List.mem_append] at hp
    exact Or.inr hp
  · obtain ⟨_, _, _, _, _, hz, hn⟩ := hW
    refine ⟨hok, _, _, ([] ++ pa) ++ pv, ⟨[] ++ pa, pv, trodAll_append (hargs _ (fun _ _ => rfl)) (hres _ _ _), hvars _ (fun _ _ => rfl), rfl, ?_, ?_⟩, ?_⟩
    · intro b off hp
      have hin : MemPlace.cell b off ∈ before := by rw [hps]; simpa using hp
      rw [hb.frozen (hlt _ hin)]
      exact hz b off hin
    · intro ha
      have := hn ha
      rw [hps] at this
      simpa using this
    · intro p hp _
      rw [hps]
      simpa using hp
end
end Go.Proofs.YtpemohoibeipfaaGreat
namespace Go.Proofs.YtpemohoibeipfaaGreat
open Go.ChangeShapes Go.WideShapes Go.ChangeAt Go.RowKit Go.Deep
section
variable {H : Type} {enc : TypeId × Value → H} {P : Program} {w : World} {base : Nat} {spare : Nat → Bool} {held : Bool}
theorem open_three {t : TypeId} {f0 f1 f2 : Field} {cs : List Value} {x : DataW H × List MemPlace} {fuel : Nat} (hs : P.underlying t = some (.struct #[f0, f1, f2])) (hone : oneCellFields P #[f0, f1, f2] = true)
    (h : DataW.trod enc P w base spare held fuel t cs = some x) (hl : cs.length = 3) :
    ∃ c0 c1 c2 y0 y1 y2 n, cs = [c0, c1, c2] ∧ DataW.trod enc P w base spare held n f0.type [c0] = some y0 ∧ DataW.trod enc P w base spare held n f1.type [c1] = some y1 ∧ DataW.trod enc P w base spare held n f2.type [c2] = some y2 := by
  obtain ⟨y0, y1, y2, n, _, _, h0, h1, h2⟩ := trod_struct3 hs h
  obtain ⟨o0, k0⟩ := hone_of hone 0 f0 rfl
  obtain ⟨o1, k1⟩ := hone_of hone 1 f1 rfl
  obtain ⟨o2, k2⟩ := hone_of hone 2 f2 rfl
  match cs, hl with
  | [c0, c1, c2], _ => exact ⟨c0, c1, c2, y0, y1, y2, n, rfl, by simpa [o0, k0] using h0, by simpa [o1, k1] using h1, by simpa [o2, k2] using h2⟩
end
theorem Tryz.cells3 : Tryz.prog.cellsOf 58 = 3 := by kernel_rfl
theorem cvs_map (f : Nat → Cl) : ∀ (n j : Nat), (cvs ((List.range n).map f))[j]? = if j < n * 3 then (cv (f (j / 3)))[j % 3]? else none := by
  intro n
  induction n with
  | zero => intro j; simp [cvs]
  | succ n ih =>
    intro j
    rw [List.range_succ, List.map_append, cvs_append, List.getElem?_append, cvs_length, List.length_map, List.length_range]
    by_cases h : j < n * 3
    · rw [if_pos h, ih, if_pos h, if_pos (by omega)]
    · rw [if_neg h]
      by_cases h2 : j < (n + 1) * 3
      · rw [if_pos h2]
        have e1 : j / 3 = n := by omega
        have e2 : j - n * 3 = j % 3 := by omega
        rw [e1, e2]
        simp [cvs]
      · rw [if_neg h2]
        simp [cvs, cv]
        omega
set_option maxRecDepth 100000 in
theorem open_cells {H : Type} {enc : TypeId × Value → H} {W : World} {v : Value} {d : DataW H} {ps : List MemPlace} {r : Reach} {b0 : Nat} (hv : Value.okWide Tryz.prog W r b0 26 v)
    (h : DataW.Trod enc Tryz.prog W 0 (fun _ => true) true 26 v d ps) :
    ∃ A n ca L, v = .slice A n ca ∧ Reads W W.heap.size 3 A n (cvs L) ∧ n ≤ ca ∧ ca ≤ maxLen := by
  obtain ⟨a, len, cap, rfl⟩ := okWide_slice Tryz.underlying26 hv
  obtain ⟨fu, hf⟩ := h
  have hf' : DataW.trod enc Tryz.prog W 0 (fun _ => true) true fu 26 [.slice a len cap] = some (d, ps) := by simpa [Value.cells] using hf
  rcases open_slice Tryz.underlying26 hf' with ⟨h0, -⟩ | ⟨a', len', cap', m, n, D, Pl, hcs, hb, hl, hm, hmm, hx, hi⟩
  · cases h0
    exact ⟨none, 0, 0, [], rfl, Reads.none_, Nat.le_refl _, by simp [maxLen]⟩
  · cases hcs
    simp only [if_true] at hmm
    subst hmm
    have one : ∀ i, i < len → ∃ x : Cl, ∀ j, j < 3 → W.cell? (a'.add (i * 3 + j)) = (cv x)[j]? := by
      intro i hil
      obtain ⟨cs, hc, ht⟩ := hi i (by omega)
      rw [Tryz.cells3] at hc
      obtain ⟨_, hcl, hat⟩ := World.cells?_some hc
      obtain ⟨c0, c1, c2, y0, y1, y2, n', rfl, h0, h1, h2⟩ := open_three Tryz.underlying58 (by kernel_rfl) ht hcl
      obtain ⟨l, e0, -, -⟩ := DataW.trod_int Tryz.underlying3 h0
      obtain ⟨r, e1, -, -⟩ := DataW.trod_int Tryz.underlying3 h1
      obtain ⟨c, e2, -, -⟩ := DataW.trod_int Tryz.underlying3 h2
      cases e0
      cases e1
      cases e2
      refine ⟨(l, r, c), fun j hj => ?_⟩
      rw [← Go.Deep.add_add, hat j hj]
      rfl
    obtain ⟨f, hf2⟩ := choose_lt one
    refine ⟨some a', len, _, (List.range len).map f, rfl, ⟨by simp [cvs_length], fun h0 => ⟨a', rfl, ?_, ?_⟩⟩, hl, hm⟩
    · have h1 := hf2 0 h0 0 (by omega)
      have h2 := World.block_lt_of_cell? W _ h1
      exact h2
    · intro j u hu
      rw [cvs_map] at hu
      by_cases hj : j < len * 3
      · rw [if_pos hj] at hu
        have h1 := hf2 (j / 3) (by omega) (j % 3) (Nat.mod_lt _ (by omega))
        rw [show j / 3 * 3 + j % 3 = j by omega] at h1
        rw [h1, hu]
      · rw [if_neg hj] at hu
        cases hu
theorem Tryz.laidOutB : laidOutB Tryz.prog = true := by kernel_rfl
theorem Tryz.readCells : Tryz.prog.readableRec 26 = true := by kernel_rfl
theorem Tryz.rowCells : 26 < Tryz.prog.types.size := of_decide_eq_true (by kernel_rfl)
theorem cells_stay {H : Type} {enc : TypeId × Value → H} {W W' : World} {sp : Nat → Bool} {v : Value} {d : DataW H} {ps : List MemPlace} (h : DataW.Trod enc Tryz.prog W 0 (fun _ => true) true 26 v d ps)
    (hb : Below W.heap.size W W') (hlt : ∀ x ∈ ps, x.block < W.heap.size) (hsp : ∀ p ∈ ps, sp p.block = true) : DataW.Trod enc Tryz.prog W' 0 sp true 26 v d ps :=
  WideElems.Trod_stays Tryz.laidOutB Tryz.readCells Tryz.rowCells h (fun x hx => hb.same (hlt x hx)) hsp
end Go.Proofs.YtpemohoibeipfaaGreat
namespace Go.Proofs.YtpemohoibeipfaaGreat
open Go.ChangeShapes Go.WideShapes Go.ChangeAt Go.RowKit Go.Joins Go.Deep
section
variable {H : Type} {enc : TypeId × Value → H} {P : Program} {w : World} {base : Nat} {spare : Nat → Bool} {held : Bool}
theorem open_pair {t : TypeId} {f0 f1 : Field} {c0 c1 : Value} {x : DataW H × List MemPlace} {fuel : Nat} (hs : P.underlying t = some (.struct #[f0, f1])) (hone : oneCellFields P #[f0, f1] = true)
    (h : DataW.trod enc P w base spare held fuel t [c0, c1] = some x) :
    ∃ y0 y1 n, DataW.trod enc P w base spare held n f0.type [c0] = some y0 ∧ DataW.trod enc P w base spare held n f1.type [c1] = some y1 := by
  obtain ⟨y0, y1, n, _, _, h0, h1⟩ := trod_struct2 hs h
  obtain ⟨o0, k0⟩ := hone_of hone 0 f0 rfl
  obtain ⟨o1, k1⟩ := hone_of hone 1 f1 rfl
  exact ⟨y0, y1, n, by simpa [o0, k0] using h0, by simpa [o1, k1] using h1⟩
end
theorem list6 {α : Type} {l : List α} (h : l.length = 6) : ∃ a b c d e f, l = [a, b, c, d, e, f] := by
  match l, h with
  | [a, b, c, d, e, f], _ => exact ⟨a, b, c, d, e, f, rfl⟩
theorem Tryz.cellsArc9 : Tryz.prog.cellsOf 32 = 2 := by kernel_rfl
theorem Tryz.cellsPl9 : Tryz.prog.cellsOf 43 = 4 := by kernel_rfl
theorem Tryz.cellsCi9 : Tryz.prog.cellsOf 36 = 6 := by kernel_rfl
section
variable {H : Type} {enc : TypeId × Value → H} {w : World} {base : Nat} {spare : Nat → Bool} {held : Bool}
set_option maxRecDepth 100000 in
theorem arc_ints {n : Nat} {c0 c1 : Value} {y : DataW H × List MemPlace} (h : DataW.trod enc Tryz.prog w base spare held n 32 [c0, c1] = some y) : ∃ a b : Int, c0 = .int .i64 a ∧ c1 = .int .i64 b := by
  obtain ⟨y0, y1, m, h0, h1⟩ := open_pair Tryz.underlying32 (by kernel_rfl) h
  obtain ⟨a, e0, -, -⟩ := DataW.trod_int Tryz.underlying3 h0
  obtain ⟨b, e1, -, -⟩ := DataW.trod_int Tryz.underlying3 h1
  cases e0
  cases e1
  exact ⟨a, b, rfl, rfl⟩
set_option maxRecDepth 100000 in
theorem circ_ints {n : Nat} {c0 c1 c2 c3 c4 c5 : Value} {y : DataW H × List MemPlace} (h : DataW.trod enc Tryz.prog w base spare held n 36 [c0, c1, c2, c3, c4, c5] = some y) : ∃ k : Ci, [c0, c1, c2, c3, c4, c5] = civl k := by
  obtain ⟨y0, y1, y2, m, -, -, h0, h1, h2⟩ := trod_struct3 Tryz.underlying36 h
  rw [Tryz.cellsArc9] at h0 h1 h2
  obtain ⟨a, b, rfl, rfl⟩ := arc_ints (by simpa using h0)
  obtain ⟨c, d, rfl, rfl⟩ := arc_ints (by simpa using h1)
  obtain ⟨e, f, rfl, rfl⟩ := arc_ints (by simpa using h2)
  exact ⟨((a, b, c, d), e, f), rfl⟩
set_option maxRecDepth 100000 in
theorem open_place {r : Reach} {b0 : Nat} {v : Value} {d : DataW H} {ps : List MemPlace} (hv : Value.okWide Tryz.prog w r b0 43 v) (h : DataW.Trod enc Tryz.prog w base spare held 43 v d ps) :
    ∃ q : Bx, v = .agg #[.int .i64 q.1, .int .i64 q.2.1, .int .i64 q.2.2.1, .int .i64 q.2.2.2] := by
  obtain ⟨cs, rfl, hsz⟩ := okWide_struct Tryz.underlying43 hv
  obtain ⟨c0, c1, c2, c3, rfl⟩ := array4 (hsz.trans Tryz.cellsPl9)
  obtain ⟨fuel, hf⟩ := h
  obtain ⟨y0, y1, m, -, -, h0, h1⟩ := trod_struct2 Tryz.underlying43 hf
  rw [Tryz.cellsArc9] at h0 h1
  obtain ⟨a, b, rfl, rfl⟩ := arc_ints (by simpa [Value.cells] using h0)
  obtain ⟨c, d, rfl, rfl⟩ := arc_ints (by simpa [Value.cells] using h1)
  exact ⟨(a, b, c, d), rfl⟩
end
theorem civs_map (f : Nat → Ci) (n j : Nat) : (civs ((List.range n).map f))[j]? = if j < n * 6 then (civl (f (j / 6)))[j % 6]? else none := by
  have hl : ((List.range n).map f).length = n := by simp
  by_cases h : j < n * 6
  · rw [if_pos h]
    have hk : j / 6 < ((List.range n).map f).length := by rw [hl]; omega
    have := civs_at ((List.range n).map f) (j / 6) hk (j % 6) (Nat.mod_lt _ (by omega))
    rw [show j / 6 * 6 + j % 6 = j by omega] at this
    rw [this]
    have hg : gci ((List.range n).map f) (j / 6) = f (j / 6) := by
      unfold gci
      rw [List.getD_eq_getElem?_getD, List.getElem?_eq_getElem hk]
      simp
    rw [hg]
  · rw [if_neg h]
    have := civs_length ((List.range n).map f)
    rw [hl] at this
    exact List.getElem?_eq_none (by omega)
set_option maxRecDepth 100000 in
theorem open_circles {H : Type} {enc : TypeId × Value → H} {W : World} {v : Value} {d : DataW H} {ps : List MemPlace} {r : Reach} {b0 : Nat} (hv : Value.okWide Tryz.prog W r b0 30 v)
    (h : DataW.Trod enc Tryz.prog W 0 (fun _ => true) true 30 v d ps) :
    ∃ A n ca L, v = .slice A n ca ∧ Reads W W.heap.size 6 A n (civs L) ∧ n ≤ ca ∧ ca ≤ maxLen := by
  obtain ⟨a, len, cap, rfl⟩ := okWide_slice Tryz.underlying30 hv
  obtain ⟨fu, hf⟩ := h
  have hf' : DataW.trod enc Tryz.prog W 0 (fun _ => true) true fu 30 [.slice a len cap] = some (d, ps) := by simpa [Value.cells] using hf
  rcases open_slice Tryz.underlying30 hf' with ⟨h0, -⟩ | ⟨a', len', cap', m, n, D, Pl, hcs, hb, hl, hm, hmm, hx, hi⟩
  · cases h0
    exact ⟨none, 0, 0, [], rfl, Reads.none_, Nat.le_refl _, by simp [maxLen]⟩
  · cases hcs
    simp only [if_true] at hmm
    subst hmm
    have one : ∀ i, i < len → ∃ x : Ci, ∀ j, j < 6 → W.cell? (a'.add (i * 6 + j)) = (civl x)[j]? := by
      intro i hil
      obtain ⟨cs, hc, ht⟩ := hi i (by omega)
      rw [Tryz.cellsCi9] at hc
      obtain ⟨_, hcl, hat⟩ := World.cells?_some hc
      obtain ⟨c0, c1, c2, c3, c4, c5, rfl⟩ := list6 hcl
      obtain ⟨k, hk⟩ := circ_ints ht
      refine ⟨k, fun j hj => ?_⟩
      rw [← Go.Deep.add_add, hat j hj, hk]
    obtain ⟨f, hf2⟩ := choose_lt one
    refine ⟨some a', len, _, (List.range len).map f, rfl, ⟨by simp [civs_length], fun h0 => ⟨a', rfl, ?_, ?_⟩⟩, hl, hm⟩
    · have h1 := hf2 0 h0 0 (by omega)
      have h2 := World.block_lt_of_cell? W _ h1
      exact h2
    · intro j u hu
      rw [civs_map] at hu
      by_cases hj : j < len * 6
      · rw [if_pos hj] at hu
        have h1 := hf2 (j / 6) (by omega) (j % 6) (Nat.mod_lt _ (by omega))
        rw [show j / 6 * 6 + j % 6 = j by omega] at h1
        rw [h1, hu]
      · rw [if_neg hj] at hu
        cases hu
theorem Tryz.readCircles : Tryz.prog.readableRec 30 = true := by kernel_rfl
theorem Tryz.rowCircles : 30 < Tryz.prog.types.size := of_decide_eq_true (by kernel_rfl)
theorem Tryz.readPlace : Tryz.prog.readableRec 43 = true := by kernel_rfl
theorem Tryz.rowPlace : 43 < Tryz.prog.types.size := of_decide_eq_true (by kernel_rfl)
theorem Tryz.readPoint : Tryz.prog.readableRec 23 = true := by kernel_rfl
theorem Tryz.rowPoint : 23 < Tryz.prog.types.size := of_decide_eq_true (by kernel_rfl)
section
variable {H : Type} {enc : TypeId × Value → H} {W W' : World} {sp : Nat → Bool} {v : Value} {d : DataW H} {ps : List MemPlace}
theorem circles_stay (h : DataW.Trod enc Tryz.prog W 0 (fun _ => true) true 30 v d ps) (hb : Below W.heap.size W W') (hlt : ∀ x ∈ ps, x.block < W.heap.size) (hsp : ∀ p ∈ ps, sp p.block = true) : DataW.Trod enc Tryz.prog W' 0 sp true 30 v d ps :=
  WideElems.Trod_stays Tryz.laidOutB Tryz.readCircles Tryz.rowCircles h (fun x hx => hb.same (hlt x hx)) hsp
theorem place_stay (h : DataW.Trod enc Tryz.prog W 0 (fun _ => true) true 43 v d ps) (hb : Below W.heap.size W W') (hlt : ∀ x ∈ ps, x.block < W.heap.size) (hsp : ∀ p ∈ ps, sp p.block = true) : DataW.Trod enc Tryz.prog W' 0 sp true 43 v d ps :=
  WideElems.Trod_stays Tryz.laidOutB Tryz.readPlace Tryz.rowPlace h (fun x hx => hb.same (hlt x hx)) hsp
theorem point_stay (h : DataW.Trod enc Tryz.prog W 0 (fun _ => true) true 23 v d ps) (hb : Below W.heap.size W W') (hlt : ∀ x ∈ ps, x.block < W.heap.size) (hsp : ∀ p ∈ ps, sp p.block = true) : DataW.Trod enc Tryz.prog W' 0 sp true 23 v d ps :=
  WideElems.Trod_stays Tryz.laidOutB Tryz.readPoint Tryz.rowPoint h (fun x hx => hb.same (hlt x hx)) hsp
end
end Go.Proofs.YtpemohoibeipfaaGreat
