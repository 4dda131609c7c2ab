/- (*chain).corrections: the hull of the corrections over an arc of readings. -/
import Derived.Test.YtbpnacacnncopaaGreatDoorHNx
set_option linter.unusedVariables false
set_option linter.unusedSimpArgs false
namespace Go.Proofs.YtbpnacacnncopaaGreatDoor
open Go.RowKit
def CoS (B : Nat) (Y : Array Value) (i : Nat) (v : Value) (w : World) : Prop :=
  if i = 21 then ∃ q, v = .pointer (some ⟨q, 0, none⟩) ∧ B ≤ q ∧ Blk w q 41 #[.int .i64 0, .int .i64 0] else v = Y.getD i undef
theorem CoS.keep {B : Nat} {Y : Array Value} {w w' : World} (hb : Below w.heap.size w w') (i : Nat) (v : Value) (h : CoS B Y i v w) : CoS B Y i v w' := by
  unfold CoS at h ⊢
  split
  · rename_i e
    rw [if_pos e] at h
    obtain ⟨q, h1, h2, h3⟩ := h
    exact ⟨q, h1, h2, h3.below hb h3.lt⟩
  · rename_i e
    rw [if_neg e] at h
    exact h
def CoI (W : World) (Y : Array Value) (F : Array Value) (a : Act) (M : Nat → Bool) (a' : Act) (w' : World) : Prop :=
  ∃ v : Nat → Value, a' = ((((((((((((((((((((((a.put (some 10) (v 0)).put (some 11) (v 1)).put (some 12) (v 2)).put (some 13) (v 3)).put (some 14) (v 4)).put (some 15) (v 5)).put (some 16) (v 6)).put (some 17) (v 7)).put (some 18) (v 8)).put (some 19) (v 9)).put (some 20) (v 10)).put (some 21) (v 11)).put (some 22) (v 12)).put (some 23) (v 13)).put (some 24) (v 14)).put (some 25) (v 15)).put (some 26) (v 16)).put (some 27) (v 17)).put (some 28) (v 18)).put (some 29) (v 19)).put (some 30) (v 20)).put (some 7) (v 21)) ∧ (M 22 = true → ∀ j, j < 22 → M j = true) ∧ (M 22 = false → Below W.heap.size W w' ∧ ∀ i, M i = true → CoS W.heap.size Y i (v i) w') ∧
    (M 22 = true → ∃ q, v 21 = .pointer (some ⟨q, 0, none⟩) ∧ W.heap.size ≤ q ∧ Blk w' q 41 F ∧ Below W.heap.size W w')
def CoSl : Array Nat := #[10, 11, 12, 13, 14, 15, 16, 17, 18, 19, 20, 21, 22, 23, 24, 25, 26, 27, 28, 29, 30, 7, 0]
theorem CoI.start (W : World) (Y F : Array Value) (a : Act) : CoI W Y F a (fun _ => false) a W :=
  ⟨fun i => a.tmps.getD (CoSl.getD i 0) undef, by
    simp only [CoSl, Array.getD_eq_getD_getElem?, List.getElem?_toArray, List.getElem?_cons_zero, List.getElem?_cons_succ, Option.getD_some]
    simp only [← Array.getD_eq_getD_getElem?, putQ_self], fun h => (by cases h), fun _ => ⟨Below.refl _ _, fun i h => (by cases h)⟩, fun h => (by cases h)⟩
theorem huF_step (ix : Int) (T0 : List Ent) (lo hi : Int) {T : List Ent} {k : Nat} {x : Ent} (h : T[k]? = some x) (o : Int × Int) : huF ix T0 lo hi (T.drop k) o = huF ix T0 lo hi (T.drop (k + 1)) (if lo ≤ x.1 ∧ x.1 ≤ hi then (min o.1 (coA ix T0 x.1), max o.2 (coB ix T0 x.1)) else o) := by
  rw [drop_cons h]
  rfl
set_option maxHeartbeats 8000000 in
set_option maxRecDepth 100000 in
theorem corr22_any (g : Nat) (ix : Int) (T : List Ent) (A : Option Addr) (n c : Nat) (lo hi : Int) (w : World) (hg : Blk w g 86 #[.int .i64 0]) (hT : TabAt w w.heap.size A T) (hn : T.length = n) (hv : insV ix T = true) (h0 : -60000 ≤ lo) (h1 : lo ≤ hi) (h2 : hi ≤ 7800000) :
    Calls Tryz.prog 63 #[.pointer (some ⟨g, 0, none⟩), .agg #[.int .i64 ix, .slice A n c], .agg #[.int .i64 lo, .int .i64 hi]] w fun e w' => e = .returned (.agg #[.int .i64 (huV ix T lo hi).1, .int .i64 (huV ix T lo hi).2]) ∧ Below w.heap.size w w' := by
  obtain ⟨-, hlen, hok⟩ := ins_ok hv
  have n40 : n ≤ 40 := by omega
  have hgl := hg.lt
  have cb := fun z => co_bd (hs := z) hv
  have CB := Lib.hid cb
  have KC := Lib.hid (fun (a b : Int) W h => arcC_any g a b W h)
  have KI := Lib.hid (fun (z : Int) W (hW : Below w.heap.size w W) (z0 : -60000 ≤ z) (z1 : z ≤ 7800000) => Corr_any ix z T A n c W (hT.up hW) hn hv z0 z1)
  have KlI := Lib.hid (fun W (hW : Below w.heap.size w W) => KI.out lo W hW h0 (by omega))
  have KhI := Lib.hid (fun W (hW : Below w.heap.size w W) => KI.out hi W hW (by omega) h2)
  have c1 := cb lo
  have c2 := cb hi
  have hV : huF ix T lo hi (T.drop 0) (min (coA ix T lo) (coA ix T hi), max (coB ix T lo) (coB ix T hi)) = huV ix T lo hi := rfl
  have hstp := fun (k : Nat) (x : Ent) (h : T[k]? = some x) (o : Int × Int) => huF_step ix T lo hi h o
  have hent := fun (k : Nat) (x : Ent) (h : T[k]? = some x) => ent_iff.1 (hok.ent k x h)
  have hcel : ∀ (k : Nat) (x : Ent), T[k]? = some x → ∃ b off, A = some ⟨b, off, none⟩ ∧ b < w.heap.size ∧ w.cell? ⟨b, off + k * 2, none⟩ = some (.int .i64 x.1) ∧ w.cell? ⟨b, off + k * 2 + 1, none⟩ = some (.int .i64 x.2) := fun k x hx => by
    rcases hT with rfl | ⟨b, off, e, hb, h⟩
    · simp at hx
    · exact ⟨b, off, e, hb, (h k x hx).1, (h k x hx).2⟩
  have hf0 : ∀ o, huF ix T lo hi [] o = o := fun o => rfl
  generalize huV ix T lo hi = VV at *
  generalize huF ix T lo hi = HF at *
  generalize coA ix T = fA at *
  generalize coB ix T = fB at *
  obtain ⟨cA, hcA⟩ : ∃ z, fA lo = z := ⟨_, rfl⟩
  obtain ⟨cB, hcB⟩ : ∃ z, fB lo = z := ⟨_, rfl⟩
  obtain ⟨dA, hdA⟩ : ∃ z, fA hi = z := ⟨_, rfl⟩
  obtain ⟨dB, hdB⟩ : ∃ z, fB hi = z := ⟨_, rfl⟩
  rw [hcA, hcB] at KlI c1
  rw [hdA, hdB] at KhI c2
  rw [hcA, hcB, hdA, hdB] at hV
  clear hcA hcB hdA hdB cb
  have KM := Lib.hid (fun W => Hull_yes cA cB dA dB W (by rw [avB_true]; omega) (by rw [avB_true]; omega))
  obtain ⟨mA, hmA⟩ : ∃ z, min cA dA = z := ⟨_, rfl⟩
  obtain ⟨mB, hmB⟩ : ∃ z, max cB dB = z := ⟨_, rfl⟩
  rw [hmA, hmB] at KM hV
  have mbd : -90000 ≤ mA ∧ mA ≤ mB ∧ mB ≤ 90000 := by omega
  have HV := Lib.hid hV
  have HST := Lib.hid hstp
  have HEN := Lib.hid hent
  have HCE := Lib.hid hcel
  have HN := Lib.hid hn
  have HF0 : Hid (∀ o, HF [] o = o) := Lib.hid hf0
  clear hf0
  clear hV hstp hent hcel hmA hmB c1 c2 hT hn hv hok
  have I0 := Lib.hid (((Blk.new w 40 #[.int .i64 ix, .slice A n c]).alloc (.cells #[.int .i64 lo, .int .i64 hi] 41)).alloc (.cells #[.int .i64 0, .int .i64 0] 41))
  have L0 := Lib.hid ((Blk.new (w.alloc (.cells #[.int .i64 ix, .slice A n c] 40)) 41 #[.int .i64 lo, .int .i64 hi]).alloc (.cells #[.int .i64 0, .int .i64 0] 41))
  simp only [World.size_alloc] at L0
  have R0 := Lib.hid (Blk.new ((w.alloc (.cells #[.int .i64 ix, .slice A n c] 40)).alloc (.cells #[.int .i64 lo, .int .i64 hi] 41)) 41 #[.int .i64 0, .int .i64 0])
  simp only [World.size_alloc] at R0
  have b0 := Lib.hid ((((Below.refl w.heap.size w).alloc (Nat.le_refl _) (.cells #[.int .i64 ix, .slice A n c] 40)).alloc (by simp) (.cells #[.int .i64 lo, .int .i64 hi] 41)).alloc (by simp; omega) (.cells #[.int .i64 0, .int .i64 0] 41))
  have G0 := Lib.hid ((((hg).alloc (.cells #[.int .i64 ix, .slice A n c] 40)).alloc (.cells #[.int .i64 lo, .int .i64 hi] 41)).alloc (.cells #[.int .i64 0, .int .i64 0] 41))
  clear hg
  go_enter Tryz.func63, Tryz.ntmps63
  go_upto_region 1 with fail
  generalize (((w.alloc (.cells #[.int .i64 ix, .slice A n c] 40)).alloc (.cells #[.int .i64 lo, .int .i64 hi] 41)).alloc (.cells #[.int .i64 0, .int .i64 0] 41)) = w1 at *
  obtain ⟨aR, haR⟩ : ∃ a, w.heap.size + 1 + 1 = a := ⟨_, rfl⟩
  obtain ⟨aL, haL⟩ : ∃ a, w.heap.size + 1 = a := ⟨_, rfl⟩
  rw [haR] at R0 ⊢
  rw [haL] at L0 ⊢
  obtain ⟨aI, haI⟩ : ∃ a, w.heap.size = a := ⟨_, rfl⟩
  rw [haI] at I0 ⊢
  have oI : g < aI := by omega
  have oL : aI < aL := by omega
  have oR : aL < aR := by omega
  have HAI := Lib.hid haI
  clear haR haL haI hgl
  have I9 := Lib.hid I0.out.drew
  have L9 := Lib.hid L0.out.drew
  have R9 := Lib.hid R0.out.drew
  have G9 := Lib.hid G0.out.drew
  have b9 := Lib.hid (bl_drew b0.out)
  obtain ⟨W9, hW9⟩ : ∃ W, w1.drew = W := ⟨_, rfl⟩
  rw [hW9] at I9 L9 R9 G9 b9
  have HW9 := Lib.hid hW9
  clear hW9 I0 L0 R0 G0 b0
  refine wp_region_inv3 (by kernel_rfl) (CoI W9 #[(.pointer (some ⟨g, 0, none⟩)), (.pointer (some ⟨g, 0, none⟩)), (.agg #[.int .i64 ix, .slice A n c]), (.pointer (some ⟨aL, 0, none⟩)), (.int .i64 lo), (.tuple #[.agg #[.int .i64 cA, .int .i64 cB], .int .i64 0]), (.agg #[.int .i64 cA, .int .i64 cB]), (.int .i64 0), (.agg #[.int .i64 cA, .int .i64 cB]), (.pointer (some ⟨g, 0, none⟩)), (.agg #[.int .i64 ix, .slice A n c]), (.pointer (some ⟨aL, 1, none⟩)), (.int .i64 hi), (.tuple #[.agg #[.int .i64 dA, .int .i64 dB], .int .i64 0]), (.agg #[.int .i64 dA, .int .i64 dB]), (.int .i64 0), (.agg #[.int .i64 dA, .int .i64 dB]), (.tuple #[.agg #[.int .i64 mA, .int .i64 mB], .int .i64 0]), (.agg #[.int .i64 mA, .int .i64 mB]), (.int .i64 0), (.agg #[.int .i64 mA, .int .i64 mB]), undef, undef] #[.int .i64 mA, .int .i64 mB]) (waits_bind (by kernel_rfl)) ?start ?step ?fin
  case start => rw [HW9.out]; exact CoI.start _ _ _ _
  case step =>
    rintro M i o a1' w' ho hL haf ⟨v, rfl, hD, hF, hG⟩
    have HD := Lib.hid hD
    have HF := Lib.hid hF
    clear hD hF hG
    rcases i with _ | _ | _ | _ | _ | _ | _ | _ | _ | _ | _ | _ | _ | _ | _ | _ | _ | _ | _ | _ | _ | _ | _ | i
    all_goals (simp at ho; try subst ho)
    all_goals (try simp [Region.binds] at haf)
    · have ns : M 22 = false := by cases h8 : M 22 with | false => rfl | true => exact absurd (HD.out h8 0 (by omega)) (by simp [hL])
      obtain ⟨hB, hS⟩ := HF.out ns
      have HB := Lib.hid hB
      have HS := Lib.hid hS
      clear hB hS
      go_wp2
      exact ⟨upd v 0 (.pointer (some ⟨g, 0, none⟩)), by simp [upd, Act.put], fun h => absurd h (by simp [mkd, ns]), fun _ => ⟨HB.out, stepS HS.out (fun _ _ h => h) (show _ from rfl)⟩, fun h => absurd h (by simp [mkd, ns])⟩
    · have ns : M 22 = false := by cases h8 : M 22 with | false => rfl | true => exact absurd (HD.out h8 1 (by omega)) (by simp [hL])
      obtain ⟨hB, hS⟩ := HF.out ns
      have HB := Lib.hid hB
      have HS := Lib.hid hS
      clear hB hS
      go_wp2
      exact ⟨upd v 1 (.pointer (some ⟨g, 0, none⟩)), by simp [upd, Act.put], fun h => absurd h (by simp [mkd, ns]), fun _ => ⟨HB.out, stepS HS.out (fun _ _ h => h) (show _ from rfl)⟩, fun h => absurd h (by simp [mkd, ns])⟩
    · have ns : M 22 = false := by cases h8 : M 22 with | false => rfl | true => exact absurd (HD.out h8 2 (by omega)) (by simp [hL])
      obtain ⟨hB, hS⟩ := HF.out ns
      have HB := Lib.hid hB
      have HS := Lib.hid hS
      clear hB hS
      have yI : ∀ i, w'.cell? ⟨aI, i, none⟩ = (#[.int .i64 ix, .slice A n c] : Array Value)[i]? := fun i => (I9.out.below HB.out I9.out.lt).cell i
      go_wp2
      exact ⟨upd v 2 (.agg #[.int .i64 ix, .slice A n c]), by simp [upd, Act.put], fun h => absurd h (by simp [mkd, ns]), fun _ => ⟨HB.out, stepS HS.out (fun _ _ h => h) (show _ from rfl)⟩, fun h => absurd h (by simp [mkd, ns])⟩
    · have ns : M 22 = false := by cases h8 : M 22 with | false => rfl | true => exact absurd (HD.out h8 3 (by omega)) (by simp [hL])
      obtain ⟨hB, hS⟩ := HF.out ns
      have HB := Lib.hid hB
      have HS := Lib.hid hS
      clear hB hS
      go_wp2
      exact ⟨upd v 3 (.pointer (some ⟨aL, 0, none⟩)), by simp [upd, Act.put], fun h => absurd h (by simp [mkd, ns]), fun _ => ⟨HB.out, stepS HS.out (fun _ _ h => h) (show _ from rfl)⟩, fun h => absurd h (by simp [mkd, ns])⟩
    · have ns : M 22 = false := by cases h8 : M 22 with | false => rfl | true => exact absurd (HD.out h8 4 (by omega)) (by simp [hL])
      obtain ⟨hB, hS⟩ := HF.out ns
      have HB := Lib.hid hB
      have HS := Lib.hid hS
      clear hB hS
      have e3 : v 3 = (.pointer (some ⟨aL, 0, none⟩)) := HS.out 3 (by simp [haf])
      have yL : ∀ i, w'.cell? ⟨aL, i, none⟩ = (#[.int .i64 lo, .int .i64 hi] : Array Value)[i]? := fun i => (L9.out.below HB.out L9.out.lt).cell i
      go_wp2
      exact ⟨upd v 4 (.int .i64 lo), by simp [upd, Act.put, e3], fun h => absurd h (by simp [mkd, ns]), fun _ => ⟨HB.out, stepS HS.out (fun _ _ h => h) (show _ from rfl)⟩, fun h => absurd h (by simp [mkd, ns])⟩
    · have ns : M 22 = false := by cases h8 : M 22 with | false => rfl | true => exact absurd (HD.out h8 5 (by omega)) (by simp [hL])
      obtain ⟨hB, hS⟩ := HF.out ns
      have HB := Lib.hid hB
      have HS := Lib.hid hS
      clear hB hS
      have e2 : v 2 = (.agg #[.int .i64 ix, .slice A n c]) := HS.out 2 (by simp [haf])
      have e4 : v 4 = (.int .i64 lo) := HS.out 4 (by simp [haf])
      go_wp2_with fail
      (with_reducible refine (KlI.out w' (b9.out.trans (HB.out.mono b9.out.size))).mono ?_)
      rintro e9 w9 ⟨rfl, hb9⟩
      go_wp2
      exact ⟨upd v 5 (.tuple #[.agg #[.int .i64 cA, .int .i64 cB], .int .i64 0]), by simp [upd, Act.put, e2, e4], fun h => absurd h (by simp [mkd, ns]), fun _ => ⟨(HB.out.trans (hb9.mono HB.out.size)), stepS HS.out (fun j y h => CoS.keep hb9 j y h) (show _ from rfl)⟩, fun h => absurd h (by simp [mkd, ns])⟩
    · have ns : M 22 = false := by cases h8 : M 22 with | false => rfl | true => exact absurd (HD.out h8 6 (by omega)) (by simp [hL])
      obtain ⟨hB, hS⟩ := HF.out ns
      have HB := Lib.hid hB
      have HS := Lib.hid hS
      clear hB hS
      have e5 : v 5 = (.tuple #[.agg #[.int .i64 cA, .int .i64 cB], .int .i64 0]) := HS.out 5 (by simp [haf])
      go_wp2
      exact ⟨upd v 6 (.agg #[.int .i64 cA, .int .i64 cB]), by simp [upd, Act.put, e5], fun h => absurd h (by simp [mkd, ns]), fun _ => ⟨HB.out, stepS HS.out (fun _ _ h => h) (show _ from rfl)⟩, fun h => absurd h (by simp [mkd, ns])⟩
    · have ns : M 22 = false := by cases h8 : M 22 with | false => rfl | true => exact absurd (HD.out h8 7 (by omega)) (by simp [hL])
      obtain ⟨hB, hS⟩ := HF.out ns
      have HB := Lib.hid hB
      have HS := Lib.hid hS
      clear hB hS
      have e5 : v 5 = (.tuple #[.agg #[.int .i64 cA, .int .i64 cB], .int .i64 0]) := HS.out 5 (by simp [haf])
      go_wp2
      exact ⟨upd v 7 (.int .i64 0), by simp [upd, Act.put, e5], fun h => absurd h (by simp [mkd, ns]), fun _ => ⟨HB.out, stepS HS.out (fun _ _ h => h) (show _ from rfl)⟩, fun h => absurd h (by simp [mkd, ns])⟩
    · have ns : M 22 = false := by cases h8 : M 22 with | false => rfl | true => exact absurd (HD.out h8 8 (by omega)) (by simp [hL])
      obtain ⟨hB, hS⟩ := HF.out ns
      have HB := Lib.hid hB
      have HS := Lib.hid hS
      clear hB hS
      have e1 : v 1 = (.pointer (some ⟨g, 0, none⟩)) := HS.out 1 (by simp [haf])
      have e6 : v 6 = (.agg #[.int .i64 cA, .int .i64 cB]) := HS.out 6 (by simp [haf])
      have e7 : v 7 = (.int .i64 0) := HS.out 7 (by simp [haf])
      go_wp2_with fail
      (with_reducible refine (KC.out cA cB w' (G9.out.below HB.out G9.out.lt)).mono ?_)
      rintro e9 w9 ⟨rfl, hb9⟩
      go_wp2
      exact ⟨upd v 8 (.agg #[.int .i64 cA, .int .i64 cB]), by simp [upd, Act.put, e1, e6, e7], fun h => absurd h (by simp [mkd, ns]), fun _ => ⟨(HB.out.trans (hb9.mono HB.out.size)), stepS HS.out (fun j y h => CoS.keep hb9 j y h) (show _ from rfl)⟩, fun h => absurd h (by simp [mkd, ns])⟩
    · have ns : M 22 = false := by cases h8 : M 22 with | false => rfl | true => exact absurd (HD.out h8 9 (by omega)) (by simp [hL])
      obtain ⟨hB, hS⟩ := HF.out ns
      have HB := Lib.hid hB
      have HS := Lib.hid hS
      clear hB hS
      go_wp2
      exact ⟨upd v 9 (.pointer (some ⟨g, 0, none⟩)), by simp [upd, Act.put], fun h => absurd h (by simp [mkd, ns]), fun _ => ⟨HB.out, stepS HS.out (fun _ _ h => h) (show _ from rfl)⟩, fun h => absurd h (by simp [mkd, ns])⟩
    · have ns : M 22 = false := by cases h8 : M 22 with | false => rfl | true => exact absurd (HD.out h8 10 (by omega)) (by simp [hL])
      obtain ⟨hB, hS⟩ := HF.out ns
      have HB := Lib.hid hB
      have HS := Lib.hid hS
      clear hB hS
      have yI : ∀ i, w'.cell? ⟨aI, i, none⟩ = (#[.int .i64 ix, .slice A n c] : Array Value)[i]? := fun i => (I9.out.below HB.out I9.out.lt).cell i
      go_wp2
      exact ⟨upd v 10 (.agg #[.int .i64 ix, .slice A n c]), by simp [upd, Act.put], fun h => absurd h (by simp [mkd, ns]), fun _ => ⟨HB.out, stepS HS.out (fun _ _ h => h) (show _ from rfl)⟩, fun h => absurd h (by simp [mkd, ns])⟩
    · have ns : M 22 = false := by cases h8 : M 22 with | false => rfl | true => exact absurd (HD.out h8 11 (by omega)) (by simp [hL])
      obtain ⟨hB, hS⟩ := HF.out ns
      have HB := Lib.hid hB
      have HS := Lib.hid hS
      clear hB hS
      go_wp2
      exact ⟨upd v 11 (.pointer (some ⟨aL, 1, none⟩)), by simp [upd, Act.put], fun h => absurd h (by simp [mkd, ns]), fun _ => ⟨HB.out, stepS HS.out (fun _ _ h => h) (show _ from rfl)⟩, fun h => absurd h (by simp [mkd, ns])⟩
    · have ns : M 22 = false := by cases h8 : M 22 with | false => rfl | true => exact absurd (HD.out h8 12 (by omega)) (by simp [hL])
      obtain ⟨hB, hS⟩ := HF.out ns
      have HB := Lib.hid hB
      have HS := Lib.hid hS
      clear hB hS
      have e11 : v 11 = (.pointer (some ⟨aL, 1, none⟩)) := HS.out 11 (by simp [haf])
      have yL : ∀ i, w'.cell? ⟨aL, i, none⟩ = (#[.int .i64 lo, .int .i64 hi] : Array Value)[i]? := fun i => (L9.out.below HB.out L9.out.lt).cell i
      go_wp2
      exact ⟨upd v 12 (.int .i64 hi), by simp [upd, Act.put, e11], fun h => absurd h (by simp [mkd, ns]), fun _ => ⟨HB.out, stepS HS.out (fun _ _ h => h) (show _ from rfl)⟩, fun h => absurd h (by simp [mkd, ns])⟩
    · have ns : M 22 = false := by cases h8 : M 22 with | false => rfl | true => exact absurd (HD.out h8 13 (by omega)) (by simp [hL])
      obtain ⟨hB, hS⟩ := HF.out ns
      have HB := Lib.hid hB
      have HS := Lib.hid hS
      clear hB hS
      have e10 : v 10 = (.agg #[.int .i64 ix, .slice A n c]) := HS.out 10 (by simp [haf])
      have e12 : v 12 = (.int .i64 hi) := HS.out 12 (by simp [haf])
      go_wp2_with fail
      (with_reducible refine (KhI.out w' (b9.out.trans (HB.out.mono b9.out.size))).mono ?_)
      rintro e9 w9 ⟨rfl, hb9⟩
      go_wp2
      exact ⟨upd v 13 (.tuple #[.agg #[.int .i64 dA, .int .i64 dB], .int .i64 0]), by simp [upd, Act.put, e10, e12], fun h => absurd h (by simp [mkd, ns]), fun _ => ⟨(HB.out.trans (hb9.mono HB.out.size)), stepS HS.out (fun j y h => CoS.keep hb9 j y h) (show _ from rfl)⟩, fun h => absurd h (by simp [mkd, ns])⟩
    · have ns : M 22 = false := by cases h8 : M 22 with | false => rfl | true => exact absurd (HD.out h8 14 (by omega)) (by simp [hL])
      obtain ⟨hB, hS⟩ := HF.out ns
      have HB := Lib.hid hB
      have HS := Lib.hid hS
      clear hB hS
      have e13 : v 13 = (.tuple #[.agg #[.int .i64 dA, .int .i64 dB], .int .i64 0]) := HS.out 13 (by simp [haf])
      go_wp2
      exact ⟨upd v 14 (.agg #[.int .i64 dA, .int .i64 dB]), by simp [upd, Act.put, e13], fun h => absurd h (by simp [mkd, ns]), fun _ => ⟨HB.out, stepS HS.out (fun _ _ h => h) (show _ from rfl)⟩, fun h => absurd h (by simp [mkd, ns])⟩
    · have ns : M 22 = false := by cases h8 : M 22 with | false => rfl | true => exact absurd (HD.out h8 15 (by omega)) (by simp [hL])
      obtain ⟨hB, hS⟩ := HF.out ns
      have HB := Lib.hid hB
      have HS := Lib.hid hS
      clear hB hS
      have e13 : v 13 = (.tuple #[.agg #[.int .i64 dA, .int .i64 dB], .int .i64 0]) := HS.out 13 (by simp [haf])
      go_wp2
      exact ⟨upd v 15 (.int .i64 0), by simp [upd, Act.put, e13], fun h => absurd h (by simp [mkd, ns]), fun _ => ⟨HB.out, stepS HS.out (fun _ _ h => h) (show _ from rfl)⟩, fun h => absurd h (by simp [mkd, ns])⟩
    · have ns : M 22 = false := by cases h8 : M 22 with | false => rfl | true => exact absurd (HD.out h8 16 (by omega)) (by simp [hL])
      obtain ⟨hB, hS⟩ := HF.out ns
      have HB := Lib.hid hB
      have HS := Lib.hid hS
      clear hB hS
      have e9 : v 9 = (.pointer (some ⟨g, 0, none⟩)) := HS.out 9 (by simp [haf])
      have e14 : v 14 = (.agg #[.int .i64 dA, .int .i64 dB]) := HS.out 14 (by simp [haf])
      have e15 : v 15 = (.int .i64 0) := HS.out 15 (by simp [haf])
      go_wp2_with fail
      (with_reducible refine (KC.out dA dB w' (G9.out.below HB.out G9.out.lt)).mono ?_)
      rintro e9 w9 ⟨rfl, hb9⟩
      go_wp2
      exact ⟨upd v 16 (.agg #[.int .i64 dA, .int .i64 dB]), by simp [upd, Act.put, e9, e14, e15], fun h => absurd h (by simp [mkd, ns]), fun _ => ⟨(HB.out.trans (hb9.mono HB.out.size)), stepS HS.out (fun j y h => CoS.keep hb9 j y h) (show _ from rfl)⟩, fun h => absurd h (by simp [mkd, ns])⟩
    · have ns : M 22 = false := by cases h8 : M 22 with | false => rfl | true => exact absurd (HD.out h8 17 (by omega)) (by simp [hL])
      obtain ⟨hB, hS⟩ := HF.out ns
      have HB := Lib.hid hB
      have HS := Lib.hid hS
      clear hB hS
      have e8 : v 8 = (.agg #[.int .i64 cA, .int .i64 cB]) := HS.out 8 (by simp [haf])
      have e16 : v 16 = (.agg #[.int .i64 dA, .int .i64 dB]) := HS.out 16 (by simp [haf])
      go_wp2_with fail
      (with_reducible refine (KM.out w').mono ?_)
      rintro e9 w9 ⟨rfl, hb9⟩
      go_wp2
      exact ⟨upd v 17 (.tuple #[.agg #[.int .i64 mA, .int .i64 mB], .int .i64 0]), by simp [upd, Act.put, e8, e16], fun h => absurd h (by simp [mkd, ns]), fun _ => ⟨(HB.out.trans (hb9.mono HB.out.size)), stepS HS.out (fun j y h => CoS.keep hb9 j y h) (show _ from rfl)⟩, fun h => absurd h (by simp [mkd, ns])⟩
    · have ns : M 22 = false := by cases h8 : M 22 with | false => rfl | true => exact absurd (HD.out h8 18 (by omega)) (by simp [hL])
      obtain ⟨hB, hS⟩ := HF.out ns
      have HB := Lib.hid hB
      have HS := Lib.hid hS
      clear hB hS
      have e17 : v 17 = (.tuple #[.agg #[.int .i64 mA, .int .i64 mB], .int .i64 0]) := HS.out 17 (by simp [haf])
      go_wp2
      exact ⟨upd v 18 (.agg #[.int .i64 mA, .int .i64 mB]), by simp [upd, Act.put, e17], fun h => absurd h (by simp [mkd, ns]), fun _ => ⟨HB.out, stepS HS.out (fun _ _ h => h) (show _ from rfl)⟩, fun h => absurd h (by simp [mkd, ns])⟩
    · have ns : M 22 = false := by cases h8 : M 22 with | false => rfl | true => exact absurd (HD.out h8 19 (by omega)) (by simp [hL])
      obtain ⟨hB, hS⟩ := HF.out ns
      have HB := Lib.hid hB
      have HS := Lib.hid hS
      clear hB hS
      have e17 : v 17 = (.tuple #[.agg #[.int .i64 mA, .int .i64 mB], .int .i64 0]) := HS.out 17 (by simp [haf])
      go_wp2
      exact ⟨upd v 19 (.int .i64 0), by simp [upd, Act.put, e17], fun h => absurd h (by simp [mkd, ns]), fun _ => ⟨HB.out, stepS HS.out (fun _ _ h => h) (show _ from rfl)⟩, fun h => absurd h (by simp [mkd, ns])⟩
    · have ns : M 22 = false := by cases h8 : M 22 with | false => rfl | true => exact absurd (HD.out h8 20 (by omega)) (by simp [hL])
      obtain ⟨hB, hS⟩ := HF.out ns
      have HB := Lib.hid hB
      have HS := Lib.hid hS
      clear hB hS
      have e0 : v 0 = (.pointer (some ⟨g, 0, none⟩)) := HS.out 0 (by simp [haf])
      have e18 : v 18 = (.agg #[.int .i64 mA, .int .i64 mB]) := HS.out 18 (by simp [haf])
      have e19 : v 19 = (.int .i64 0) := HS.out 19 (by simp [haf])
      go_wp2_with fail
      (with_reducible refine (KC.out mA mB w' (G9.out.below HB.out G9.out.lt)).mono ?_)
      rintro e9 w9 ⟨rfl, hb9⟩
      go_wp2
      exact ⟨upd v 20 (.agg #[.int .i64 mA, .int .i64 mB]), by simp [upd, Act.put, e0, e18, e19], fun h => absurd h (by simp [mkd, ns]), fun _ => ⟨(HB.out.trans (hb9.mono HB.out.size)), stepS HS.out (fun j y h => CoS.keep hb9 j y h) (show _ from rfl)⟩, fun h => absurd h (by simp [mkd, ns])⟩
    · have ns : M 22 = false := by cases h8 : M 22 with | false => rfl | true => exact absurd (HD.out h8 21 (by omega)) (by simp [hL])
      obtain ⟨hB, hS⟩ := HF.out ns
      have HB := Lib.hid hB
      have HS := Lib.hid hS
      clear hB hS
      have hb9 := bl_alloc w' (.cells #[.int .i64 0, .int .i64 0] 41)
      go_wp2
      exact ⟨upd v 21 (.pointer (some ⟨w'.heap.size, 0, none⟩)), by simp [upd, Act.put], fun h => absurd h (by simp [mkd, ns]), fun _ => ⟨(HB.out.trans (hb9.mono HB.out.size)), stepS HS.out (fun j y h => CoS.keep hb9 j y h) ⟨_, rfl, HB.out.size, Blk.new w' _ _⟩⟩, fun h => absurd h (by simp [mkd, ns])⟩
    · obtain ⟨hB, hS⟩ := HF.out hL
      have HB := Lib.hid hB
      have HS := Lib.hid hS
      clear hB hS
      have e20 : v 20 = (.agg #[.int .i64 mA, .int .i64 mB]) := HS.out 20 (by simp [haf])
      obtain ⟨q, e21, hq1, hq2⟩ : ∃ q, v 21 = .pointer (some ⟨q, 0, none⟩) ∧ W9.heap.size ≤ q ∧ Blk w' q 41 #[.int .i64 0, .int .i64 0] := HS.out 21 (by simp [haf])
      have y0 := hq2.cell 0
      have f0 := hq2.frozen 0
      have y1 := hq2.cell 1
      have f1 := hq2.frozen 1
      have HQ1 := Lib.hid hq1
      have HQ2 := Lib.hid hq2
      clear hq1 hq2
      simp only [List.getElem?_toArray, List.getElem?_cons_succ, List.getElem?_cons_zero] at y0 y1
      go_wp2
      exact ⟨upd v 22 undef, by simp [upd, Act.put, e20, e21], fun _ j hj => by rcases j with _ | _ | _ | _ | _ | _ | _ | _ | _ | _ | _ | _ | _ | _ | _ | _ | _ | _ | _ | _ | _ | _ | j <;> first | (simp [mkd, haf]; done) | omega, fun h => absurd h (by simp [mkd]), fun _ => ⟨q, by simp [upd, e21], HQ1.out, ((HQ2.out).set_ 0 (.int .i64 mA)).set_ 1 (.int .i64 mB), ((HB.out).setCell HQ1.out _).setCell HQ1.out _⟩⟩
  case fin =>
    rintro M a1' w' hall ⟨v, rfl, hD, hF, hG⟩
    obtain ⟨q, eq, hq1, hq2, hB⟩ := hG (hall 22 (by simp))
    clear hD hF hG hall
    simp only [Act.put, List.setIfInBounds_toArray, List.set_cons_zero, List.set_cons_succ]
    rw [eq]
    clear eq
    generalize v 0 = vz0
    generalize v 1 = vz1
    generalize v 2 = vz2
    generalize v 3 = vz3
    generalize v 4 = vz4
    generalize v 5 = vz5
    generalize v 6 = vz6
    generalize v 7 = vz7
    generalize v 8 = vz8
    generalize v 9 = vz9
    generalize v 10 = vz10
    generalize v 11 = vz11
    generalize v 12 = vz12
    generalize v 13 = vz13
    generalize v 14 = vz14
    generalize v 15 = vz15
    generalize v 16 = vz16
    generalize v 17 = vz17
    generalize v 18 = vz18
    generalize v 19 = vz19
    generalize v 20 = vz20
    clear v
    have I10 := Lib.hid (I9.out.below hB I9.out.lt)
    have L10 := Lib.hid (L9.out.below hB L9.out.lt)
    have R10 := Lib.hid (R9.out.below hB R9.out.lt)
    have G10 := Lib.hid (G9.out.below hB G9.out.lt)
    have oO : aR < q := Nat.lt_of_lt_of_le R9.out.lt hq1
    have b10 := Lib.hid (b9.out.trans (hB.mono b9.out.size))
    have O10 := Lib.hid hq2
    clear hq1 hq2 hB I9 L9 R9 G9 b9 HW9 KlI KhI KM
    obtain ⟨aO, haO⟩ : ∃ a, q = a := ⟨_, rfl⟩
    rw [haO] at O10 oO ⊢
    clear haO
    have yI : ∀ i, w'.cell? ⟨aI, i, none⟩ = (#[.int .i64 ix, .slice A n c] : Array Value)[i]? := fun i => I10.out.cell i
    go_wp2
    clear yI
    go_loopg [34] n (fun gz s34 wr => ∃ (k : Nat) (o : Int × Int), s34 = .int .i64 (k : Int) ∧ k ≤ n ∧ n - k ≤ gz ∧ HF (T.drop k) o = VV ∧ -90000 ≤ o.1 ∧ o.1 ≤ o.2 ∧ o.2 ≤ 90000 ∧ Blk wr aO 41 #[.int .i64 o.1, .int .i64 o.2] ∧ Blk wr aI 40 #[.int .i64 ix, .slice A n c] ∧ Blk wr aL 41 #[.int .i64 lo, .int .i64 hi] ∧ Blk wr aR 41 #[.int .i64 0, .int .i64 0] ∧ Blk wr g 86 #[.int .i64 0] ∧ Below w.heap.size w wr)
    case atStart => exact ⟨0, (mA, mB), rfl, Nat.zero_le _, by omega, HV.out, mbd.1, mbd.2.1, mbd.2.2, O10.out, I10.out, L10.out, R10.out, G10.out, b10.out⟩
    case round =>
      obtain ⟨k, ⟨o1, o2⟩, rfl, hk, hgz, hV, ho0, ho1, ho2, gO, gI, gL, gR, gG, gb⟩ := hrel
      simp only [] at ho0 ho1 ho2 gO
      have O20 := Lib.hid gO
      have I20 := Lib.hid gI
      have L20 := Lib.hid gL
      have R20 := Lib.hid gR
      have G20 := Lib.hid gG
      have b20 := Lib.hid gb
      have HVk := Lib.hid hV
      have oX : aO < wr.heap.size := gO.lt
      have ow : w.heap.size ≤ aI := by have := HAI.out; omega
      clear gO gI gL gR gG gb hV O10 I10 L10 R10 G10 b10 HV
      by_cases hlt : k < n
      case neg =>
        have dl : decide (k < n) = false := decide_eq_false hlt
        obtain rfl : k = n := by omega
        have hv9 : (o1, o2) = VV := by
          rw [← HVk.out, List.drop_of_length_le (by rw [HN.out]; exact Nat.le_refl _)]
          exact (HF0.out _).symm
        have HV9 := Lib.hid hv9
        clear hv9
        have yO : ∀ i, wr.cell? ⟨aO, i, none⟩ = (#[.int .i64 o1, .int .i64 o2] : Array Value)[i]? := fun i => O20.out.cell i
        have yR : ∀ i, wr.cell? ⟨aR, i, none⟩ = (#[.int .i64 0, .int .i64 0] : Array Value)[i]? := fun i => R20.out.cell i
        have zR : ∀ i, wr.frozen? ⟨aR, i, none⟩ = false := fun i => R20.out.frozen i
        go_wp2
        refine bodyPost_ret (v := .agg #[.int .i64 o1, .int .i64 o2]) (by simp [results, Tryz.results63, go_sem, *]; done) rfl ⟨?_, ?_⟩
        · rw [← HV9.out]
        · exact (b20.out.setCell (p := ⟨aR, 0, none⟩) (show w.heap.size ≤ aR by have := HAI.out; omega) _).setCell (p := ⟨aR, 1, none⟩) (show w.heap.size ≤ aR by have := HAI.out; omega) _
      case pos =>
        have dl : decide (k < n) = true := decide_eq_true hlt
        obtain ⟨x, hx⟩ : ∃ x, T[k]? = some x := ⟨_, List.getElem?_eq_getElem (by rw [HN.out]; exact hlt)⟩
        obtain ⟨b, off, rfl, hbw, x1, x2⟩ := HCE.out k x hx
        have e1 := HEN.out k x hx
        have hst := HST.out k x hx (o1, o2)
        rw [HVk.out] at hst
        obtain ⟨xa, xv⟩ := x
        simp only [] at x1 x2 e1 hst
        have HS := Lib.hid hst
        clear hx hst HVk
        have y1 := (b20.out.cell (p := ⟨b, off + k * 2, none⟩) hbw).trans x1
        have y2 := (b20.out.cell (p := ⟨b, off + k * 2 + 1, none⟩) hbw).trans x2
        clear x1 x2 hbw
        have I21 := Lib.hid (I20.out.alloc (.cells #[.int .i64 xa, .int .i64 xv] 135))
        have L21 := Lib.hid (L20.out.alloc (.cells #[.int .i64 xa, .int .i64 xv] 135))
        have R21 := Lib.hid (R20.out.alloc (.cells #[.int .i64 xa, .int .i64 xv] 135))
        have G21 := Lib.hid (G20.out.alloc (.cells #[.int .i64 xa, .int .i64 xv] 135))
        have O21 := Lib.hid (O20.out.alloc (.cells #[.int .i64 xa, .int .i64 xv] 135))
        have X21 := Lib.hid (Blk.new wr 135 #[.int .i64 xa, .int .i64 xv])
        have b21 := Lib.hid (b20.out.trans ((bl_alloc wr (.cells #[.int .i64 xa, .int .i64 xv] 135)).mono b20.out.size))
        clear I20 L20 R20 G20 O20 b20
        go_upto_region 5 with fail
        clear y1 y2
        generalize wr.alloc (.cells #[.int .i64 xa, .int .i64 xv] 135) = w22 at *
        obtain ⟨aX, haX⟩ : ∃ a, wr.heap.size = a := ⟨_, rfl⟩
        rw [haX] at X21 oX ⊢
        clear haX
        obtain ⟨pA, hpA⟩ : ∃ z, fA xa = z := ⟨_, rfl⟩
        obtain ⟨pB, hpB⟩ : ∃ z, fB xa = z := ⟨_, rfl⟩
        have cx := CB.out xa
        have kx := fun W hW => KI.out xa W hW (by omega) (by omega)
        rw [hpA, hpB] at cx kx
        simp only [hpA, hpB] at HS
        have KX := Lib.hid kx
        clear hpA hpB kx
        have KU := Lib.hid (fun W => Hull_yes o1 o2 pA pB W (by rw [avB_true]; omega) (by rw [avB_true]; omega))
        obtain ⟨u1, hu1⟩ : ∃ z, min o1 pA = z := ⟨_, rfl⟩
        obtain ⟨u2, hu2⟩ : ∃ z, max o2 pB = z := ⟨_, rfl⟩
        rw [hu1, hu2] at KU
        simp only [hu1, hu2] at HS
        have ubd : -90000 ≤ u1 ∧ u1 ≤ u2 ∧ u2 ≤ 90000 := by omega
        clear hu1 hu2 cx
        have K5 := Lib.hid (fun W => fromC_any xa lo hi W)
        obtain ⟨bi, hbi⟩ : ∃ b, (decide (lo ≤ xa) && decide (xa ≤ hi)) = b := ⟨_, rfl⟩
        rw [hbi] at K5
        have HBI := Lib.hid hbi
        clear hbi
        have yX : ∀ i, w22.cell? ⟨aX, i, none⟩ = (#[.int .i64 xa, .int .i64 xv] : Array Value)[i]? := fun i => X21.out.cell i
        have yL : ∀ i, w22.cell? ⟨aL, i, none⟩ = (#[.int .i64 lo, .int .i64 hi] : Array Value)[i]? := fun i => L21.out.cell i
        go_wp2_with fail
        (with_reducible refine (K5.out _).mono ?_)
        rintro e w23 ⟨rfl, rfl⟩
        clear yX yL
        cases bi with
        | false =>
          have hs9 : HF (T.drop (k + 1)) (o1, o2) = VV := by
            have h := HS.out
            rw [if_neg (fun h9 => by have := HBI.out; simp at this; omega)] at h
            exact h.symm
          have HS9 := Lib.hid hs9
          clear hs9
          go_wp2
          go_roundg (n - (k + 1))
          case measure => omega
          case rel => exact ⟨k + 1, (o1, o2), by go_num, by omega, Nat.le_refl _, HS9.out, ho0, ho1, ho2, O21.out, I21.out, L21.out, R21.out, G21.out, b21.out⟩
        | true =>
          have hs9 : HF (T.drop (k + 1)) (u1, u2) = VV := by
            have h := HS.out
            rw [if_pos (by have := HBI.out; simp at this; omega)] at h
            exact h.symm
          have HS9 := Lib.hid hs9
          clear hs9
          go_upto_region 6 with fail
          have KXq := Lib.hid (fun (s : BQ w23) => KX.out s.w (b21.out.trans (s.hb.mono b21.out.size)))
          have KCq := Lib.hid (fun (a b : Int) (s : BQ w23) => KC.out a b s.w (G21.out.below s.hb G21.out.lt))
          have yO : ∀ (s : BQ w23) i, s.w.cell? ⟨aO, i, none⟩ = (#[.int .i64 o1, .int .i64 o2] : Array Value)[i]? := fun s i => (O21.out.below s.hb O21.out.lt).cell i
          have yI : ∀ (s : BQ w23) i, s.w.cell? ⟨aI, i, none⟩ = (#[.int .i64 ix, .slice (some ⟨b, off, none⟩) n c] : Array Value)[i]? := fun s i => (I21.out.below s.hb I21.out.lt).cell i
          have yX : ∀ (s : BQ w23) i, s.w.cell? ⟨aX, i, none⟩ = (#[.int .i64 xa, .int .i64 xv] : Array Value)[i]? := fun s i => (X21.out.below s.hb X21.out.lt).cell i
          refine wp_region_bqt 14 w23 (by kernel_rfl) (by kernel_rfl) (by kernel_rfl) (by kernel_rfl) (Below.refl _ _) ?_
          simp only [List.take_succ_cons, List.take_zero, List.drop_succ_cons, List.drop_zero]
          repeat (go_big_quiet_step (first | (go_at_call 52; exact quiet_bq (KXq.out _)) | (go_at_call 103; exact quiet_bq (KU.out _)) | (go_at_call 51; exact quiet_bq (KCq.out _ _ _)) | fail))
          refine wpQuiet_nil ?_
          intro w24 hb
          have I24 := Lib.hid (I21.out.below hb I21.out.lt)
          have L24 := Lib.hid (L21.out.below hb L21.out.lt)
          have R24 := Lib.hid (R21.out.below hb R21.out.lt)
          have G24 := Lib.hid (G21.out.below hb G21.out.lt)
          have O24 := Lib.hid (O21.out.below hb O21.out.lt)
          have X24 := Lib.hid (X21.out.below hb X21.out.lt)
          have b24 := Lib.hid (b21.out.trans (hb.mono b21.out.size))
          clear hb I21 L21 R21 G21 O21 X21 b21 yO yI yX
          clear KXq KCq
          have yO : ∀ i, w24.cell? ⟨aO, i, none⟩ = (#[.int .i64 o1, .int .i64 o2] : Array Value)[i]? := fun i => O24.out.cell i
          have zO : ∀ i, w24.frozen? ⟨aO, i, none⟩ = false := fun i => O24.out.frozen i
          have I25 := Lib.hid (((I24.out).far (p := ⟨aO, 0, none⟩) (show aI ≠ aO by omega) (.int .i64 u1)).far (p := ⟨aO, 1, none⟩) (show aI ≠ aO by omega) (.int .i64 u2))
          have L25 := Lib.hid (((L24.out).far (p := ⟨aO, 0, none⟩) (show aL ≠ aO by omega) (.int .i64 u1)).far (p := ⟨aO, 1, none⟩) (show aL ≠ aO by omega) (.int .i64 u2))
          have R25 := Lib.hid (((R24.out).far (p := ⟨aO, 0, none⟩) (show aR ≠ aO by omega) (.int .i64 u1)).far (p := ⟨aO, 1, none⟩) (show aR ≠ aO by omega) (.int .i64 u2))
          have G25 := Lib.hid (((G24.out).far (p := ⟨aO, 0, none⟩) (show g ≠ aO by omega) (.int .i64 u1)).far (p := ⟨aO, 1, none⟩) (show g ≠ aO by omega) (.int .i64 u2))
          have X25 := Lib.hid (((X24.out).far (p := ⟨aO, 0, none⟩) (show aX ≠ aO by omega) (.int .i64 u1)).far (p := ⟨aO, 1, none⟩) (show aX ≠ aO by omega) (.int .i64 u2))
          have O25 := Lib.hid ((show Blk ((w24.setCell ⟨aO, 0, none⟩ (.int .i64 u1)).setCell ⟨aO, 1, none⟩ (.int .i64 u2)) aO 41 #[.int .i64 u1, .int .i64 u2] from by simpa using ((show Blk (w24.setCell ⟨aO, 0, none⟩ (.int .i64 u1)) aO 41 #[.int .i64 u1, .int .i64 o2] from by simpa using (O24.out).set_ 0 (.int .i64 u1))).set_ 1 (.int .i64 u2)))
          have b25 := Lib.hid (((b24.out).setCell (p := ⟨aO, 0, none⟩) (show w.heap.size ≤ aO by omega) (.int .i64 u1)).setCell (p := ⟨aO, 1, none⟩) (show w.heap.size ≤ aO by omega) (.int .i64 u2))
          clear I24 L24 R24 G24 X24 O24 b24
          go_upto_region 7 with fail
          clear yO zO
          generalize ((w24.setCell ⟨aO, 0, none⟩ (.int .i64 u1)).setCell ⟨aO, 1, none⟩ (.int .i64 u2)) = w26 at *
          go_wp2
          go_roundg (n - (k + 1))
          case measure => omega
          case rel => exact ⟨k + 1, (u1, u2), by go_num, by omega, Nat.le_refl _, HS9.out, ubd.1, ubd.2.1, ubd.2.2, O25.out, I25.out, L25.out, R25.out, G25.out, b25.out⟩
end Go.Proofs.YtbpnacacnncopaaGreatDoor
