/- The walk of the law RegionContains. -/
import Derived.Shelf.Abstract
import Derived.Deep.RegionLaw
import Derived.Deep.DeepCutAuto
import Derived.BigRegion
import Derived.Test.YtifdgdgfmjfbdaaGreatHNm
import Derived.Test.YtifdgdgfmjfbdaaGreatHJc
import Derived.Test.YtifdgdgfmjfbdaaGreatHAm
import Derived.Test.YtifdgdgfmjfbdaaGreatHOd
import Derived.Test.YtifdgdgfmjfbdaaGreatHRl
set_option linter.unusedVariables false
set_option linter.unusedSimpArgs false
namespace Go.Proofs.YtifdgdgfmjfbdaaGreat
open Go.RowKit
theorem vr_parts {L : List Cl} (h : vrB L = true) : L.length ≤ 4000 ∧ (∀ x ∈ L, vldB x.1 x.2.1 x.2.2 = true) ∧ AllV L := by
  obtain ⟨h1, h2, _⟩ := (vrB_iff L).1 h
  exact ⟨h1, fun x hx => (vl_iff x).2 (h2 x hx), h2⟩
theorem vr_yes (A : Option Addr) (n c : Nat) (L : List Cl) (b : Bool) (hb : vrB L = b) (w : World) (hr : Reads w w.heap.size 3 A n (cvs L)) (hn : n ≤ maxLen) :
    Calls Tryz.prog 55 #[.slice A n c] w fun e w' => e = .returned (.bool b) ∧ Below w.heap.size w w' := by
  rw [← hb]; exact ValidRegion_any A n c L w hr hn
section
variable (A B : Option Addr) (n m ca cb : Nat) (L M : List Cl) (w : World) (ha : Reads w w.heap.size 3 A n (cvs L)) (hb : Reads w w.heap.size 3 B m (cvs M)) (hn : n ≤ maxLen) (hm : m ≤ maxLen)
include ha hb hn hm
end
end Go.Proofs.YtifdgdgfmjfbdaaGreat
namespace Go.Proofs.YtifdgdgfmjfbdaaGreat
open Go.RowKit
theorem boxOk_of {x : Cl} (hx : Vl x) : BoxOk (edg x.2.1 x.1 - 5400000) (edg (x.2.1 + 1) x.1 - 5400000) (edg x.2.2 x.1 - 10800000) (edg (x.2.2 + 1) x.1 - 10800000) := by
  obtain ⟨h1, h2, h3, h4, h5, h6, h7, h8⟩ := box_nums hx
  constructor <;> omega
theorem cellContains (x : Cl) (a b : Int) (W : World) (hx : Vl x) (hp : vptB a b = true) :
    Calls Tryz.prog 31 #[boxV x.1 x.2.1 x.2.2, .agg #[.int .i64 a, .int .i64 b]] W fun e w' => e = .returned (.tuple #[.bool (ptB x a b), .int .i64 0]) ∧ Below W.heap.size W w' :=
  placeContains_any _ _ _ _ a b W (boxOk_of hx) hp
theorem con_take (L : List Cl) (a b : Int) (k : Nat) (hk : k < L.length) (h : ((L.take k).any fun x => ptB x a b) = false) : ((L.take (k + 1)).any fun x => ptB x a b) = ptB (gt L k) a b := by
  rw [List.take_succ_eq_append_getElem hk, List.any_append, h]
  simp [gt, hk]
theorem con_of (L : List Cl) (a b : Int) (k : Nat) (hk : k < L.length) (h : ptB (gt L k) a b = true) : conB L a b = true := by
  unfold conB
  rw [List.any_eq_true]
  simp [gt, hk] at h
  exact ⟨L[k], List.getElem_mem hk, h⟩
set_option maxHeartbeats 1000000 in
set_option maxRecDepth 100000 in
theorem Contains_any (A : Option Addr) (n c : Nat) (L : List Cl) (a b : Int) (w : World) (hr : Reads w w.heap.size 3 A n (cvs L)) (hn : n ≤ maxLen) (hv : vrB L = true) (hp : vptB a b = true) :
    Calls Tryz.prog 18 #[.slice A n c, .agg #[.int .i64 a, .int .i64 b]] w fun e w' => e = .returned (.tuple #[.bool (conB L a b), .int .i64 0]) ∧ Below w.heap.size w w' := by
  obtain ⟨R, hR⟩ : ∃ R, R = conB L a b := ⟨_, rfl⟩
  rw [← hR]
  have HR := Lib.hid hR
  have HL := Lib.hid hr.len
  have RD : Hid (∀ W, Below w.heap.size w W → Reads W W.heap.size 3 A n (cvs L)) := Lib.hid (fun W hW => (hr.below hW).more hW.size)
  have K1 := Lib.hid (fun W hW => vr_yes A n c L true hv W (RD.out W hW) hn)
  have K2 := Lib.hid (vpt_yes a b hp)
  have AV := Lib.hid (vr_parts hv).2.2
  have HP := Lib.hid hp
  have hlen := (vr_parts hv).1
  rw [hr.len] at hlen
  clear hR hr hv hp hn
  go_enter Tryz.func18, Tryz.ntmps18
  go_wp2_with fail
  have b0 := bl_alloc w (.cells #[.int .i64 a, .int .i64 b] 24)
  (with_reducible refine (K1.out _ b0).mono ?_)
  rintro e w1 ⟨rfl, hb1⟩
  have hb1' := b0.trans (hb1.mono (by simp))
  have hz1 := one_lt hb1
  have y0 := (hb1.cell (p := ⟨w.heap.size, 0, none⟩) (by simp)).trans (show _ = some (.int .i64 a) by simp)
  have y1 := (hb1.cell (p := ⟨w.heap.size, 1, none⟩) (by simp)).trans (show _ = some (.int .i64 b) by simp)
  clear hb1 b0
  go_wp2_with fail
  (with_reducible refine (K2.out _).mono ?_)
  rintro e w2 ⟨rfl, hb2⟩
  have hb2' := hb1'.trans (hb2.mono hb1'.size)
  have y0 := (hb2.cell (p := ⟨w.heap.size, 0, none⟩) hz1).trans y0
  have y1 := (hb2.cell (p := ⟨w.heap.size, 1, none⟩) hz1).trans y1
  have hz2 : w.heap.size < w2.heap.size := Nat.lt_of_lt_of_le hz1 hb2.size
  clear hb2 hb1' K1 K2 hz1
  go_wp2_with fail
  go_loopw [20] (fun i wr => ∃ k : Nat, k ≤ n ∧ i = .int .i64 k ∧ ((L.take k).any fun x => ptB x a b) = false ∧ Below w2.heap.size w2 wr) (fun i _ => n - (intOf i).toNat)
  case atStart => exact ⟨0, Nat.zero_le _, rfl, rfl, Below.refl _ _⟩
  case round =>
    obtain ⟨k, hk, rfl, hno, hbr⟩ := hrel
    have hzr := hbr.size
    by_cases hlt : k < n
    · have hbw := hb2'.trans (hbr.mono hb2'.size)
      obtain ⟨bk, off, rfl, hbk, x1, x2, x3⟩ := (RD.out wr hbw).elem hlt
      have hkl : k < L.length := by rw [HL.out]; exact hlt
      have hx := AV.out (gt L k) (by simp [gt, hkl])
      have KB := Lib.hid (fun W => box_any (gt L k).1 (gt L k).2.1 (gt L k).2.2 W ((vl_iff _).2 hx))
      have KC := Lib.hid (fun W => cellContains (gt L k) a b W hx HP.out)
      have h1 := Lib.hid (con_take L a b k hkl hno)
      have h2 := Lib.hid (con_of L a b k hkl)
      generalize gt L k = x at x1 x2 x3 KB KC h1 h2
      obtain ⟨xl, xr, xc⟩ := x
      simp only [] at x1 x2 x3 KB KC
      generalize ptB (xl, xr, xc) a b = z at KC h1 h2
      clear hx hno
      go_upto_region 6 with fail
      generalize hW5 : wr.alloc (.cells #[.int .i64 xl, .int .i64 xr, .int .i64 xc] 102) = w5
      have hz5 : wr.heap.size < w5.heap.size := by rw [← hW5]; simp
      have hb5 : Below w2.heap.size w2 w5 := by rw [← hW5]; exact hbr.alloc hzr _
      have c0 : ∀ s : BV w5, s.w.cell? ⟨wr.heap.size, 0, none⟩ = some (.int .i64 xl) := fun s => (s.hb.cell (p := ⟨wr.heap.size, 0, none⟩) hz5).trans (by rw [← hW5]; simp)
      have c1 : ∀ s : BV w5, s.w.cell? ⟨wr.heap.size, 1, none⟩ = some (.int .i64 xr) := fun s => (s.hb.cell (p := ⟨wr.heap.size, 1, none⟩) hz5).trans (by rw [← hW5]; simp)
      have c2 : ∀ s : BV w5, s.w.cell? ⟨wr.heap.size, 2, none⟩ = some (.int .i64 xc) := fun s => (s.hb.cell (p := ⟨wr.heap.size, 2, none⟩) hz5).trans (by rw [← hW5]; simp)
      have c3 : ∀ s : BV w5, s.w.cell? ⟨w.heap.size, 0, none⟩ = some (.int .i64 a) := fun s => (s.hb.cell (p := ⟨w.heap.size, 0, none⟩) (by simp only []; omega)).trans ((hb5.cell (p := ⟨w.heap.size, 0, none⟩) hz2).trans y0)
      have c4 : ∀ s : BV w5, s.w.cell? ⟨w.heap.size, 1, none⟩ = some (.int .i64 b) := fun s => (s.hb.cell (p := ⟨w.heap.size, 1, none⟩) (by simp only []; omega)).trans ((hb5.cell (p := ⟨w.heap.size, 1, none⟩) hz2).trans y1)
      clear hW5 x1 x2 x3
      refine wp_region_bv w5 (by kernel_rfl) (by kernel_rfl) (Below.refl _ _) ?_
      (repeat (go_big_quiet_step (first | (go_at_call 56; with_reducible exact quiet_bv (KB.out _)) | (go_at_call 31; with_reducible exact quiet_bv (KC.out _)) | fail)))
      refine wpQuiet_nil ?_
      intro w9 hb9
      have hb9' : Below w2.heap.size w2 w9 := hb5.trans (hb9.mono hb5.size)
      clear c0 c1 c2 c3 c4 KB KC
      cases z with
      | true =>
        have hE : Hid (R = true) := Lib.hid (by rw [HR.out]; exact h2.out rfl)
        go_wp2
        go_ret2
        exact ⟨by rw [hE.out]; rfl, hb2'.trans (hb9'.mono hb2'.size)⟩
      | false =>
        go_wp2
        go_roundw
        case rel => exact ⟨k + 1, by omega, by go_num, h1.out, hb9'⟩
        case measure => simp [intOf]; omega
    · have hkn : k = n := by omega
      have hE : Hid (R = false) := Lib.hid (by rw [HR.out]; unfold conB; rw [List.take_of_length_le (by rw [HL.out]; omega)] at hno; exact hno)
      clear hno
      go_wp2
      go_ret2
      exact ⟨by rw [hE.out]; rfl, hb2'.trans (hbr.mono hb2'.size)⟩
end Go.Proofs.YtifdgdgfmjfbdaaGreat
namespace Go.Proofs.YtifdgdgfmjfbdaaGreat
open Go.RowKit
theorem place35_any (a b : Int) (w : World) : Calls Tryz.prog 38 #[.agg #[.int .i64 a, .int .i64 b]] w fun e w' => e = .returned (.agg #[.int .i64 a, .int .i64 a, .int .i64 b, .int .i64 b]) ∧ Below w.heap.size w w' := by
  go_enter Tryz.func38, Tryz.ntmps38
  go_wp2
  refine bodyPost_ret (v := .agg #[.int .i64 a, .int .i64 a, .int .i64 b, .int .i64 b]) (by simp [results, Tryz.results38, go_sem]) rfl ⟨rfl, ?_⟩
  repeat (first | exact Below.refl _ _ | assumption | refine bl_drew ?_ | refine bl_drewN ?_ _ | refine Below.setCell ?_ (by first | assumption | omega | (simp; done) | (simp; omega)) _ | refine Below.alloc ?_ (by first | assumption | omega | (simp; done) | (simp; omega)) _)
def ShF (a b : Int) (w : World) (e : Ending) (w' : World) : Prop :=
  (∃ (a0 a1 o0 o1 r0 r1 : Int) (ok : Bool), e = .returned (.tuple #[.agg #[.int .i64 a0, .int .i64 a1, .int .i64 o0, .int .i64 o1, .int .i64 r0, .int .i64 r1], .bool ok]) ∧ (ok = true → VCi ((a0, a1, o0, o1), r0, r1) ∧ sdV (sinPt ((a0, a1, o0, o1), r0, r1) a b) (Trig.csP (r0, r1)) = 0)) ∧ Below w.heap.size w w'
theorem sharp_flat (g0 g1 d0 d1 s0 s1 p0 p1 a b wide : Int) (w : World) (hv : vptB a b = true) (w0 : 0 ≤ wide) (w1 : wide ≤ 65535) :
    Calls Tryz.prog 37 #[.agg #[.int .i64 g0, .int .i64 g1, .int .i64 d0, .int .i64 d1, .int .i64 s0, .int .i64 s1, .int .i64 p0, .int .i64 p1], .agg #[.int .i64 a, .int .i64 b], .int .i64 wide] w (ShF a b w) :=
  (sharp_any g0 g1 d0 d1 s0 s1 p0 p1 a b wide w hv w0 w1).mono fun e w' ⟨⟨k, ok, he, hk⟩, hb⟩ => by
    obtain ⟨⟨a0, a1, o0, o1⟩, r0, r1⟩ := k
    exact ⟨⟨a0, a1, o0, o1, r0, r1, ok, he, hk⟩, hb⟩
theorem vp_pt {a b : Int} (h : vptB a b = true) : VP (a, a, b, b) := by
  have := vptB_true.1 h
  exact ⟨Int.le_refl _, by simp only []; omega, by simp only []; omega, .inr ⟨by simp only []; omega, by simp only []; omega, Int.le_refl _, by simp only []; omega⟩⟩
set_option maxHeartbeats 16000000 in
set_option maxRecDepth 100000 in
theorem regionContains_any (a b : Int) (A : Option Addr) (n c : Nat) (G : List Ge) (wide : Int) (Al : Option Addr) (nl cl : Nat) (L : List Cl) (lv : Int) (w : World) (hrg : Reads w w.heap.size 8 A n (gels G)) (hnc : n ≤ c) (hcm : c ≤ maxLen) (hw0 : 0 ≤ wide) (hw1 : wide ≤ 65535)
    (hrl : Reads w w.heap.size 3 Al nl (cvs L)) (hnl : nl ≤ cl) (hcl : cl ≤ maxLen) (l0 : 0 ≤ lv) (l1 : lv ≤ 255) :
    Calls Tryz.prog 7 #[.agg #[.int .i64 a, .int .i64 b], .slice A n c, .int .u16 wide, .slice Al nl cl, .int .u8 lv] w fun e w' => e = .returned (.bool true) ∧ Below w.heap.size w w' := by
  have hln := hrl.len
  have KA := Lib.hid awake39
  obtain ⟨lev, hlev⟩ : ∃ k : Int, lv % 17 = k := ⟨_, rfl⟩
  have b0 : 0 ≤ lev ∧ lev ≤ 16 := by omega
  have t0 : lv.tmod 17 = lev := by rw [Int.tmod_eq_emod_of_nonneg l0]; exact hlev
  have u0 : wrap64 lv = lv := IntWalk.wrap64_in _ (by omega)
  have u2 : wrap64 lev = lev := IntWalk.wrap64_in _ (by omega)
  have u3 : wrap64 wide = wide := IntWalk.wrap64_in _ (by omega)
  clear hlev
  have KP := fun W => refVpt_any a b W
  have PB := Lib.hid (Blk.new w 24 #[.int .i64 a, .int .i64 b])
  have B0 := Lib.hid (bl_alloc w (.cells #[.int .i64 a, .int .i64 b] 24))
  have RG : Hid (∀ W, Below w.heap.size w W → Reads W W.heap.size 8 A n (gels G)) := Lib.hid fun W h => (hrg.below h).more h.size
  have RL : Hid (∀ W, Below w.heap.size w W → Reads W W.heap.size 3 Al nl (cvs L)) := Lib.hid fun W h => (hrl.below h).more h.size
  clear hrg hrl
  by_cases c1 : 4 < n
  · have dc1 : decide ((4 : Int) < (n : Int)) = true := decide_eq_true (by omega)
    clear KP
    go_enter Tryz.func7, Tryz.ntmps7
    go_upto_region 1 with (fail)
    generalize w.alloc (.cells #[.int .i64 a, .int .i64 b] 24) = w9 at PB B0 ⊢
    go_wp2_with fail
    (with_reducible refine (KA.out _).mono ?_)
    rintro e w1 ⟨rfl, hb1⟩
    have B1 := Lib.hid (B0.out.trans (hb1.mono B0.out.size))
    clear hb1 KA PB B0
    go_wp2
    go_ret
    exact ⟨rfl, B1.out⟩
  have dc1 : decide ((4 : Int) < (n : Int)) = false := decide_eq_false (by omega)
  by_cases c2 : 100 < nl
  · have dc2 : decide ((100 : Int) < (nl : Int)) = true := decide_eq_true (by omega)
    clear KP
    go_enter Tryz.func7, Tryz.ntmps7
    go_upto_region 1 with (fail)
    generalize w.alloc (.cells #[.int .i64 a, .int .i64 b] 24) = w9 at PB B0 ⊢
    go_wp2_with fail
    (with_reducible refine (KA.out _).mono ?_)
    rintro e w1 ⟨rfl, hb1⟩
    have B1 := Lib.hid (B0.out.trans (hb1.mono B0.out.size))
    clear hb1 KA PB B0
    go_wp2
    go_ret
    exact ⟨rfl, B1.out⟩
  have dc2 : decide ((100 : Int) < (nl : Int)) = false := decide_eq_false (by omega)
  have KR := fun (W : World) (h : Below w.heap.size w W) => refVR_any Al nl cl L W (RL.out W h) hnl hcl
  rw [rvrB_eq] at KR
  cases hvp : vptB a b with
  | false =>
    rw [hvp] at KP
    have KP := Lib.hid KP
    clear KR
    go_enter Tryz.func7, Tryz.ntmps7
    go_upto_region 1 with (fail)
    generalize w.alloc (.cells #[.int .i64 a, .int .i64 b] 24) = w9 at PB B0 ⊢
    go_wp2_with fail
    (with_reducible refine (KA.out _).mono ?_)
    rintro e w1 ⟨rfl, hb1⟩
    have P1 := Lib.hid (PB.out.below hb1 PB.out.lt)
    have B1 := Lib.hid (B0.out.trans (hb1.mono B0.out.size))
    clear hb1 KA PB B0
    have x0 : w1.cell? ⟨w.heap.size, 0, none⟩ = some (.int .i64 a) := P1.out.cell 0
    have x1 : w1.cell? ⟨w.heap.size, 1, none⟩ = some (.int .i64 b) := P1.out.cell 1
    go_wp2_with fail
    (with_reducible refine (KP.out _).mono ?_)
    rintro e w2 ⟨rfl, hb2⟩
    have B2 := Lib.hid (B1.out.trans (hb2.mono B1.out.size))
    clear hb2 KP x0 x1 P1 B1
    go_wp2
    go_ret
    exact ⟨rfl, B2.out⟩
  | true =>
  rw [hvp] at KP
  have KP := Lib.hid KP
  cases hvl : vrB L with
  | false =>
    rw [hvl] at KR
    have KR := Lib.hid KR
    go_enter Tryz.func7, Tryz.ntmps7
    go_upto_region 1 with (fail)
    generalize w.alloc (.cells #[.int .i64 a, .int .i64 b] 24) = w9 at PB B0 ⊢
    go_wp2_with fail
    (with_reducible refine (KA.out _).mono ?_)
    rintro e w1 ⟨rfl, hb1⟩
    have P1 := Lib.hid (PB.out.below hb1 PB.out.lt)
    have B1 := Lib.hid (B0.out.trans (hb1.mono B0.out.size))
    clear hb1 KA PB B0
    have x0 : w1.cell? ⟨w.heap.size, 0, none⟩ = some (.int .i64 a) := P1.out.cell 0
    have x1 : w1.cell? ⟨w.heap.size, 1, none⟩ = some (.int .i64 b) := P1.out.cell 1
    go_wp2_with fail
    (with_reducible refine (KP.out _).mono ?_)
    rintro e w2 ⟨rfl, hb2⟩
    have B2 := Lib.hid (B1.out.trans (hb2.mono B1.out.size))
    clear hb2 KP x0 x1 P1 B1
    have KR2 := Lib.hid (KR.out w2 B2.out)
    go_wp2_with fail
    (with_reducible refine (KR2.out).mono ?_)
    rintro e w3 ⟨rfl, hb3⟩
    have B3 := Lib.hid (B2.out.trans (hb3.mono B2.out.size))
    clear hb3 KR KR2 B2
    go_wp2
    go_ret
    exact ⟨rfl, B3.out⟩
  | true =>
  rw [hvl] at KR
  have KR := Lib.hid KR
  have HVL := Lib.hid hvl
  have HVP := Lib.hid hvp
  clear hvl hvp
  obtain ⟨i0, hi0, hz0, hz1, hzb⟩ := info_parts Tryz.infoCircle
  have KPl := Lib.hid (fun W => place35_any a b W)
  go_enter Tryz.func7, Tryz.ntmps7
  go_upto_region 1 with (fail)
  generalize w.alloc (.cells #[.int .i64 a, .int .i64 b] 24) = w9 at PB B0 ⊢
  go_wp2_with fail
  (with_reducible refine (KA.out _).mono ?_)
  rintro e w1 ⟨rfl, hb1⟩
  have P1 := Lib.hid (PB.out.below hb1 PB.out.lt)
  have B1 := Lib.hid (B0.out.trans (hb1.mono B0.out.size))
  clear hb1 KA PB B0
  have x0 : w1.cell? ⟨w.heap.size, 0, none⟩ = some (.int .i64 a) := P1.out.cell 0
  have x1 : w1.cell? ⟨w.heap.size, 1, none⟩ = some (.int .i64 b) := P1.out.cell 1
  go_wp2_with fail
  (with_reducible refine (KP.out _).mono ?_)
  rintro e w2 ⟨rfl, hb2⟩
  have P2 := Lib.hid (P1.out.below hb2 P1.out.lt)
  have B2 := Lib.hid (B1.out.trans (hb2.mono B1.out.size))
  clear hb2 KP x0 x1 P1 B1
  have KR2 := Lib.hid (KR.out w2 B2.out)
  go_wp2_with fail
  (with_reducible refine (KR2.out).mono ?_)
  rintro e w4 ⟨rfl, hb3⟩
  have P4 := Lib.hid (P2.out.below hb3 P2.out.lt)
  have B4 := Lib.hid (B2.out.trans (hb3.mono B2.out.size))
  clear hb3 KR KR2 B2 P2
  have hz4 : w.heap.size < w4.heap.size := P4.out.lt
  go_wp2
  go_loopg [11, 49] n (fun gz s11 s49 wr => ∃ (k : Nat) (M : List Ci), k ≤ n ∧ n - k ≤ gz ∧ s49 = .int .i64 k ∧ M.length ≤ k ∧ (∀ x ∈ M, VCi x ∧ sdV (sinPt x a b) (Trig.csP x.2) = 0) ∧ wr.ownsRow w4.heap.size 39 6 s11 M.length (civs M) ∧ Below w4.heap.size w4 wr)
  case atStart => exact ⟨0, [], Nat.zero_le _, by omega, rfl, Nat.le_refl _, fun x hx => (by cases hx), own_nil _ _ _ _, Below.refl _ _⟩
  case round =>
    obtain ⟨k, M, hk, hg, rfl, hMk, hM, hown, hbr⟩ := hrel
    have HM := Lib.hid hM
    have HBR := Lib.hid hbr
    have BR := Lib.hid (B4.out.trans (hbr.mono B4.out.size))
    have PR := Lib.hid (P4.out.below hbr P4.out.lt)
    have hzr := hbr.size
    obtain ⟨A5, c5, hv5, -, -, -⟩ := own_form hown
    subst hv5
    have OW := Lib.hid hown
    clear hM hbr hown P4 B4
    by_cases hlt : k < n
    · obtain ⟨bb, off, rfl, hbb, y0, y1, y2, y3, y4, y5, y6, y7⟩ := (RG.out wr BR.out).elemG hlt
      generalize gge G k = x at y0 y1 y2 y3 y4 y5 y6 y7
      obtain ⟨⟨⟨g0, g1, d0, d1⟩, s0, s1⟩, q0, q1⟩ := x
      simp only [] at y0 y1 y2 y3 y4 y5 y6 y7
      have hba := (bl_alloc wr (.cells #[.int .i64 g0, .int .i64 g1, .int .i64 d0, .int .i64 d1, .int .i64 s0, .int .i64 s1, .int .i64 q0, .int .i64 q1] 80)).mono hzr
      have GB := Lib.hid (Blk.new wr 80 #[.int .i64 g0, .int .i64 g1, .int .i64 d0, .int .i64 d1, .int .i64 s0, .int .i64 s1, .int .i64 q0, .int .i64 q1])
      have H5 := Lib.hid (HBR.out.trans (hba.mono (Nat.le_refl _)))
      have O5 := Lib.hid (OW.out.alloc (.cells #[.int .i64 g0, .int .i64 g1, .int .i64 d0, .int .i64 d1, .int .i64 s0, .int .i64 s1, .int .i64 q0, .int .i64 q1] 80))
      have P5 := Lib.hid (PR.out.below hba (by have := hz4; omega))
      clear hba HBR OW PR BR
      go_upto_region 9 with (fail)
      generalize hw5 : wr.alloc (.cells #[.int .i64 g0, .int .i64 g1, .int .i64 d0, .int .i64 d1, .int .i64 s0, .int .i64 s1, .int .i64 q0, .int .i64 q1] 80) = w5 at GB H5 O5 P5 ⊢
      clear hw5 y0 y1 y2 y3 y4 y5 y6 y7 hbb
      have z0 : w5.cell? ⟨wr.heap.size, 0, none⟩ = some (.int .i64 g0) := GB.out.cell 0
      have z1 : w5.cell? ⟨wr.heap.size, 1, none⟩ = some (.int .i64 g1) := GB.out.cell 1
      have z2 : w5.cell? ⟨wr.heap.size, 2, none⟩ = some (.int .i64 d0) := GB.out.cell 2
      have z3 : w5.cell? ⟨wr.heap.size, 3, none⟩ = some (.int .i64 d1) := GB.out.cell 3
      have z4 : w5.cell? ⟨wr.heap.size, 4, none⟩ = some (.int .i64 s0) := GB.out.cell 4
      have z5 : w5.cell? ⟨wr.heap.size, 5, none⟩ = some (.int .i64 s1) := GB.out.cell 5
      have z6 : w5.cell? ⟨wr.heap.size, 6, none⟩ = some (.int .i64 q0) := GB.out.cell 6
      have z7 : w5.cell? ⟨wr.heap.size, 7, none⟩ = some (.int .i64 q1) := GB.out.cell 7
      have x0 : w5.cell? ⟨w.heap.size, 0, none⟩ = some (.int .i64 a) := P5.out.cell 0
      have x1 : w5.cell? ⟨w.heap.size, 1, none⟩ = some (.int .i64 b) := P5.out.cell 1
      have KS := Lib.hid (sharp_flat g0 g1 d0 d1 s0 s1 q0 q1 a b wide w5 HVP.out hw0 hw1)
      have hz5 := H5.out.size
      generalize wr.heap.size = gr at z0 z1 z2 z3 z4 z5 z6 z7 GB hzr ⊢
      go_wp2_with fail
      (with_reducible refine (KS.out).mono ?_)
      rintro e w6 ⟨⟨a0, a1, o0, o1, r0, r1, ok, rfl, hok⟩, hb6⟩
      have hb6a := (hb6.alloc hb6.size (.cells #[.int .i64 a0, .int .i64 a1, .int .i64 o0, .int .i64 o1, .int .i64 r0, .int .i64 r1] 39)).mono hz5
      have CB := Lib.hid (Blk.new w6 39 #[.int .i64 a0, .int .i64 a1, .int .i64 o0, .int .i64 o1, .int .i64 r0, .int .i64 r1])
      have H7 := Lib.hid (H5.out.trans hb6a)
      have O7 := Lib.hid ((own_bl O5.out hb6 (Nat.le_refl _)).alloc (.cells #[.int .i64 a0, .int .i64 a1, .int .i64 o0, .int .i64 o1, .int .i64 r0, .int .i64 r1] 39))
      have P7 := Lib.hid (P5.out.below hb6a (by have := hz4; omega))
      have HOK := Lib.hid hok
      clear z0 z1 z2 z3 z4 z5 z6 z7 x0 x1 hb6 hb6a GB H5 O5 P5 KS hok hz5
      go_upto_region 10 with (fail)
      generalize hw7 : w6.alloc (.cells #[.int .i64 a0, .int .i64 a1, .int .i64 o0, .int .i64 o1, .int .i64 r0, .int .i64 r1] 39) = w7 at CB H7 O7 P7 ⊢
      clear hw7
      generalize w6.heap.size = gc at CB ⊢
      cases ok with
      | false =>
        go_wp2
        go_roundg (n - (k + 1))
        case measure => omega
        case rel => exact ⟨k + 1, M, by omega, by omega, by go_num, by omega, HM.out, O7.out, H7.out⟩
      | true =>
        obtain ⟨hvc, hsd⟩ := HOK.out rfl
        have HVC := Lib.hid hvc
        have HSD := Lib.hid hsd
        have KSd := fun W => Side_yes a0 a1 o0 o1 r0 r1 a a b b W hvc.vc (vp_pt HVP.out)
        rw [show sdV (Trig.sinT (a, a) (a0, a1) (b - o1, b - o0)) (Trig.csP (r0, r1)) = 0 from hsd] at KSd
        have KSd := Lib.hid KSd
        clear hvc hsd HOK
        have k0 : ∀ s : BV w7, s.w.cell? ⟨gc, 0, none⟩ = some (.int .i64 a0) := fun s => (s.hb.cell (p := ⟨gc, 0, none⟩) CB.out.lt).trans (CB.out.cell 0)
        have k1 : ∀ s : BV w7, s.w.cell? ⟨gc, 1, none⟩ = some (.int .i64 a1) := fun s => (s.hb.cell (p := ⟨gc, 1, none⟩) CB.out.lt).trans (CB.out.cell 1)
        have k2 : ∀ s : BV w7, s.w.cell? ⟨gc, 2, none⟩ = some (.int .i64 o0) := fun s => (s.hb.cell (p := ⟨gc, 2, none⟩) CB.out.lt).trans (CB.out.cell 2)
        have k3 : ∀ s : BV w7, s.w.cell? ⟨gc, 3, none⟩ = some (.int .i64 o1) := fun s => (s.hb.cell (p := ⟨gc, 3, none⟩) CB.out.lt).trans (CB.out.cell 3)
        have k4 : ∀ s : BV w7, s.w.cell? ⟨gc, 4, none⟩ = some (.int .i64 r0) := fun s => (s.hb.cell (p := ⟨gc, 4, none⟩) CB.out.lt).trans (CB.out.cell 4)
        have k5 : ∀ s : BV w7, s.w.cell? ⟨gc, 5, none⟩ = some (.int .i64 r1) := fun s => (s.hb.cell (p := ⟨gc, 5, none⟩) CB.out.lt).trans (CB.out.cell 5)
        have k6 : ∀ s : BV w7, s.w.cell? ⟨w.heap.size, 0, none⟩ = some (.int .i64 a) := fun s => (s.hb.cell (p := ⟨w.heap.size, 0, none⟩) P7.out.lt).trans (P7.out.cell 0)
        have k7 : ∀ s : BV w7, s.w.cell? ⟨w.heap.size, 1, none⟩ = some (.int .i64 b) := fun s => (s.hb.cell (p := ⟨w.heap.size, 1, none⟩) P7.out.lt).trans (P7.out.cell 1)
        go_upto_region 11 with (fail)
        refine wp_region_bv w7 (by kernel_rfl) (by kernel_rfl) (Below.refl _ _) ?_
        (repeat (go_big_quiet_step (first | (go_at_call 38; with_reducible exact quiet_bv (KPl.out _)) | (go_at_call 12; with_reducible exact quiet_bv (KSd.out _)) | fail)))
        refine wpQuiet_nil ?_
        intro w8 hb8
        have C8 := Lib.hid (CB.out.below hb8 CB.out.lt)
        have hz7 := H7.out.size
        have H8 := Lib.hid (H7.out.trans (hb8.mono hz7))
        have O8 := Lib.hid (own_bl O7.out hb8 (Nat.le_refl _))
        clear k0 k1 k2 k3 k4 k5 k6 k7 hb8 CB H7 O7 P7 KSd
        have k0 : w8.cell? ⟨gc, 0, none⟩ = some (.int .i64 a0) := C8.out.cell 0
        have k1 : w8.cell? ⟨gc, 1, none⟩ = some (.int .i64 a1) := C8.out.cell 1
        have k2 : w8.cell? ⟨gc, 2, none⟩ = some (.int .i64 o0) := C8.out.cell 2
        have k3 : w8.cell? ⟨gc, 3, none⟩ = some (.int .i64 o1) := C8.out.cell 3
        have k4 : w8.cell? ⟨gc, 4, none⟩ = some (.int .i64 r0) := C8.out.cell 4
        have k5 : w8.cell? ⟨gc, 5, none⟩ = some (.int .i64 r1) := C8.out.cell 5
        have hz8 := H8.out.size
        go_wp2_with (at_builtin; (refine wpList_append_any _ rfl (.tmp 75) (.tmp 77) _ rfl w4.heap.size 39 i0 _ 6 48 Tryz.underlying35 hi0 hz0 hz1 hzb rfl (by decide) (.slice A5 M.length c5) M.length (civs M) rfl (O8.out.alloc _) (w8.heap.size + 1) (some ⟨w8.heap.size, 0, none⟩) 1 1 (civs [((a0, a1, o0, o1), r0, r1)]) rfl (by simpa using circ_reads (x := ((a0, a1, o0, o1), r0, r1)) (Blk.new w8 39 #[.int .i64 a0, .int .i64 a1, .int .i64 o0, .int .i64 o1, .int .i64 r0, .int .i64 r1])) (civs_one _) (by simp only [maxLen]; omega) (by omega) (by simp; omega) ?_); intro v3 w3 hown3 hg3 hat3)
        go_roundg (n - (k + 1))
        case measure => omega
        case rel =>
          rw [← civs_append] at hown3
          refine ⟨k + 1, M ++ [((a0, a1, o0, o1), r0, r1)], by omega, by omega, by go_num, by simp; omega, fun x hx => ?_, by simpa using hown3, (H8.out.alloc hz8 _).grown hg3 (by simp; omega) (own_base O8.out)⟩
          rcases List.mem_append.1 hx with h | h
          · exact HM.out x h
          · simp at h; subst h; exact ⟨HVC.out, HSD.out⟩
    · have HRM := Lib.hid (Reads.of_own OW.out)
      obtain ⟨hLV, hT⟩ := vr_td HVL.out
      have hK : ∀ x ∈ M, VCi x := fun x hx => (HM.out x hx).1
      have KO := Lib.hid (rOf_any M A5 M.length c5 L Al nl cl lev 300 wr hK (by omega) HRM.out (RL.out wr BR.out) hnl hcl HVL.out b0.1 b0.2 (by decide) (by decide))
      have K1 := Lib.hid (fun (W : World) (h : Below wr.heap.size wr W) (hc : prN (agP M) (suP M) lev L ≤ 4000) => Of39_yes M A5 M.length c5 L Al nl cl lev W hK (by omega) ((HRM.out.below h).more h.size) (RL.out W (BR.out.trans (h.mono BR.out.size))) HVL.out b0.1 b0.2 hc)
      have hva := prA_v (ag := agP M) (su := suP M) b0.2 hLV
      have hcon : prN (agP M) (suP M) lev L ≤ 4000 → conB L a b = true → conB (canonC (covL (prA (agP M) (suP M) lev L))) a b = true := fun _ hc => prA_ptP hK b0.2 hLV HVP.out hc (fun x hx => (HM.out x hx).2)
      have hra : prN (agP M) (suP M) lev L ≤ 4000 → vrB (canonC (covL (prA (agP M) (suP M) lev L))) = true := fun h => can_vr hva.1 (by have := hva.2.2.1; omega)
      have hcl9 : (canonC (covL (prA (agP M) (suP M) lev L))).length ≤ prN (agP M) (suP M) lev L := can_pr (K := M) hLV b0.2
      generalize canonC (covL (prA (agP M) (suP M) lev L)) = R at K1 hcon hra hcl9
      have HCON := Lib.hid hcon
      have HRA := Lib.hid hra
      clear hK hLV hT hva hcon hra HM HRM OW HBR RG
      go_wp2_with fail
      (with_reducible refine (KO.out).mono ?_)
      rintro e w6 ⟨v6, E6, rfl, hb6, he6⟩
      have P6 := Lib.hid (PR.out.below hb6 PR.out.lt)
      have B6 := Lib.hid (BR.out.trans (hb6.mono BR.out.size))
      have BB6 := Lib.hid hb6
      clear hb6 KO PR BR
      by_cases hE6 : E6 = 0
      · subst hE6
        have hck := he6 rfl
        have hck2 : prN (agP M) (suP M) lev L ≤ 4000 := by omega
        have hrl9 : R.length ≤ 4000 := by omega
        have KO2 := Lib.hid (K1.out w6 BB6.out hck2)
        have HC2 := Lib.hid (HCON.out hck2)
        have HV2 := Lib.hid (HRA.out hck2)
        clear he6 hck hck2 K1 HCON HRA BB6 hcl9
        go_wp2_with fail
        (with_reducible refine (KO2.out).mono ?_)
        rintro e w7 ⟨v7, rfl, ho7, hb7⟩
        have P7 := Lib.hid (P6.out.below hb7 P6.out.lt)
        have B7 := Lib.hid (B6.out.trans (hb7.mono B6.out.size))
        obtain ⟨Aa, ca, rfl, hraa, hna, hma⟩ := own_form ho7
        have RA7 := Lib.hid hraa
        clear ho7 hb7 hraa KO2 P6 B6
        have KV1 := refVR_any Aa R.length ca R w7 RA7.out hna hma
        rw [rvrB_eq, HV2.out] at KV1
        have KV1 := Lib.hid KV1
        go_wp2_with fail
        (with_reducible refine (KV1.out).mono ?_)
        rintro e w8 ⟨rfl, hb8⟩
        have P8 := Lib.hid (P7.out.below hb8 P7.out.lt)
        have B8 := Lib.hid (B7.out.trans (hb8.mono B7.out.size))
        have RA8 := Lib.hid ((RA7.out.below hb8).more hb8.size)
        clear hb8 KV1 P7 B7 RA7
        have x0 : w8.cell? ⟨w.heap.size, 0, none⟩ = some (.int .i64 a) := P8.out.cell 0
        have x1 : w8.cell? ⟨w.heap.size, 1, none⟩ = some (.int .i64 b) := P8.out.cell 1
        have KC1 := Lib.hid (Contains_any Al nl cl L a b w8 (RL.out w8 B8.out) (Nat.le_trans hnl hcl) HVL.out HVP.out)
        obtain ⟨bi, hbi⟩ : ∃ bi, conB L a b = bi := ⟨_, rfl⟩
        obtain ⟨bo, hbo⟩ : ∃ bo, conB R a b = bo := ⟨_, rfl⟩
        have HIM := HC2.out
        rw [hbi] at KC1 HIM
        rw [hbo] at HIM
        have HBO := Lib.hid hbo
        clear hbi hbo HC2
        go_wp2_with fail
        (with_reducible refine (KC1.out).mono ?_)
        rintro e w9 ⟨rfl, hb9⟩
        have P9 := Lib.hid (P8.out.below hb9 P8.out.lt)
        have B9 := Lib.hid (B8.out.trans (hb9.mono B8.out.size))
        have RA9 := Lib.hid ((RA8.out.below hb9).more hb9.size)
        clear hb9 KC1 x0 x1 P8 B8 RA8
        have x0 : w9.cell? ⟨w.heap.size, 0, none⟩ = some (.int .i64 a) := P9.out.cell 0
        have x1 : w9.cell? ⟨w.heap.size, 1, none⟩ = some (.int .i64 b) := P9.out.cell 1
        have KC2 := Contains_any Aa R.length ca R a b w9 RA9.out (by simp only [maxLen]; omega) HV2.out HVP.out
        rw [HBO.out] at KC2
        have KC2 := Lib.hid KC2
        clear HBO
        go_wp2_with fail
        (with_reducible refine (KC2.out).mono ?_)
        rintro e w10 ⟨rfl, hb10⟩
        have B10 := Lib.hid (B9.out.trans (hb10.mono B9.out.size))
        clear hb10 x0 x1 KC2 P9 B9 RA9
        cases bi with
        | false =>
          clear HIM
          go_wp2
          go_ret
          exact ⟨rfl, B10.out⟩
        | true =>
          obtain rfl : bo = true := HIM rfl
          clear HIM
          go_wp2
          go_ret
          exact ⟨rfl, B10.out⟩
      · have hbe : (E6 != 0) = true := by simpa using hE6
        clear hE6 he6
        go_wp2
        go_ret
        exact ⟨rfl, B6.out⟩
end Go.Proofs.YtifdgdgfmjfbdaaGreat
