/- Words for rows that are loaded and stored whole: sights. -/
import Derived.LoopN
import Derived.Laws.Tables
import Derived.Deep.MidRow
import Derived.Deep.WholeRow
import Derived.Test.YtbpnacacnncopaaGreatDoorHXg
import Derived.Test.YtbpnacacnncopaaGreatDoorHIa
set_option linter.unusedVariables false
set_option linter.unusedSimpArgs false
namespace Go.Proofs.YtbpnacacnncopaaGreatDoor
open Go.RowKit Go.Shelf Frm
open Lib (decDigits)
/-- all but one block stays -/
structure Kps (g : Nat) (w w' : World) : Prop where
  os : w'.os = w.os
  tape : w'.tape = w.tape
  output : w'.output = w.output
  size : w.heap.size ≤ w'.heap.size
  block : ∀ k, k ≠ g → k < w.heap.size → w'.heap[k]? = w.heap[k]?
theorem Kps.trans {g : Nat} {a b c : World} (h : Kps g a b) (k : Kps g b c) : Kps g a c := ⟨k.os.trans h.os, k.tape.trans h.tape, k.output.trans h.output, Nat.le_trans h.size k.size, fun i hi hl => (k.block i hi (Nat.lt_of_lt_of_le hl h.size)).trans (h.block i hi hl)⟩
theorem Kps.below {g B : Nat} {a b : World} (h : Kps g a b) (hB : B ≤ g) (hs : B ≤ a.heap.size) : Below B a b := ⟨h.os, h.tape, h.output, h.size, fun k hk => h.block k (by omega) (by omega)⟩
theorem Kps.of_below {g : Nat} {a b : World} (h : Below a.heap.size a b) : Kps g a b := ⟨h.os, h.tape, h.output, h.size, fun k _ hk => h.block k hk⟩
theorem Kps.set_ (g i : Nat) (w : World) (v : Value) : Kps g w (w.setCell ⟨g, i, none⟩ v) := by
  have h := (Below.refl g w).setCell (p := ⟨g, i, none⟩) (Nat.le_refl _) v
  exact ⟨h.os, h.tape, h.output, h.size, fun k hk _ => Below.heap_setCell w ⟨g, i, none⟩ v k hk⟩
theorem Blk.kps {g b : Nat} {t : TypeId} {cs : Array Value} {w w' : World} (h : Blk w b t cs) (k : Kps g w w') (hb : b ≠ g) : Blk w' b t cs := (k.block b hb h.lt).trans h
/-- words in a slice below B -/
def WordsAt (w : World) (B : Nat) (A : Option Addr) (l : List Bs) : Prop := l = [] ∨ ∃ b off, A = some ⟨b, off, none⟩ ∧ b < B ∧ ∀ (j : Nat) (x : Bs), l[j]? = some x → w.cell? ⟨b, off + j, none⟩ = some (tx x)
theorem WordsAt.bl {w w' : World} {B : Nat} {A : Option Addr} {l : List Bs} (h : WordsAt w B A l) (hb : Below B w w') : WordsAt w' B A l := by
  rcases h with h | ⟨b, off, e, hlt, hc⟩
  · exact .inl h
  · exact .inr ⟨b, off, e, hlt, fun j x hx => (hb.cell (p := ⟨b, off + j, none⟩) hlt).trans (hc j x hx)⟩
/-- the reader in block g -/
def RdC (w : World) (B g : Nat) (L : List Bs) (wr : Bool) : Prop := ∃ A n c, Blk w g 74 #[.slice A n c, .bool wr] ∧ WordsAt w B A L ∧ L.length = n ∧ n ≤ c ∧ c ≤ maxLen ∧ B ≤ g
theorem RdC.bl {w w' : World} {B g : Nat} {L : List Bs} {wr : Bool} (h : RdC w B g L wr) (hb : Below w.heap.size w w') : RdC w' B g L wr := by
  obtain ⟨A, n, c, h1, h2, h3, h4, h5, h6⟩ := h
  exact ⟨A, n, c, h1.below hb h1.lt, h2.bl (hb.mono (Nat.le_trans h6 (Nat.le_of_lt h1.lt))), h3, h4, h5, h6⟩
theorem RdC.kps {w w' : World} {B g q : Nat} {L : List Bs} {wr : Bool} (h : RdC w B g L wr) (k : Kps q w w') (hg : g ≠ q) (hB : B ≤ q) : RdC w' B g L wr := by
  obtain ⟨A, n, c, h1, h2, h3, h4, h5, h6⟩ := h
  exact ⟨A, n, c, h1.kps k hg, h2.bl (k.below hB (Nat.le_trans h6 (Nat.le_of_lt h1.lt))), h3, h4, h5, h6⟩
theorem RdC.lt {w : World} {B g : Nat} {L : List Bs} {wr : Bool} (h : RdC w B g L wr) : g < w.heap.size := by
  obtain ⟨A, n, c, h1, h2, h3, h4, h5, h6⟩ := h
  exact h1.lt
theorem RdC.wrong {w : World} {B g : Nat} {L : List Bs} {wr : Bool} (h : RdC w B g L wr) : w.cell? ⟨g, 1, none⟩ = some (.bool wr) ∧ w.frozen? ⟨g, 1, none⟩ = false := by
  obtain ⟨A, n, c, h1, h2, h3, h4, h5, h6⟩ := h
  exact ⟨h1.cell 1, h1.frozen 1⟩
theorem RdC.set_ {w : World} {B g : Nat} {L : List Bs} {wr : Bool} (h : RdC w B g L wr) (b : Bool) : RdC (w.setCell ⟨g, 1, none⟩ (.bool b)) B g L b ∧ Kps g w (w.setCell ⟨g, 1, none⟩ (.bool b)) := by
  obtain ⟨A, n, c, h1, h2, h3, h4, h5, h6⟩ := h
  exact ⟨⟨A, n, c, by simpa using h1.set_ 1 (.bool b), h2.bl ((Kps.set_ g 1 w _).below h6 (Nat.le_trans h6 (Nat.le_of_lt h1.lt))), h3, h4, h5, h6⟩, Kps.set_ g 1 w _⟩
set_option maxHeartbeats 4000000 in
set_option maxRecDepth 100000 in
theorem next_any (B g : Nat) (z : Bs) (L : List Bs) (wr : Bool) (w : World) (h : RdC w B g (z :: L) wr) :
    Calls Tryz.prog 37 #[.pointer (some ⟨g, 0, none⟩)] w fun e w' => e = .returned (tx z) ∧ RdC w' B g L wr ∧ Kps g w w' := by
  obtain ⟨A, n, c, hG, hA, hn, hc, hcm, hgB⟩ := h
  rcases hA with hA | ⟨b, off, rfl, hb, hw⟩
  · cases hA
  · have y0 : w.cell? ⟨g, 0, none⟩ = some (.slice (some ⟨b, off, none⟩) n c) := hG.cell 0
    have z0 := hG.frozen 0
    have x0 : w.cell? ⟨b, off, none⟩ = some (tx z) := hw 0 z rfl
    obtain ⟨m, rfl⟩ : ∃ m, n = m + 1 := ⟨L.length, by simpa using hn.symm⟩
    have hlen : L.length = m := by simpa using hn
    have HG := Lib.hid hG
    have HW := Lib.hid hw
    have HLT := Lib.hid hG.lt
    clear hG hw hn
    have hwd : ∀ (W : World), Below B w W → WordsAt W B (some ⟨b, off + 1, none⟩) L := fun W hW => .inr ⟨b, off + 1, rfl, hb, fun j x hx => by
      rw [show off + 1 + j = off + (j + 1) by omega]
      exact (hW.cell (p := ⟨b, off + (j + 1), none⟩) hb).trans (HW.out (j + 1) x (by simpa using hx))⟩
    have HWD := Lib.hid hwd
    clear hwd
    by_cases hck : c = 1
    · subst hck
      obtain rfl : m = 0 := by omega
      go_enter Tryz.func37, Tryz.ntmps37
      go_wp2
      go_ret
      exact ⟨rfl, ⟨some ⟨b, off, none⟩, 0, 0, by simpa using HG.out.set_ 0 (.slice (some ⟨b, off, none⟩) 0 0), .inl (List.eq_nil_of_length_eq_zero hlen), hlen, Nat.le_refl _, by simp [maxLen], hgB⟩, Kps.set_ g 0 w _⟩
    · go_enter Tryz.func37, Tryz.ntmps37
      go_wp2
      go_ret
      exact ⟨rfl, ⟨some ⟨b, off + 1, none⟩, m, c - 1, by simpa using HG.out.set_ 0 (.slice (some ⟨b, off + 1, none⟩) m (c - 1)), HWD.out _ ((Kps.set_ g 0 w _).below hgB (by have := HLT.out; omega)), hlen, by omega, by omega, hgB⟩, Kps.set_ g 0 w _⟩
/-- what choice returns -/
def ChR (B g : Nat) (a b c z : Bs) (L : List Bs) (wr : Bool) (e : Ending) (w' : World) : Prop := (∃ k : Int, 1 ≤ k ∧ k ≤ 3 ∧ z = wordAt [a, b, c] k ∧ e = .returned (.int .i64 k) ∧ RdC w' B g L wr) ∨ ((¬ z = a ∧ ¬ z = b ∧ ¬ z = c) ∧ e = .returned (.int .i64 0) ∧ RdC w' B g L true)
set_option maxHeartbeats 4000000 in
set_option maxRecDepth 100000 in
theorem choice_any (B g : Nat) (a b c z : Bs) (L : List Bs) (wr : Bool) (w : World) (h : RdC w B g (z :: L) wr) :
    Calls Tryz.prog 38 #[.pointer (some ⟨g, 0, none⟩), .agg #[tx a, tx b, tx c]] w fun e w' => ChR B g a b c z L wr e w' ∧ Kps g w w' := by
  have K0 := Lib.hid (next_any B g z L wr (w.alloc (.cells #[tx a, tx b, tx c] 59)) (h.bl (bl_alloc w _)))
  have G0 := Lib.hid (Blk.new w 59 #[tx a, tx b, tx c])
  have k0 := Lib.hid (Kps.of_below (g := g) (bl_alloc w (.cells #[tx a, tx b, tx c] 59)))
  have hne := Lib.hid (show w.heap.size ≠ g by have := h.lt; omega)
  clear h
  have i0 : ∀ W, (Instr.index 59 (.agg #[tx a, tx b, tx c]) (.int .i64 0)).run Tryz.prog W = .ok (tx a) W := fun _ => by kernel_rfl
  have i1 : ∀ W, (Instr.index 59 (.agg #[tx a, tx b, tx c]) (.int .i64 1)).run Tryz.prog W = .ok (tx b) W := fun _ => by kernel_rfl
  have i2 : ∀ W, (Instr.index 59 (.agg #[tx a, tx b, tx c]) (.int .i64 2)).run Tryz.prog W = .ok (tx c) W := fun _ => by kernel_rfl
  go_enter Tryz.func38, Tryz.ntmps38
  go_upto_region 1 with fail
  generalize w.alloc (.cells #[tx a, tx b, tx c] 59) = w0 at *
  go_wp2_with fail
  (with_reducible refine (K0.out).mono ?_)
  rintro e w1 ⟨rfl, hR, hK⟩
  have R1 := Lib.hid hR
  have G1 := Lib.hid (G0.out.kps hK hne.out)
  have k1 := Lib.hid (k0.out.trans hK)
  clear hR hK G0 k0 K0
  have yA : ∀ i, w1.cell? ⟨w.heap.size, i, none⟩ = (#[tx a, tx b, tx c] : Array Value)[i]? := fun i => G1.out.cell i
  obtain ⟨hwr, hfr⟩ := R1.out.wrong
  by_cases ha : z = a
  · subst ha
    go_wp2_with fail
    refine wp_loop_rounds 4 ?_
    rw [rounds_succ]
    go_wp2
    go_ret
    exact ⟨.inl ⟨1, by omega, by omega, rfl, rfl, R1.out⟩, k1.out⟩
  · obtain ⟨n1, n2, n3⟩ := bs_ne (a := a) (b := z) (fun e => ha e.symm)
    by_cases hb : z = b
    · subst hb
      have HA := Lib.hid ha
      clear ha
      go_wp2_with fail
      refine wp_loop_rounds 4 ?_
      rw [rounds_succ]
      go_wp2
      rw [rounds_succ]
      go_wp2
      go_ret
      exact ⟨.inl ⟨2, by omega, by omega, rfl, rfl, R1.out⟩, k1.out⟩
    · obtain ⟨m1, m2, m3⟩ := bs_ne (a := b) (b := z) (fun e => hb e.symm)
      by_cases hc : z = c
      · subst hc
        have HA := Lib.hid ha
        have HB := Lib.hid hb
        clear ha hb
        go_wp2_with fail
        refine wp_loop_rounds 4 ?_
        rw [rounds_succ]
        go_wp2
        rw [rounds_succ]
        go_wp2
        rw [rounds_succ]
        go_wp2
        go_ret
        exact ⟨.inl ⟨3, by omega, by omega, rfl, rfl, R1.out⟩, k1.out⟩
      · obtain ⟨p1, p2, p3⟩ := bs_ne (a := c) (b := z) (fun e => hc e.symm)
        have HN := Lib.hid (show ¬ z = a ∧ ¬ z = b ∧ ¬ z = c from ⟨ha, hb, hc⟩)
        clear ha hb hc
        go_wp2_with fail
        refine wp_loop_rounds 4 ?_
        rw [rounds_succ]
        go_wp2
        rw [rounds_succ]
        go_wp2
        rw [rounds_succ]
        go_wp2
        rw [rounds_succ]
        go_wp2
        go_ret
        exact ⟨.inr ⟨HN.out, rfl, (R1.out.set_ true).1⟩, k1.out.trans (R1.out.set_ true).2⟩
set_option maxHeartbeats 4000000 in
set_option maxRecDepth 100000 in
theorem instantC_any (B g : Nat) (z1 z2 : Bs) (L : List Bs) (wr : Bool) (w : World) (h : RdC w B g (z1 :: z2 :: L) wr) (l1 : z1.length ≤ 400) (l2 : z2.length ≤ 400) (hB : ∀ w', Kps g w w' → En w') :
    Calls Tryz.prog 40 #[.pointer (some ⟨g, 0, none⟩)] w fun e w' => ((∃ t, IsInst t (z1 ++ 32 :: z2) ∧ insB t = true ∧ e = .returned (.int .i64 t) ∧ RdC w' B g L wr) ∨ ((¬ ∃ t, IsInst t (z1 ++ 32 :: z2) ∧ insB t = true) ∧ e = .returned (.int .i64 0) ∧ RdC w' B g L true)) ∧ Kps g w w' := by
  have K0 := Lib.hid (next_any B g z1 (z2 :: L) wr w h)
  have K1 := Lib.hid (fun W (hW : RdC W B g (z2 :: L) wr) => next_any B g z2 L wr W hW)
  have KP := Lib.hid (fun W (hW : Kps g w W) => ckParse_any (z1 ++ [32] ++ z2) W (by simp; omega) (hB W hW))
  have a1 := tx_add z1 [32] (by omega) (by simp)
  have a2 := tx_add (z1 ++ [32]) z2 (by simp; omega) (by omega)
  have HT := Lib.hid (show z1 ++ [32] ++ z2 = z1 ++ 32 :: z2 by simp)
  clear h hB
  generalize z1 ++ [32] = E1 at *
  generalize E1 ++ z2 = E2 at *
  go_enter Tryz.func40, Tryz.ntmps40
  go_wp2_with fail
  (with_reducible refine (K0.out).mono ?_)
  rintro e w1 ⟨rfl, hR, hK⟩
  have R1 := Lib.hid hR
  have k1 := Lib.hid hK
  clear hR hK K0
  go_wp2_with fail
  (with_reducible refine (K1.out _ R1.out).mono ?_)
  rintro e w2 ⟨rfl, hR, hK⟩
  have R2 := Lib.hid hR
  have k2 := Lib.hid (k1.out.trans hK)
  clear hR hK K1 R1 k1
  go_wp2_with fail
  (with_reducible refine (KP.out _ k2.out).mono ?_)
  rintro e w3 ⟨hcp, hb⟩
  have R3 := Lib.hid (R2.out.bl hb)
  have k3 := Lib.hid (k2.out.trans (Kps.of_below hb))
  clear hb R2 k2 KP
  obtain ⟨hwr, hfr⟩ := R3.out.wrong
  rcases hcp with ⟨t, h1, h2, rfl⟩ | ⟨hno, E, hE, rfl⟩
  · have HI := Lib.hid h1
    have H2 := Lib.hid h2
    clear h1 h2
    cases wr
    all_goals
      go_wp2
      go_ret
      exact ⟨.inl ⟨t, by rw [← HT.out]; exact HI.out, H2.out, rfl, (R3.out.set_ _).1⟩, k3.out.trans (R3.out.set_ _).2⟩
  · have HN := Lib.hid hno
    have d0 : (E != 0) = true := by simpa using hE
    have d1 : ((E : Int) == 0) = false := by simpa using hE
    clear hno
    cases wr
    all_goals
      go_wp2
      go_ret
      exact ⟨.inr ⟨by rw [← HT.out]; exact HN.out, rfl, (R3.out.set_ _).1⟩, k3.out.trans (R3.out.set_ _).2⟩
set_option maxHeartbeats 4000000 in
set_option maxRecDepth 100000 in
theorem angleC_any (B g : Nat) (z : Bs) (L : List Bs) (wr : Bool) (w : World) (h : RdC w B g (z :: L) wr) (l1 : z.length ≤ 400) (hB : ∀ w', Kps g w w' → En w') :
    Calls Tryz.prog 41 #[.pointer (some ⟨g, 0, none⟩)] w fun e w' => ((∃ n : Int, z = textL n ∧ n.natAbs ≤ 1099511627776 ∧ e = .returned (.int .i64 n) ∧ RdC w' B g L wr) ∨ ((¬ ∃ n : Int, z = textL n ∧ n.natAbs ≤ 1099511627776) ∧ (∃ n : Int, e = .returned (.int .i64 n)) ∧ RdC w' B g L true)) ∧ Kps g w w' := by
  have K0 := Lib.hid (next_any B g z L wr w h)
  have K1 := Lib.hid (fun W (hW : Kps g w W) => parse_any z W (by omega) (hB W hW).mx)
  have hbd := parseP_bd z
  have K2 := Lib.hid (fun W (hW : Kps g w W) => aText_any (parseP z).1 W (by omega) (hB W hW).tab)
  have hpt : ∀ m : Int, z = textL m ∧ m.natAbs ≤ 1099511627776 → parseP z = (m, 0) := fun m hm => by rw [hm.1]; exact parseP_text hm.2
  obtain ⟨⟨n, E⟩, hp⟩ : ∃ p, parseP z = p := ⟨_, rfl⟩
  rw [hp] at K1 K2 hbd
  simp only [hp] at hpt
  simp only [] at K1 K2 hbd
  obtain ⟨T, hT⟩ : ∃ T, textL n = T := ⟨_, rfl⟩
  rw [hT] at K2
  have HT := Lib.hid hT
  have HP := Lib.hid hpt
  clear hT hpt hp h hB
  go_enter Tryz.func41, Tryz.ntmps41
  go_wp2_with fail
  (with_reducible refine (K0.out).mono ?_)
  rintro e w1 ⟨rfl, hR, hK⟩
  have R1 := Lib.hid hR
  have k1 := Lib.hid hK
  clear hR hK K0
  go_wp2_with fail
  (with_reducible refine (K1.out _ k1.out).mono ?_)
  rintro e w2 ⟨rfl, hb⟩
  have R2 := Lib.hid (R1.out.bl hb)
  have k2 := Lib.hid (k1.out.trans (Kps.of_below hb))
  clear hb R1 k1 K1
  go_wp2_with fail
  (with_reducible refine (K2.out _ k2.out).mono ?_)
  rintro e w3 ⟨rfl, hb⟩
  have R3 := Lib.hid (R2.out.bl hb)
  have k3 := Lib.hid (k2.out.trans (Kps.of_below hb))
  clear hb R2 k2 K2
  obtain ⟨hwr, hfr⟩ := R3.out.wrong
  by_cases hE : E = 0
  · subst hE
    by_cases hz : T = z
    · subst hz
      cases wr
      all_goals
        go_wp2
        go_ret
        exact ⟨.inl ⟨n, HT.out.symm, by omega, rfl, (R3.out.set_ _).1⟩, k3.out.trans (R3.out.set_ _).2⟩
    · obtain ⟨n1, n2, n3⟩ := bs_ne hz
      have HN : Hid (¬ ∃ n : Int, z = textL n ∧ n.natAbs ≤ 1099511627776) := Lib.hid fun ⟨m, hm⟩ => by
        have := HP.out m hm
        simp only [Prod.mk.injEq, and_true] at this
        exact hz (by rw [← HT.out, this, hm.1])
      clear hz
      cases wr
      all_goals
        go_wp2
        go_ret
        exact ⟨.inr ⟨HN.out, ⟨_, rfl⟩, (R3.out.set_ _).1⟩, k3.out.trans (R3.out.set_ _).2⟩
  · have d0 : (E != 0) = true := by simpa using hE
    have d1 : ((E : Int) == 0) = false := by simpa using hE
    have HN : Hid (¬ ∃ n : Int, z = textL n ∧ n.natAbs ≤ 1099511627776) := Lib.hid fun ⟨m, hm⟩ => by
      have := HP.out m hm
      simp only [Prod.mk.injEq] at this
      exact hE this.2
    clear hE
    cases wr
    all_goals
      go_wp2
      go_ret
      exact ⟨.inr ⟨HN.out, ⟨_, rfl⟩, (R3.out.set_ _).1⟩, k3.out.trans (R3.out.set_ _).2⟩
theorem atR_bd (s : Bs) : -9223372036854775808 ≤ (atR s).1 ∧ (atR s).1 ≤ 9223372036854775807 := by
  unfold atR
  rcases h : Lib.atoiAll s with v | _ | _
  · simp only []
    unfold Lib.atoiAll at h
    split at h
    · cases h
    · simp only [] at h
      split at h
      · cases h
      · cases h
      · split at h
        · cases h
        · split at h
          · cases h
          · injection h with h
            split at h <;> omega
  · simp
  · simp only []
    unfold Lib.atoiSat
    split <;> omega
set_option maxHeartbeats 4000000 in
set_option maxRecDepth 100000 in
theorem integerC_any (B g : Nat) (z : Bs) (L : List Bs) (wr : Bool) (w : World) (h : RdC w B g (z :: L) wr) (l1 : z.length ≤ 400) (hB : ∀ w', Kps g w w' → En w') :
    Calls Tryz.prog 42 #[.pointer (some ⟨g, 0, none⟩)] w fun e w' => ((∃ n : Int, z = Lib.itoa n ∧ z.length ≤ 15 ∧ e = .returned (.int .i64 n) ∧ RdC w' B g L wr) ∨ ((¬ ∃ n : Int, z = Lib.itoa n ∧ z.length ≤ 15) ∧ (∃ n : Int, e = .returned (.int .i64 n)) ∧ RdC w' B g L true)) ∧ Kps g w w' := by
  have K0 := Lib.hid (next_any B g z L wr w h)
  have K1 := Lib.hid (fun W (hW : Kps g w W) => atoi_any z W (by omega) (hB W hW))
  have hbd := atR_bd z
  have K2 := Lib.hid (fun W (hW : Kps g w W) => itoa_any (atR z).1 W (by omega) (by omega) (hB W hW).tab)
  have hpt : ∀ m : Int, z = Lib.itoa m ∧ z.length ≤ 15 → atR z = (m, true) := fun m hm => by
    have hl := itoa_len_bd (n := m) (by rw [← hm.1]; exact hm.2)
    rw [hm.1]
    exact atR_itoa (by omega)
  have hsz := tx_size z
  obtain ⟨⟨n, ok⟩, hp⟩ : ∃ p, atR z = p := ⟨_, rfl⟩
  rw [hp] at K1 K2 hbd
  simp only [hp] at hpt
  simp only [] at K1 K2 hbd
  obtain ⟨T, hT⟩ : ∃ T, Lib.itoa n = T := ⟨_, rfl⟩
  rw [hT] at K2
  obtain ⟨q, hq⟩ : ∃ q, z.length = q := ⟨_, rfl⟩
  rw [hq] at hsz
  have HQ := Lib.hid hq
  have HT := Lib.hid hT
  have HP := Lib.hid hpt
  clear hT hpt hp h hB hq
  go_enter Tryz.func42, Tryz.ntmps42
  go_wp2_with fail
  (with_reducible refine (K0.out).mono ?_)
  rintro e w1 ⟨rfl, hR, hK⟩
  have R1 := Lib.hid hR
  have k1 := Lib.hid hK
  clear hR hK K0
  go_wp2_with fail
  (with_reducible refine (K1.out _ k1.out).mono ?_)
  rintro e w2 ⟨⟨v, rfl, hv⟩, hb⟩
  have R2 := Lib.hid (R1.out.bl hb)
  have k2 := Lib.hid (k1.out.trans (Kps.of_below hb))
  clear hb R1 k1 K1
  obtain ⟨hwr, hfr⟩ := R2.out.wrong
  have hnb : (¬ ok = true ∨ 15 < q ∨ ¬ T = z) → ¬ ∃ n : Int, z = Lib.itoa n ∧ z.length ≤ 15 := fun h ⟨m, hm⟩ => by
    have := HP.out m hm
    simp only [Prod.mk.injEq] at this
    rcases h with h | h | h
    · exact h this.2
    · have := HQ.out; omega
    · exact h (by rw [← HT.out, this.1, hm.1])
  have HNB := Lib.hid hnb
  clear hnb
  cases ok with
  | false =>
    obtain ⟨N, rfl⟩ := hv
    cases wr
    all_goals
      go_wp2
      go_ret
      exact ⟨.inr ⟨HNB.out (.inl (by simp)), ⟨_, rfl⟩, (R2.out.set_ _).1⟩, k2.out.trans (R2.out.set_ _).2⟩
  | true =>
    obtain rfl : v = .nilIface := by simpa [ErrIs] using hv
    clear hv
    cases wr with
    | true =>
      go_wp2
      go_ret
      by_cases hg : (15 < q ∨ ¬ T = z)
      · exact ⟨.inr ⟨HNB.out (.inr hg), ⟨_, rfl⟩, (R2.out.set_ _).1⟩, k2.out.trans (R2.out.set_ _).2⟩
      · have hg2 : T = z := by
          by_cases e : T = z
          · exact e
          · exact absurd (.inr e) hg
        exact ⟨.inl ⟨n, by rw [← hg2]; exact HT.out.symm, by have := HQ.out; omega, rfl, (R2.out.set_ _).1⟩, k2.out.trans (R2.out.set_ _).2⟩
    | false =>
      by_cases hq : 15 < q
      · have d0 : decide ((15 : Int) < (q : Int)) = true := decide_eq_true (by omega)
        have d1 : decide (15 < q) = true := decide_eq_true hq
        have HN := Lib.hid (HNB.out (.inr (.inl hq)))
        clear hq
        go_wp2
        go_ret
        exact ⟨.inr ⟨HN.out, ⟨_, rfl⟩, (R2.out.set_ _).1⟩, k2.out.trans (R2.out.set_ _).2⟩
      · have d0 : decide ((15 : Int) < (q : Int)) = false := decide_eq_false (by omega)
        have d1 : decide (15 < q) = false := decide_eq_false hq
        have HQ2 := Lib.hid hq
        clear hq
        go_wp2_with fail
        (with_reducible refine (K2.out _ k2.out).mono ?_)
        rintro e w3 ⟨rfl, hb⟩
        have R3 := Lib.hid (R2.out.bl hb)
        have k3 := Lib.hid (k2.out.trans (Kps.of_below hb))
        clear hb R2 k2 K2 hwr hfr
        obtain ⟨hwr, hfr⟩ := R3.out.wrong
        by_cases hz : T = z
        · subst hz
          go_wp2
          go_ret
          exact ⟨.inl ⟨n, HT.out.symm, by have := HQ.out; have := HQ2.out; omega, rfl, (R3.out.set_ _).1⟩, k3.out.trans (R3.out.set_ _).2⟩
        · obtain ⟨n1, n2, n3⟩ := bs_ne hz
          have HN := Lib.hid (HNB.out (.inr (.inr hz)))
          clear hz
          go_wp2
          go_ret
          exact ⟨.inr ⟨HN.out, ⟨_, rfl⟩, (R3.out.set_ _).1⟩, k3.out.trans (R3.out.set_ _).2⟩
end Go.Proofs.YtbpnacacnncopaaGreatDoor
namespace Go.Proofs.YtbpnacacnncopaaGreatDoor
open Go.RowKit
theorem Blk.rowW {w : World} {g : Nat} {t : TypeId} {cs : Array Value} (h : Blk w g t cs) (cs' : Array Value) : Blk (w.setRow g cs') g t cs' := by
  unfold Blk at h ⊢
  simp [World.setRow, Array.getElem?_modify, h]
theorem bl_setRowW {B : Nat} {a w : World} (h : Below B a w) {g : Nat} (hg : B ≤ g) (cs : Array Value) : Below B a (w.setRow g cs) :=
  ⟨h.os, h.tape, h.output, by simpa [World.setRow] using h.size, fun k hk => by
    have := h.block k hk
    have hne : ¬ g = k := by omega
    simp [World.setRow, Array.getElem?_modify, hne, this]⟩
theorem wp_load_sg {o : Oper} {a : Act} {w : World} {K : Act → World → Prop} {Q : Exit → Act → World → Prop} (x : Operand) (ho : o.op = .load 25 x) {g : Nat} (hx : a.eval x = .pointer (some ⟨g, 0, none⟩)) {cs : Array Value} (h : Blk w g 25 cs) (hs : cs.size = 11)
    (hk : K (a.put o.dst (.agg cs)) w) : o.wp Tryz.prog a w K Q := by
  have hi : (Tryz.prog.info? 25).map (·.size) = some 11 := by kernel_rfl
  exact wp_load_mid _ x ho g 0 hx cs.toList (.struct (Tryz.prog.fieldsOf 25)) (fun j v hv => by rw [Nat.zero_add, h.cell]; simpa using hv) (by kernel_rfl) rfl (by simpa [hs] using hi) (by simpa using hk)
end Go.Proofs.YtbpnacacnncopaaGreatDoor
