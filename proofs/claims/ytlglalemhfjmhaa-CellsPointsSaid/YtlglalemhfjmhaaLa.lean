/- The law CellsLaws: words, and the walk of its closure. -/
import Derived.Test.YtlglalemhfjmhaaSg
import Derived.Test.YtlglalemhfjmhaaAwake
namespace Go.Proofs.Ytlglalemhfjmhaa
open Go.RowKit
theorem tidyR_bad' {L : List Cl} (h : badL L = true) : tidyR L = [] ∧ tidyE L = 1 := by simp [tidyR, tidyE, h]
/-- a slice that reads as the region of a set which changes only inside of few blocks -/
structure RdL (A0 : List Canon.Blk2) (W : World) (v : Value) (s : Nat → Bool) : Prop where
  hom : Homog A0 s
  rd : ∃ A n ca, v = .slice A n ca ∧ n ≤ ca ∧ ca ≤ maxLen ∧ Reads W W.heap.size 3 A n (cvs (regB s))
theorem RdL.below {A0 : List Canon.Blk2} {W W' : World} {v : Value} {s : Nat → Bool} (h : RdL A0 W v s) (hb : Below W.heap.size W W') : RdL A0 W' v s := by
  obtain ⟨h0, A, n, ca, h1, h2, h3, h4⟩ := h
  exact ⟨h0, A, n, ca, h1, h2, h3, (h4.below hb).more hb.size⟩
theorem RdL.of_own {A0 : List Canon.Blk2} {W : World} {v : Value} {s : Nat → Bool} {base : Nat} (h0 : Homog A0 s) (h : W.ownsRow base 32 3 v (regB s).length (cvs (regB s))) : RdL A0 W v s := by
  obtain ⟨A, c, rfl, hr, h2, h3⟩ := own_form h
  exact ⟨h0, A, _, c, rfl, h2, h3, hr⟩
/-- what is known in the midst of the law -/
structure LSt (A0 : List Canon.Blk2) (w W : World) (g : Nat) (ps : List (Value × (Nat → Bool))) : Prop where
  bl : Below w.heap.size w W
  blk : Blk W g 4 #[.bool false]
  all : ∀ p ∈ ps, RdL A0 W p.1 p.2
theorem LSt.step {A0 : List Canon.Blk2} {w W W' : World} {g : Nat} {ps : List (Value × (Nat → Bool))} (h : LSt A0 w W g ps) (hb : Below W.heap.size W W') : LSt A0 w W' g ps :=
  ⟨h.bl.trans (hb.mono h.bl.size), h.blk.below hb h.blk.lt, fun p hp => (h.all p hp).below hb⟩
theorem LSt.add {A0 : List Canon.Blk2} {w W : World} {g : Nat} {ps : List (Value × (Nat → Bool))} (h : LSt A0 w W g ps) {v : Value} {s : Nat → Bool} (hr : RdL A0 W v s) : LSt A0 w W g ((v, s) :: ps) :=
  ⟨h.bl, h.blk, fun p hp => by
    rcases List.mem_cons.1 hp with rfl | hp
    · exact hr
    · exact h.all p hp⟩
theorem set_same {w : World} {g : Nat} {t : TypeId} {u : Value} (h : Blk w g t #[u]) (i : Nat) : (w.setCell ⟨g, 0, none⟩ u).heap[i]? = w.heap[i]? := by
  by_cases hi : i = g
  · subst hi
    have h2 := h.set_ 0 u
    unfold Blk at h h2
    rw [h2, h]
    simp
  · exact Below.heap_setCell w ⟨g, 0, none⟩ u i hi
theorem bl_set_same {B : Nat} {a w : World} {g : Nat} {t : TypeId} {u : Value} (hb : Below B a w) (h : Blk w g t #[u]) : Below B a (w.setCell ⟨g, 0, none⟩ u) :=
  ⟨hb.os, hb.tape, hb.output, by have := hb.size; simpa [World.setCell] using this, fun i hi => (set_same h i).trans (hb.block i hi)⟩
/-- the contract of Union, Meet, or Minus -/
def OpC (op : Int) (u : FuncId) : Prop := ∀ (A B : Option Addr) (n m ca cb : Nat) (L M : List Cl) (W : World), Reads W W.heap.size 3 A n (cvs L) → Reads W W.heap.size 3 B m (cvs M) → n ≤ maxLen → m ≤ maxLen → Calls Try.prog u #[.slice A n ca, .slice B m cb] W (RetCells W (mkR op L M) (mkE op L M))
theorem opc1 : OpC 1 31 := fun A B n m ca cb L M W => Union_any A B n m ca cb L M W
theorem opc2 : OpC 2 32 := fun A B n m ca cb L M W => Meet_any A B n m ca cb L M W
theorem opc3 : OpC 3 33 := fun A B n m ca cb L M W => Minus_any A B n m ca cb L M W
set_option maxHeartbeats 1000000 in
set_option maxRecDepth 100000 in
theorem op_any (op : Int) (u : FuncId) (eg : ∀ args w, (callFunc u args).run Try.prog w = .ok (.enter u args) w) (hu : OpC op u) {A0 : List Canon.Blk2} (hA : A0.length ≤ 100) {w W : World} {g : Nat} {ps : List (Value × (Nat → Bool))} (h : LSt A0 w W g ps) {v1 v2 : Value} {s t : Nat → Bool} (m1 : (v1, s) ∈ ps) (m2 : (v2, t) ∈ ps) :
    Calls Try.prog 30 #[.func (.func u) #[] #[], v1, v2, .pointer (some ⟨g, 0, none⟩)] W fun e w' => ∃ v, e = .returned v ∧ LSt A0 w w' g ((v, fun q => opB op (s q) (t q)) :: ps) := by
  obtain ⟨hs, A, n, ca, e1, n1, c1, r1⟩ := h.all _ m1
  obtain ⟨ht, B, m, cb, e2, n2, c2, r2⟩ := h.all _ m2
  simp only [] at e1 e2 hs ht r1 r2
  subst e1 e2
  have K := hu A B n m ca cb _ _ W r1 r2 (Nat.le_trans n1 c1) (Nat.le_trans n2 c2)
  obtain ⟨k1, k2⟩ := mk_reg op hs ht hA
  have hh : Homog A0 (fun q => opB op (s q) (t q)) := homog_op (opB op) hs ht
  rw [k1, k2] at K
  have hv := reg_vr _ (reg_few hh hA)
  have HH := Lib.hid hh
  have HV := Lib.hid hv
  generalize (fun q => opB op (s q) (t q)) = z at K HH HV
  have K := Lib.hid K
  have HL := Lib.hid h
  have x1 := h.blk.cell 0
  have x2 := h.blk.frozen 0
  simp at x1
  clear k1 k2 hh hv hs ht r1 r2 h m1 m2
  go_enter Try.func30, Try.ntmps30
  go_wp2_with (go_at_fn u; (with_reducible refine K.out.mono ?_); rintro e w1 ⟨v, rfl, hown, hb1⟩; have y1 := (hb1.cell (p := ⟨g, 0, none⟩) HL.out.blk.lt).trans x1; obtain ⟨A5, c5, rfl, hr5, hc5, hc5'⟩ := own_form hown; have K5 := Lib.hid (vr_yes A5 _ c5 (regB z) true HV.out w1 hr5 (Nat.le_trans hc5 hc5')); clear hr5)
  (with_reducible refine K5.out.mono ?_)
  rintro e w2 ⟨rfl, hb2⟩
  have hb12 := hb1.trans (hb2.mono hb1.size)
  have y3 := (hb12.cell (p := ⟨g, 0, none⟩) HL.out.blk.lt).trans x1
  have y2 := (hb12.frozen (p := ⟨g, 0, none⟩) HL.out.blk.lt).trans x2
  have HO := Lib.hid (own_bl hown hb2 (Nat.le_refl _))
  clear hown K5 K hb2
  go_wp2
  go_ret
  have hk := HL.out.blk.below hb12 HL.out.blk.lt
  exact ⟨_, rfl, (HL.out.step (bl_set_same hb12 hk)).add (RdL.of_own HH.out (ownsRow_far HO.out hk (by decide)))⟩
section
variable {A0 : List Canon.Blk2} {w W : World} {g : Nat} {ps : List (Value × (Nat → Bool))}
theorem same_any (h : LSt A0 w W g ps) {v1 v2 : Value} {s t : Nat → Bool} (m1 : (v1, s) ∈ ps) (m2 : (v2, t) ∈ ps) (he : ∀ q, s q = t q) :
    Calls Try.prog 17 #[v1, v2] W fun e w' => e = .returned (.bool true) ∧ LSt A0 w w' g ps := by
  obtain ⟨hs, A, n, ca, e1, n1, c1, r1⟩ := h.all _ m1
  obtain ⟨ht, B, m, cb, e2, n2, c2, r2⟩ := h.all _ m2
  simp only [] at e1 e2 hs ht r1 r2
  subst e1 e2
  have hst : s = t := funext he
  refine (Same_any A B n m ca cb _ _ W _ _ r1 r2 (Nat.le_trans n1 c1) (Nat.le_trans n2 c2)).mono ?_
  rintro e w' ⟨rfl, q, rfl⟩
  exact ⟨by rw [hst]; simp, h.step (bl_drewN (Below.refl _ _) _)⟩
theorem inside_any (hA : A0.length ≤ 100) (h : LSt A0 w W g ps) {v1 v2 : Value} {s t : Nat → Bool} (m1 : (v1, s) ∈ ps) (m2 : (v2, t) ∈ ps) (b : Bool) (hb : b = decide ((regB fun q => opB 3 (s q) (t q)) = [])) :
    Calls Try.prog 34 #[v1, v2] W fun e w' => e = .returned (.tuple #[.bool b, .int .i64 0]) ∧ LSt A0 w w' g ps := by
  obtain ⟨hs, A, n, ca, e1, n1, c1, r1⟩ := h.all _ m1
  obtain ⟨ht, B, m, cb, e2, n2, c2, r2⟩ := h.all _ m2
  simp only [] at e1 e2 hs ht r1 r2
  subst e1 e2
  have hi : insL (regB s) (regB t) = b := by rw [hb]; unfold insL; rw [reg_made]
  refine (Inside_any A B n m ca cb _ _ W r1 r2 (Nat.le_trans n1 c1) (Nat.le_trans n2 c2) (reg_vr s (reg_few hs hA)) (reg_vr t (reg_few ht hA))).mono ?_
  rintro e w' ⟨rfl, hb'⟩
  rw [hi]
  exact ⟨rfl, h.step hb'⟩
/-- the length of a slice that is known -/
theorem LSt.len (h : LSt A0 w W g ps) {v : Value} {s : Nat → Bool} (m : (v, s) ∈ ps) : ∃ A n ca, v = .slice A n ca ∧ n = (regB s).length ∧ n ≤ ca ∧ ca ≤ maxLen := by
  obtain ⟨hs, A, n, ca, e1, n1, c1, r1⟩ := h.all _ m
  exact ⟨A, n, ca, e1, r1.len.symm, n1, c1⟩
end
end Go.Proofs.Ytlglalemhfjmhaa
