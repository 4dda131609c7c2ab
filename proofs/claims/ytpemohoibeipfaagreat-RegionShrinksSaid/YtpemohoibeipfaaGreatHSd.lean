/- The walk of combine: words. -/
import Derived.Shelf.Abstract
import Derived.Deep.RegionLaw
import Derived.Deep.DeepCutAuto
import Derived.Test.YtpemohoibeipfaaGreatHNn
set_option linter.unusedVariables false
set_option linter.unusedSimpArgs false
namespace Go.Proofs.YtpemohoibeipfaaGreat
open Go.RowKit
theorem rule_in (x y : Bool) (w : World) : Calls Tryz.prog 55 #[.bool x, .bool y] w fun e w' => e = .returned (.bool (x && !y)) ∧ w' = w := by
  cases x with
  | true =>
    go_enter Tryz.func55, Tryz.ntmps55
    go_wp2
    go_ret
    exact ⟨rfl, rfl⟩
  | false =>
    go_enter Tryz.func55, Tryz.ntmps55
    go_wp2
    go_ret
    exact ⟨rfl, rfl⟩
theorem sreads_tail {w : World} {B b off m : Nat} {s : Sp} {r : List Sp} (h : Reads w B 2 (some ⟨b, off, none⟩) (m + 1) (spvs (s :: r))) : Reads w B 2 (some ⟨b, off + 2, none⟩) m (spvs r) := by
  have e : spvs (s :: r) = .int .i64 s.1 :: .int .i64 s.2 :: spvs r := rfl
  obtain ⟨h1, h2⟩ := h
  rw [e] at h1 h2
  refine ⟨by simp only [List.length_cons] at h1; omega, fun _ => ?_⟩
  obtain ⟨ad, ea, hb, hc⟩ := h2 (by omega)
  cases ea
  refine ⟨_, rfl, hb, fun j u hu => ?_⟩
  have := hc (j + 2) u (by simpa using hu)
  rw [Go.WideShapes.add_plain] at this ⊢
  rw [show off + 2 + j = off + (j + 2) by omega]
  exact this
theorem grown_set {w w' : World} {g : Nat} (h : w.grownBy w' (some g)) (u : Value) : w.grownBy (w'.setCell ⟨g, 0, none⟩ u) (some g) :=
  ⟨h.os, h.tape, h.output, Nat.le_trans h.size (by simp [World.setCell]), fun i hi hne => (Below.heap_setCell w' ⟨g, 0, none⟩ u i (fun e => hne (by rw [e]))).trans (h.block i hi hne)⟩
theorem dropS_yes {e : Int} {s : Sp} {r : List Sp} (h : s.2 ≤ e) : dropS e (s :: r) = dropS e r := by simp [dropS, h]
theorem dropS_no {e : Int} {s : Sp} {r : List Sp} (h : ¬ s.2 ≤ e) : dropS e (s :: r) = s :: r := by simp [dropS, h]
set_option maxHeartbeats 1000000 in
set_option maxRecDepth 100000 in
theorem hasS_any (g B : Nat) (A : Option Addr) (n ca : Nat) (D : List Sp) (e : Int) (w : World) (hB : Blk w g 93 #[.slice A n ca]) (hr : Reads w B 2 A n (spvs D)) (hBg : B ≤ g) (hn : n ≤ ca) (hca : ca ≤ maxLen) :
    Calls Tryz.prog 93 #[.pointer (some ⟨g, 0, none⟩), .int .i64 e] w fun e' w' => e' = .returned (.bool (hdS e (dropS e D))) ∧ w.grownBy w' (some g) ∧
      ∃ A' n' ca', Blk w' g 93 #[.slice A' n' ca'] ∧ Reads w' B 2 A' n' (spvs (dropS e D)) ∧ n' ≤ ca' ∧ ca' ≤ ca := by
  have HB := Lib.hid hB
  have HR := Lib.hid hr
  unfold maxLen at hca
  clear hB hr
  go_enter Tryz.func93, Tryz.ntmps93
  go_wp2
  go_loopg [] n (fun gg wr => ∃ (A' : Option Addr) (n' ca' : Nat) (F : List Sp), n' ≤ gg ∧ Blk wr g 93 #[.slice A' n' ca'] ∧ Reads wr B 2 A' n' (spvs F) ∧ n' ≤ ca' ∧ ca' ≤ ca ∧ dropS e F = dropS e D ∧ w.grownBy wr (some g))
  case atStart => exact ⟨A, n, ca, D, Nat.le_refl _, HB.out, HR.out, hn, Nat.le_refl _, rfl, World.grownBy.refl _ _⟩
  case round =>
    obtain ⟨A', n', ca', F, hgg, hB', hr', hn', hca', hF, hgw⟩ := hrel
    have x0 : wr.cell? ⟨g, 0, none⟩ = some (.slice A' n' ca') := hB'.cell 0
    have x1 := hB'.frozen 0
    have HF := Lib.hid hF
    have HB' := Lib.hid hB'
    have HR' := Lib.hid hr'
    have HGW := Lib.hid hgw
    have hlF : F.length = n' := by have := hr'.1; rw [spvs_length] at this; omega
    clear hF hB' hgw
    cases F with
    | nil =>
      have h0 : n' = 0 := by simpa using hlF.symm
      subst h0
      clear hr' hlF
      have e1 : Hid (dropS e D = []) := Lib.hid (by rw [← HF.out]; rfl)
      go_wp2
      go_ret
      exact ⟨ret_bool (by rw [e1.out]; rfl), HGW.out, A', 0, ca', HB'.out, by rw [e1.out]; exact HR'.out, hn', hca'⟩
    | cons s r =>
      obtain ⟨m, rfl, hrm⟩ : ∃ m, n' = m + 1 ∧ r.length = m := ⟨r.length, by simpa using hlF.symm, rfl⟩
      have HRM := Lib.hid hrm
      clear hrm
      obtain ⟨b, off, rfl, hb, y1, y2⟩ := SReads.elem hr' (k := 0) (by omega)
      have e0 : gs (s :: r) 0 = s := rfl
      rw [e0] at y1 y2
      simp only [Nat.zero_mul, Nat.add_zero] at y1 y2
      obtain ⟨sf, st⟩ := s
      simp only [] at y1 y2
      clear e0 hr' hlF
      by_cases hst : st ≤ e
      · have hd := Lib.hid (dropS_yes (e := e) (s := (sf, st)) (r := r) hst)
        by_cases hc1 : ca' = 1
        · have hm0 : m = 0 := by omega
          have hr0 : r = [] := List.eq_nil_of_length_eq_zero (by rw [HRM.out]; exact hm0)
          subst hc1 hm0 hr0
          go_wp2
          go_roundg 0
          case measure => omega
          case rel => exact ⟨_, 0, 0, [], Nat.le_refl _, HB'.out.set_ 0 _, Reads.none_, Nat.le_refl _, by omega, by rw [← hd.out]; exact HF.out, grown_set HGW.out _⟩
        · have hc2 : 1 < ca' := by omega
          have hc3 : ¬ ca' - 1 = 0 := by omega
          clear hc1
          go_wp2
          go_roundg m
          case measure => omega
          case rel => exact ⟨_, m, ca' - 1, r, Nat.le_refl _, HB'.out.set_ 0 _, (sreads_tail HR'.out).setCell hBg _, by omega, by omega, by rw [← hd.out]; exact HF.out, grown_set HGW.out _⟩
      · have hd : Hid (dropS e D = (sf, st) :: r) := Lib.hid (by rw [← HF.out]; exact dropS_no hst)
        go_wp2
        go_ret
        exact ⟨ret_bool (by rw [hd.out]; rfl), HGW.out, _, _, _, HB'.out, by rw [hd.out]; exact HR'.out, hn', hca'⟩
end Go.Proofs.YtpemohoibeipfaaGreat
namespace Go.Proofs.YtpemohoibeipfaaGreat
open Go.RowKit
/-- a world in which nothing has changed but two blocks, and what is new -/
structure Kept (g1 g2 : Nat) (a w : World) : Prop where
  os : w.os = a.os
  tape : w.tape = a.tape
  output : w.output = a.output
  size : a.heap.size ≤ w.heap.size
  block : ∀ i, i < a.heap.size → i ≠ g1 → i ≠ g2 → w.heap[i]? = a.heap[i]?
section
variable {g1 g2 : Nat} {a w w' : World}
theorem Kept.refl (g1 g2 : Nat) (w : World) : Kept g1 g2 w w := ⟨rfl, rfl, rfl, Nat.le_refl _, fun _ _ _ _ => rfl⟩
theorem Kept.drew (h : Kept g1 g2 a w) : Kept g1 g2 a w.drew := ⟨h.os, h.tape, h.output, h.size, h.block⟩
theorem Kept.drewN (h : Kept g1 g2 a w) (n : Nat) : Kept g1 g2 a (w.drewN n) := ⟨h.os, h.tape, h.output, h.size, h.block⟩
theorem Kept.grown (h : Kept g1 g2 a w) {row : Option Nat} (hg : w.grownBy w' row) (hr : ∀ g, row = some g → g = g1 ∨ g = g2 ∨ a.heap.size ≤ g) : Kept g1 g2 a w' :=
  ⟨hg.os.trans h.os, hg.tape.trans h.tape, hg.output.trans h.output, Nat.le_trans h.size hg.size, fun i hi h1 h2 => (hg.block i (Nat.lt_of_lt_of_le hi h.size) (fun e => by rcases hr i e.symm with h3 | h3 | h3 <;> first | exact h1 h3 | exact h2 h3 | omega)).trans (h.block i hi h1 h2)⟩
theorem Kept.setCell (h : Kept g1 g2 a w) {p : Addr} (hp : a.heap.size ≤ p.block) (u : Value) : Kept g1 g2 a (w.setCell p u) :=
  ⟨h.os, h.tape, h.output, by have := h.size; simpa [World.setCell] using this, fun i hi h1 h2 => (Below.heap_setCell w p u i (by omega)).trans (h.block i hi h1 h2)⟩
theorem Kept.trans {b : World} (h : Kept g1 g2 a b) (h2 : Kept g1 g2 b w) : Kept g1 g2 a w :=
  ⟨h2.os.trans h.os, h2.tape.trans h.tape, h2.output.trans h.output, Nat.le_trans h.size h2.size, fun i hi h3 h4 => (h2.block i (Nat.lt_of_lt_of_le hi h.size) h3 h4).trans (h.block i hi h3 h4)⟩
theorem Kept.below (h : Kept g1 g2 a w) {B : Nat} (hB : B ≤ a.heap.size) (h1 : B ≤ g1) (h2 : B ≤ g2) : Below B a w :=
  ⟨h.os, h.tape, h.output, h.size, fun i hi => h.block i (by omega) (by omega) (by omega)⟩
theorem Kept.own (h : Kept g1 g2 a w) {base : Nat} {e : TypeId} {size n : Nat} {v : Value} {xs : List Value} (ho : a.ownsRow base e size v n xs) (h1 : g1 < base) (h2 : g2 < base) : w.ownsRow base e size v n xs := by
  refine ⟨ho.1, ?_⟩
  rcases ho.2 with h3 | ⟨g, cap, cur, hv, hg, hh, hr⟩
  · exact .inl h3
  · have hlt : g < a.heap.size := by
      rcases Nat.lt_or_ge g a.heap.size with hlt | hge
      · exact hlt
      · rw [Array.getElem?_eq_none hge] at hh; cases hh
    exact .inr ⟨g, cap, cur, hv, hg, (h.block g hlt (by omega) (by omega)).trans hh, hr⟩
end
/-- a block that holds a slice of spans which are D but for some at the front that end at e or before -/
def Holds2 (w : World) (g B : Nat) (e : Int) (D : List Sp) : Prop :=
  ∃ (A : Option Addr) (n ca : Nat) (F : List Sp), Blk w g 93 #[.slice A n ca] ∧ Reads w B 2 A n (spvs F) ∧ n ≤ ca ∧ ca ≤ maxLen ∧ ∀ e', e ≤ e' → dropS e' F = dropS e' D
theorem Holds2.more {w : World} {g B : Nat} {e e2 : Int} {D : List Sp} (h : Holds2 w g B e D) (he : e ≤ e2) : Holds2 w g B e2 D := by
  obtain ⟨A, n, ca, F, h1, h2, h3, h4, h5⟩ := h
  exact ⟨A, n, ca, F, h1, h2, h3, h4, fun e' h => h5 e' (by omega)⟩
theorem Holds2.keep {w w' : World} {g B : Nat} {e : Int} {D : List Sp} (h : Holds2 w g B e D) (hg : w'.heap[g]? = w.heap[g]?) (hb : ∀ i, i < B → w'.heap[i]? = w.heap[i]?) : Holds2 w' g B e D := by
  obtain ⟨A, n, ca, F, h1, h2, h3, h4, h5⟩ := h
  exact ⟨A, n, ca, F, hg.trans h1, h2.keep (fun p hp => World.cell?_of_block (hb p.block hp)), h3, h4, h5⟩
theorem Holds2.lt {w : World} {g B : Nat} {e : Int} {D : List Sp} (h : Holds2 w g B e D) : g < w.heap.size := by
  obtain ⟨A, n, ca, F, h1, _⟩ := h
  exact h1.lt
theorem alloc_grown {w w' : World} {o : Obj} {row : Option Nat} (h : (w.alloc o).grownBy w' row) : w.grownBy w' row :=
  ⟨h.os, h.tape, h.output, Nat.le_trans (by simp) h.size, fun i hi hne => (h.block i (by simp; omega) hne).trans (Below.heap_alloc w o i hi)⟩
theorem alloc_grown_drew {w w' : World} {o : Obj} {row : Option Nat} (h : (w.alloc o).drew.grownBy w' row) : w.grownBy w' row :=
  alloc_grown (o := o) ⟨h.os, h.tape, h.output, h.size, h.block⟩
theorem Holds2.grown {w w' : World} {g B b : Nat} {e : Int} {D : List Sp} {row : Option Nat} (h : Holds2 w g B e D) (hg : w.grownBy w' row) (hr : ∀ k, row = some k → b ≤ k) (h1 : g < b) (h2 : B ≤ b) (h3 : b ≤ w.heap.size) : Holds2 w' g B e D :=
  h.keep (hg.block g h.lt (fun e => by have := hr g e.symm; omega)) (fun i hi => hg.block i (by omega) (fun e => by have := hr i e.symm; omega))
/-- the worlds between two calls of has -/
structure CW (a : World) (g1 g2 B : Nat) (e : Int) (D F : List Sp) where
  w : World
  k : Kept g1 g2 a w
  h1 : Holds2 w g1 B e D
  h2 : Holds2 w g2 B e F
theorem has_cw1 {a : World} {g1 g2 B : Nat} {e : Int} {D F : List Sp} (s : CW a g1 g2 B e D F) (hB1 : B ≤ g1) (hB2 : B ≤ g2) (hne : g1 ≠ g2) :
    Calls Tryz.prog 93 #[.pointer (some ⟨g1, 0, none⟩), .int .i64 e] s.w fun e' w' => e' = .returned (.bool (hdS e (dropS e D))) ∧ ∃ s' : CW a g1 g2 B e D F, w' = s'.w := by
  obtain ⟨A, n, ca, G, b1, b2, b3, b4, b5⟩ := s.h1
  refine (hasS_any g1 B A n ca G e s.w b1 b2 hB1 b3 b4).mono ?_
  rintro e' w' ⟨rfl, hg, A', n', ca', c1, c2, c3, c4⟩
  rw [b5 e (Int.le_refl _)] at c2 ⊢
  refine ⟨rfl, ⟨w', s.k.grown hg (fun g h => .inl (by injection h with h; exact h.symm)), ⟨A', n', ca', dropS e D, c1, c2, c3, by omega, fun e' h => dropS_dropS h D⟩, s.h2.keep (hg.block g2 s.h2.lt (by intro h; injection h with h; exact hne h.symm)) (fun i hi => hg.block i (by have := s.h1.lt; omega) (by intro h; injection h with h; omega))⟩, rfl⟩
theorem has_cw2 {a : World} {g1 g2 B : Nat} {e : Int} {D F : List Sp} (s : CW a g1 g2 B e D F) (hB1 : B ≤ g1) (hB2 : B ≤ g2) (hne : g1 ≠ g2) :
    Calls Tryz.prog 93 #[.pointer (some ⟨g2, 0, none⟩), .int .i64 e] s.w fun e' w' => e' = .returned (.bool (hdS e (dropS e F))) ∧ ∃ s' : CW a g1 g2 B e D F, w' = s'.w := by
  obtain ⟨A, n, ca, G, b1, b2, b3, b4, b5⟩ := s.h2
  refine (hasS_any g2 B A n ca G e s.w b1 b2 hB2 b3 b4).mono ?_
  rintro e' w' ⟨rfl, hg, A', n', ca', c1, c2, c3, c4⟩
  rw [b5 e (Int.le_refl _)] at c2 ⊢
  refine ⟨rfl, ⟨w', s.k.grown hg (fun g h => .inr (.inl (by injection h with h; exact h.symm))), s.h1.keep (hg.block g1 s.h1.lt (by intro h; injection h with h; exact hne h)) (fun i hi => hg.block i (by have := s.h2.lt; omega) (by intro h; injection h with h; omega)), ⟨A', n', ca', dropS e F, c1, c2, c3, by omega, fun e' h => dropS_dropS h F⟩⟩, rfl⟩
theorem wp_region_cw {P : Program} {id : Nat} {Q : Exit → Act → World → Prop} {ac : Act} {w : World} {l : List Oper} {a : World} {g1 g2 B : Nat} {e : Int} {D F : List Sp} (hm : P.follows .mixedOrders = true) (hB : Region.lexB .any l.toArray = true) (h0 : Kept g1 g2 a w) (h1 : Holds2 w g1 B e D) (h2 : Holds2 w g2 B e F)
    (h : wpQuiet P l.toArray (fun w' => ∃ s : CW a g1 g2 B e D F, w' = s.w) (fun a' => ∀ w9, Kept g1 g2 a w9 → Holds2 w9 g1 B e D → Holds2 w9 g2 B e F → Q .normal a' w9) l ac) : (Code.region id l.toArray true).wp P Q ac w := by
  have e0 : (fun a' => ∀ w9, Kept g1 g2 a w9 → Holds2 w9 g1 B e D → Holds2 w9 g2 B e F → Q .normal a' w9) = (fun a' : Act => ∀ w', (∃ s : CW a g1 g2 B e D F, w' = s.w) → Q .normal a' w') :=
    funext fun a' => propext ⟨fun h w' ⟨s, hs⟩ => hs ▸ h s.w s.k s.h1 s.h2, fun h w9 k1 k2 k3 => h w9 ⟨⟨w9, k1, k2, k3⟩, rfl⟩⟩
  rw [e0] at h
  exact wp_region_quiet (C := fun w' => ∃ s : CW a g1 g2 B e D F, w' = s.w) hm hB ⟨⟨w.drew, h0.drew, h1.keep rfl (fun _ _ => rfl), h2.keep rfl (fun _ _ => rfl)⟩, rfl⟩ (by simpa using h)
theorem step_append_any {P : Program} (w : World) {ops : Array Oper} {o : Oper} {a : Act} {K : Act → World → Prop} {Q : Exit → Act → World → Prop} {E : Prop} (hgd : o.guard = none) (s x : Operand) (t : TypeId)
    (ho : o.op = .call { callee := .builtin .append, args := #[s, x], argTypes := #[t, t] })
    (base : Nat) (e : TypeId) (i : TypeInfo) (z : Value) (size bytes : Nat) (ht : P.underlying t = some (.slice e)) (hi : P.info? e = some i) (hz : i.zero = some z)
    (hsize : i.size = size) (hby : i.bytes = bytes) (hzs : z.cells.size = size) (hsz : 0 < size)
    (v : Value) (n : Nat) (xs : List Value) (hs : a.eval s = v) (hown : w.ownsRow base e size v n xs)
    (B : Nat) (A : Option Addr) (m c : Nat) (news : List Value) (hx : a.eval x = .slice A m c) (hr : Reads w B size A m news) (h1 : ∀ u ∈ news, u.oneCell' = true)
    (h63 : n + m ≤ maxLen) (hbytes : (n + m) * bytes ≤ 140737488355328) (hbase : base ≤ w.heap.size)
    (h : ∀ v' w', w'.ownsRow base e size v' (n + m) (xs ++ news) → w.grownBy w' v.ownBlock → (v'.ownBlock = v.ownBlock ∨ v'.ownBlock = some w.heap.size) → K (a.put o.dst v') w') :
    if Region.wanted o (yielded ops a.tmps) = true then Oper.wp P o a w K Q else E := by
  have hw : Region.wanted o (yielded ops a.tmps) = true := by simp [Region.wanted, hgd]
  rw [if_pos hw]
  exact wp_append_any w s x t ho base e i z size bytes ht hi hz hsize hby hzs hsz v n xs hs hown B A m c news hx hr h1 h63 hbytes hbase h
theorem Tryz.infoInt : (Tryz.prog.info? 3).map (fun i => (i.zero, i.size, i.bytes)) = some (some (.int .i64 0), 1, 8) := by kernel_rfl
theorem ireads_new (w : World) (a b : Int) (t : TypeId) : Reads (w.alloc (.cells #[.int .i64 a, .int .i64 b] t)) (w.heap.size + 1) 1 (some ⟨w.heap.size, 0, none⟩) 2 (ivs [a, b]) := by
  refine ⟨rfl, fun _ => ⟨_, rfl, by simp, fun j u hu => ?_⟩⟩
  match j, hu with
  | 0, hu => simp [ivs] at hu; subst hu; simp [Addr.add]
  | 1, hu => simp [ivs] at hu; subst hu; simp [Addr.add]
  | j + 2, hu => simp [ivs] at hu
theorem endsS_take (D : List Sp) (k : Nat) (hk : k < D.length) : ivs (endsS (D.take (k + 1))) = ivs (endsS (D.take k)) ++ ivs [(gs D k).1, (gs D k).2] := by
  have e : ∀ X Y : List Sp, endsS (X ++ Y) = endsS X ++ endsS Y := fun X Y => by simp [endsS]
  rw [List.take_succ_eq_append_getElem hk, e, ivs_append]
  congr 1
  simp [endsS, gs, hk]
theorem endsS_len (D : List Sp) : (endsS D).length = D.length * 2 := by
  induction D with
  | nil => rfl
  | cons x r ih => simp [endsS] at ih ⊢; omega
theorem endsS_mem (D F : List Sp) (x : Int) : x ∈ endsS (D ++ F) ↔ (x ∈ endsS D ∨ x ∈ endsS F) := by simp [endsS]
end Go.Proofs.YtpemohoibeipfaaGreat
