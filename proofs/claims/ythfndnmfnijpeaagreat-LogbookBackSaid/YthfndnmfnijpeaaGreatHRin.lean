/- Walks of Box, Parent, the reference's Parent and Valid, both ValidPoints, index. -/
import Derived.Orders
import Derived.Lib.AppendStr
import Derived.Test.YthfndnmfnijpeaaGreatHLm
set_option linter.unusedVariables false
set_option linter.unusedSimpArgs false
namespace Go.Proofs.YthfndnmfnijpeaaGreat
open Go.RowKit
/-- one operation more has been done -/
def mkd (L : Nat → Bool) (i : Nat) : Nat → Bool := fun j => if j = i then true else L j
theorem mkd_ne {L : Nat → Bool} {i j : Nat} (h : ¬ j = i) : mkd L i j = L j := if_neg h
theorem wpOp_of_list {P : Program} {ops : Array Oper} {Q : Exit → Act → World → Prop} {i : Nat} {o : Oper} {K : Act → World → Prop} {a : Act} {w : World} (hi : ops[i]? = some o) (h : wpList P ops (Exit.then K Q) [o] a w) : wpOp P ops Q i K a w := by
  unfold wpOp
  rw [hi]
  simp only [wpList] at h
  simp only []
  split
  · rename_i hw
    rw [if_pos hw] at h
    refine h.imp (fun h1 => ?_) id
    unfold Oper.wp at *
    generalize (execOp a.eval o).run P w = r at *
    cases r with
    | ok n w' => cases n <;> exact h1
    | halt x w' => cases x <;> exact h1
  · rename_i hw
    rw [if_neg hw] at h
    exact h
end Go.Proofs.YthfndnmfnijpeaaGreat
namespace Go.Proofs.YthfndnmfnijpeaaGreat
open Go.RowKit
theorem putQ_self (a : Act) (i : Nat) : a.put (some i) (a.tmps.getD i undef) = a := by
  cases a with
  | mk t d =>
    have : t.setIfInBounds i (t.getD i undef) = t := by
      apply Array.ext
      · simp
      · intro j h1 h2
        rw [Array.getElem_setIfInBounds]
        split
        · rename_i e
          subst e
          simp [Array.getD, h2]
        · rfl
    show Act.mk (t.setIfInBounds i (t.getD i undef)) d = _
    rw [this]
theorem wp_region_invB {P : Program} {id : Nat} {ops : Array Oper} {Q : Exit → Act → World → Prop} {a : Act} {w : World} (hm : P.follows .mixedOrders = true) (Inv : (Nat → Bool) → Act → World → Prop)
    (hwf : ∀ (i : Nat) (o : Oper), ops[i]? = some o → ∀ e ∈ o.after, Region.binds .any e = true → e.on < i)
    (h0 : Inv (fun _ => false) a w.drew)
    (hstep : ∀ (L : Nat → Bool) (i : Nat) (o : Oper) (a : Act) (w : World), ops[i]? = some o → L i = false → (∀ e ∈ o.after, Region.binds .any e = true → L e.on = true) → Inv L a w → wpList P ops (Exit.then (fun a' w' => Inv (fun j => if j = i then true else L j) a' w') Q) [o] a w)
    (hend : ∀ (L : Nat → Bool) (a : Act) (w : World), (∀ i, i < ops.size → L i = true) → Inv L a w → Q .normal a w) : (Code.region id ops true).wp P Q a w := by
  have key : ∀ (fuel : Nat) (listed : Array Bool) (L : Nat → Bool) (a : Act) (w : World), listed.size = ops.size → (∀ i, i < ops.size → listed.getD i true = L i ∧ listed.getD i false = L i) → PQ.unm (fun j => if L j = true then 1 else 0) ops.size ≤ fuel → Inv L a w → wpAny P .any ops Q fuel listed a w := by
    intro fuel
    have all : ∀ (listed : Array Bool) (L : Nat → Bool), (∀ i, i < ops.size → listed.getD i true = L i ∧ listed.getD i false = L i) → Region.ready .any ops listed = [] → ∀ n i, i < n → i < ops.size → L i = true := by
      intro listed L hL hr n
      induction n with
      | zero => intro i h; omega
      | succ n ih =>
        intro i hi his
        by_cases e : i < n
        · exact ih i e his
        · obtain rfl : i = n := by omega
          cases hl : L i with
          | true => rfl
          | false =>
            exfalso
            have : i ∈ Region.ready .any ops listed := by
              rw [mem_ready]
              refine ⟨by rw [(hL i his).1, hl], ops[i], by rw [Array.getElem?_eq_getElem his], fun e he hbd => ?_⟩
              have := hwf i _ (by rw [Array.getElem?_eq_getElem his]) e he hbd
              rw [(hL e.on (by omega)).2]
              exact ih e.on this (by omega)
            rw [hr] at this
            cases this
    induction fuel with
    | zero =>
      intro listed L a w hs hL hu hI
      have hall : ∀ i, i < ops.size → L i = true := by
        intro i hi
        cases hl : L i with
        | true => rfl
        | false =>
          exfalso
          have := PQ.unm_upd (pt := fun j => if L j = true then 1 else 0) (v := 1) hi (by simp [hl]) (by omega)
          omega
      refine ⟨?_, hend L a w hall hI⟩
      cases hr : Region.ready .any ops listed with
      | nil => rfl
      | cons i rs =>
        have hi : i ∈ Region.ready .any ops listed := by rw [hr]; exact List.mem_cons_self ..
        obtain ⟨h1, o, ho, -⟩ := mem_ready.1 hi
        have his : i < ops.size := by
          rcases Nat.lt_or_ge i ops.size with g | g
          · exact g
          · rw [Array.getElem?_eq_none g] at ho; cases ho
        rw [(hL i his).1, hall i his] at h1
        cases h1
    | succ fuel ih =>
      intro listed L a w hs hL hu hI
      refine ⟨fun hr => hend L a w (fun i hi => all listed L hL hr ops.size i hi hi) hI, fun i hi => ?_⟩
      obtain ⟨h1, o, ho, haf⟩ := mem_ready.1 hi
      have his : i < ops.size := by
        rcases Nat.lt_or_ge i ops.size with g | g
        · exact g
        · rw [Array.getElem?_eq_none g] at ho; cases ho
      rw [(hL i his).1] at h1
      have hst := hstep L i o a w ho h1 (fun e he hb => by
        have := haf e he hb
        rwa [(hL e.on (by have := hwf i o ho e he hb; omega)).2] at this) hI
      refine wpOp_mono (fun a' w' h => ?_) (wpOp_of_list ho hst)
      refine ih _ _ a' w' (by simpa using hs) (fun j hj => ?_) ?_ h
      · by_cases e : j = i
        · subst e
          simp [hs, his]
        · have := hL j hj
          have e' : ¬ i = j := fun h => e h.symm
          simp only [if_neg e]
          simp only [Array.getD_eq_getD_getElem?, Array.getElem?_setIfInBounds, if_neg e'] at this ⊢
          exact this
      · have := PQ.unm_upd (pt := fun j => if L j = true then 1 else 0) (v := 1) his (by simp [h1]) (by omega)
        have e2 : (fun j => if (if j = i then true else L j) = true then 1 else 0) = PQ.upd (fun j => if L j = true then 1 else 0) i 1 := by
          funext j
          unfold PQ.upd
          by_cases e : j = i
          · simp [e]
          · simp [e]
        rw [e2]
        omega
  refine wp_region_any hm (key ops.size _ (fun _ => false) a _ (by simp) (fun i hi => by simp [hi]) ?_ h0)
  exact Nat.le_trans (by unfold PQ.unm; exact List.length_filter_le _ _) (by simp)
theorem wp_region_inv3 {P : Program} {id : Nat} {ops : Array Oper} {Q : Exit → Act → World → Prop} {a : Act} {w : World} (hm : P.follows .mixedOrders = true) (Inv : Act → (Nat → Bool) → Act → World → Prop)
    (hwf : ∀ (i : Nat) (o : Oper), ops[i]? = some o → ∀ e ∈ o.after, Region.binds .any e = true → e.on < i)
    (h0 : Inv a (fun _ => false) a w.drew)
    (hstep : ∀ (L : Nat → Bool) (i : Nat) (o : Oper) (a1 : Act) (w : World), ops[i]? = some o → L i = false → (∀ e ∈ o.after, Region.binds .any e = true → L e.on = true) → Inv a L a1 w → wpList P ops (Exit.then (fun a' w' => Inv a (mkd L i) a' w') Q) [o] a1 w)
    (hend : ∀ (L : Nat → Bool) (a1 : Act) (w : World), (∀ i, i < ops.size → L i = true) → Inv a L a1 w → Q .normal a1 w) : (Code.region id ops true).wp P Q a w :=
  wp_region_invB hm (Inv a) hwf h0 hstep hend
/-- every operation waits for earlier ones alone, as far as it must, as a Bool -/
def waitsBind (ops : Array Oper) : Bool := (List.range ops.size).all fun i => (ops[i]?.map fun o => o.after.all fun e => !(Region.binds .any e) || decide (e.on < i)).getD true
theorem waits_bind {ops : Array Oper} (h : waitsBind ops = true) : ∀ (i : Nat) (o : Oper), ops[i]? = some o → ∀ e ∈ o.after, Region.binds .any e = true → e.on < i := by
  intro i o ho e he hb
  have his : i < ops.size := by
    rcases Nat.lt_or_ge i ops.size with g | g
    · exact g
    · rw [Array.getElem?_eq_none g] at ho; cases ho
  have h1 := (List.all_eq_true.1 h) i (List.mem_range.2 his)
  rw [ho] at h1
  simp only [Option.map_some, Option.getD_some] at h1
  have := Array.all_eq_true'.1 h1 e he
  rw [hb] at this
  simpa using this
end Go.Proofs.YthfndnmfnijpeaaGreat
namespace Go.Proofs.YthfndnmfnijpeaaGreat
open Go.RowKit
open LB (Bs Rec)
/-- the bytes of a list as cells -/
def bcs (l : Bs) : List Value := l.map fun c => .int .u8 (c.toNat : Int)
theorem bcs_app (l m : Bs) : bcs (l ++ m) = bcs l ++ bcs m := by simp [bcs]
theorem bcs_length (l : Bs) : (bcs l).length = l.length := by simp [bcs]
theorem bcs_one (l : Bs) : ∀ u ∈ bcs l, u.oneCell' = true := by
  intro u hu
  obtain ⟨x, _, rfl⟩ := List.mem_map.1 hu
  rfl
theorem Tryz.infoU8 : (Tryz.prog.info? 5).map (fun i => (i.zero, i.size, i.bytes)) = some (some (.int .u8 0), 1, 1) := by kernel_rfl
theorem reads_b8 (w : World) (z : UInt8) (t : TypeId) : Reads (w.alloc (.cells #[.int .u8 (z.toNat : Int)] t)) (w.alloc (.cells #[.int .u8 (z.toNat : Int)] t)).heap.size 1 (some ⟨w.heap.size, 0, none⟩) 1 (bcs [z]) := by
  refine ⟨rfl, fun _ => ⟨_, rfl, by simp, fun j u hu => ?_⟩⟩
  match j, hu with
  | 0, hu => simp [bcs] at hu; subst hu; simp [Addr.add]
  | j + 1, hu => simp [bcs] at hu
theorem k1 {M : Nat → Bool} {i a b : Nat} (H : Hid (M a = true → M b = true)) (h8 : (a == i) = false := by decide) : mkd M i a = true → mkd M i b = true := fun h => by
  have q := H.out (by rwa [mkd_ne (by simpa using h8)] at h)
  simp [mkd, q]
theorem k2 {M : Nat → Bool} {i a b c : Nat} (H : Hid (M a = true → M b = true ∧ M c = true)) (h8 : (a == i) = false := by decide) : mkd M i a = true → mkd M i b = true ∧ mkd M i c = true := fun h => by
  have q := H.out (by rwa [mkd_ne (by simpa using h8)] at h)
  simp [mkd, q]
theorem kn {M : Nat → Bool} {i j : Nat} {p : Prop} (H : Hid (M j = false → p)) (h8 : (j == i) = false := by decide) : mkd M i j = false → p := fun h => H.out (by rwa [mkd_ne (by simpa using h8)] at h)
theorem kp {M : Nat → Bool} {i j : Nat} {p : Prop} (H : Hid (M j = true → p)) (h8 : (j == i) = false := by decide) : mkd M i j = true → p := fun h => H.out (by rwa [mkd_ne (by simpa using h8)] at h)
theorem km {M : Nat → Bool} {i j k : Nat} {p : Prop} (H : Hid (M j = true → M k = false → p)) (h8 : (j == i) = false := by decide) (h9 : (k == i) = false := by decide) : mkd M i j = true → mkd M i k = false → p := fun h h' => H.out (by rwa [mkd_ne (by simpa using h8)] at h) (by rwa [mkd_ne (by simpa using h9)] at h')
theorem pu_ {p : Prop} (h : p := by simp only [Act.put, List.setIfInBounds_toArray, List.set_cons_zero, List.set_cons_succ]) : p := h
theorem kq {L : Nat → Bool} {i j : Nat} {p : Prop} (E : Hid (L j = true → p)) (hne : (j == i) = false := by decide) : mkd L i j = true → p := fun h => E.out (by rwa [mkd_ne (by simpa using hne)] at h)
/-- what is no row of bytes and no writer stays -/
def Stays (w w' : World) : Prop := ∀ (t : TypeId) (b : Nat) (cs : Array Value), t ≠ 5 → t ≠ 122 → Blk w b t cs → Blk w' b t cs
theorem Stays.refl (w : World) : Stays w w := fun _ _ _ _ _ h => h
theorem Stays.drew (w : World) : Stays w w.drew := fun _ _ _ _ _ h => h
theorem Stays.trans {a b c : World} (h : Stays a b) (k : Stays b c) : Stays a c := fun t g cs h1 h2 hb => k t g cs h1 h2 (h t g cs h1 h2 hb)
theorem Stays.alloc {a b : World} (h : Stays a b) (o : Obj) : Stays a (b.alloc o) := fun t g cs h1 h2 hb => (h t g cs h1 h2 hb).alloc o
theorem Stays.grown {a b c : World} (h : Stays a b) {B n : Nat} {v : Value} {xs : List Value} (hO : b.ownsRow B 5 1 v n xs) (k : b.grownBy c v.ownBlock) : Stays a c := fun t g cs h1 h2 hb =>
  (h t g cs h1 h2 hb).grown k (fun q => own_blk_ne hO (h t g cs h1 h2 hb) (Ne.symm h1) q.symm)
theorem Stays.set_ {a b : World} (h : Stays a b) {g : Nat} {c : Array Value} (hG : Blk b g 122 c) (v : Value) {i : Nat} : Stays a (b.setCell ⟨g, i, none⟩ v) := fun t k cs h1 h2 hb =>
  (h t k cs h1 h2 hb).far (p := ⟨g, i, none⟩) (Blk.ne_ (h t k cs h1 h2 hb) hG h2) v
/-- the order of the append of one byte, drawn: what is known when the operations M are done -/
def WbI (w : World) (B g : Nat) (sv : Value) (N s q : Int) (z : UInt8) (L : Bs) (a : Act) (M : Nat → Bool) (a' : Act) (w' : World) : Prop :=
  ∃ (v17 v18 v19 v20 v21 v22 v23 v24 v25 v26 v27 v28 v29 : Value), a' = (((((((((((((a.put (some 17) v17).put (some 18) v18).put (some 19) v19).put (some 20) v20).put (some 21) v21).put (some 22) v22).put (some 23) v23).put (some 24) v24).put (some 25) v25).put (some 26) v26).put (some 27) v27).put (some 28) v28).put (some 29) v29) ∧ Below B w w' ∧
    Stays w w' ∧
    (M 10 = true → M 4 = true ∧ M 9 = true) ∧
    (M 13 = true → M 10 = true) ∧
    (M 9 = true → M 8 = true) ∧
    (M 10 = false → w'.ownsRow B 5 1 sv L.length (bcs L)) ∧
    (M 10 = true → w'.ownsRow B 5 1 v27 (L.length + 1) (bcs (L ++ [z]))) ∧
    (M 13 = false → Blk w' g 122 #[sv]) ∧
    (M 13 = true → Blk w' g 122 #[v27]) ∧
    (M 9 = true → M 10 = false → ∃ b, v26 = .slice (some ⟨b, 0, none⟩) 1 1 ∧ Reads w' w'.heap.size 1 (some ⟨b, 0, none⟩) 1 (bcs [z])) ∧
    (M 0 = true → v17 = .pointer (some ⟨g, 0, none⟩)) ∧
    (M 1 = true → v18 = .pointer (some ⟨g, 0, none⟩)) ∧
    (M 2 = true → v19 = .pointer (some ⟨g, 0, none⟩)) ∧
    (M 3 = true → v20 = .pointer (some ⟨g, 0, none⟩)) ∧
    (M 4 = true → v21 = sv) ∧
    (M 5 = true → v22 = .int .i64 N) ∧
    (M 6 = true → v23 = .int .i64 s) ∧
    (M 7 = true → v24 = .int .i64 q) ∧
    (M 8 = true → v25 = .int .u8 (z.toNat : Int)) ∧
    (M 11 = true → v28 = .pointer (some ⟨g, 0, none⟩)) ∧
    (M 12 = true → v29 = .pointer (some ⟨g, 0, none⟩))
theorem WbI.start {w : World} {B g : Nat} {sv : Value} {N s q : Int} {z : UInt8} {L : Bs} (a : Act) (hB : B ≤ w.heap.size) (hO : w.ownsRow B 5 1 sv L.length (bcs L)) (hG : Blk w g 122 #[sv]) : WbI w B g sv N s q z L a (fun _ => false) a w.drew :=
  ⟨_, _, _, _, _, _, _, _, _, _, _, _, _, by rw [putQ_self a 17, putQ_self a 18, putQ_self a 19, putQ_self a 20, putQ_self a 21, putQ_self a 22, putQ_self a 23, putQ_self a 24, putQ_self a 25, putQ_self a 26, putQ_self a 27, putQ_self a 28, putQ_self a 29], (bl_drew (Below.refl _ _)).mono hB, Stays.drew _, nofun, nofun, nofun, fun _ => hO, nofun, fun _ => hG, nofun, nofun, nofun, nofun, nofun, nofun, nofun, nofun, nofun, nofun, nofun, nofun, nofun⟩
/-- the writer in block g: its bytes; what it owns lies at B and above -/
def WrB (w : World) (B g : Nat) (L : Bs) : Prop := ∃ sv, B ≤ g ∧ B ≤ w.heap.size ∧ Blk w g 122 #[sv] ∧ w.ownsRow B 5 1 sv L.length (bcs L)
theorem WrB.below {w w' : World} {B g : Nat} {L : Bs} (h : WrB w B g L) (hb : Below w.heap.size w w') : WrB w' B g L := by
  obtain ⟨sv, h0, h1, h2, h3⟩ := h
  exact ⟨sv, h0, Nat.le_trans h1 hb.size, h2.below hb h2.lt, own_bl h3 hb (Nat.le_refl _)⟩
/-- the byte of a number at a shift -/
def byK (N : Int) (k : Nat) : Int := N / (256 : Int) ^ (7 - k)
theorem num_take (N : Int) {k : Nat} (hk : k < 8) : (LB.num N).take (k + 1) = (LB.num N).take k ++ [LB.b8 (byK N k)] := by
  rcases k with _ | _ | _ | _ | _ | _ | _ | _ | k
  all_goals first | omega | rfl | (simp [LB.num, byK])
theorem shr_any (N : Int) {k : Nat} (hk : k < 8) (W : World) (h0 : -9223372036854775808 ≤ N) (h1 : N ≤ 9223372036854775807) : (Op.shift .shr .i64 N .i64 (56 - 8 * (k : Int))).run Tryz.prog W = .ok (.int .i64 (byK N k)) W := by
  rcases k with _ | _ | _ | _ | _ | _ | _ | _ | k
  all_goals first | omega | skip
  all_goals
    go_simp
    simp [byK]
/-- numbers in a slice that the writer leaves alone -/
def IntsB (w : World) (B : Nat) (A : Option Addr) (l : List Int) : Prop := l = [] ∨ ∃ b off, A = some ⟨b, off, none⟩ ∧ (b < B ∨ ∃ cs, Blk w b 3 cs) ∧ ∀ j x, l[j]? = some x → w.cell? ⟨b, off + j, none⟩ = some (.int .i64 x)
theorem IntsB.stays {w w' : World} {B : Nat} {A : Option Addr} {l : List Int} (h : IntsB w B A l) (hb : Below B w w') (hs : Stays w w') : IntsB w' B A l := by
  rcases h with h | ⟨b, off, e, hlt | ⟨cs, hB⟩, hc⟩
  · exact .inl h
  · exact .inr ⟨b, off, e, .inl hlt, fun j x hx => (hb.cell (p := ⟨b, off + j, none⟩) hlt).trans (hc j x hx)⟩
  · have hB' := hs _ _ _ (by decide) (by decide) hB
    refine .inr ⟨b, off, e, .inr ⟨cs, hB'⟩, fun j x hx => ?_⟩
    rw [hB'.cell, ← hB.cell]; exact hc j x hx
theorem nums_take (l : List Int) {k : Nat} {x : Int} (hx : l[k]? = some x) : LB.nums (l.take (k + 1)) = LB.nums (l.take k) ++ LB.num x := by
  obtain ⟨hk, rfl⟩ := List.getElem?_eq_some_iff.1 hx
  rw [List.take_succ_eq_append_getElem hk, LB.nums_append]
  simp [LB.nums]
theorem u8_b8 (q : Int) : IntKind.u8.wrap q = ((LB.b8 q).toNat : Int) := by
  rw [LB.b8_val]
  simp [IntKind.wrap, IntKind.bits, IntKind.signed]
set_option maxHeartbeats 8000000 in
set_option maxRecDepth 100000 in
theorem numbers_any (B g : Nat) (L : Bs) (A : Option Addr) (n c : Nat) (l : List Int) (w : World) (h : WrB w B g L) (hA : IntsB w B A l) (hn : l.length = n) (hn1 : n ≤ 1000) (hL : L.length ≤ 100000) (hl : ∀ x ∈ l, LB.I64 x) :
    Calls Tryz.prog 48 #[.pointer (some ⟨g, 0, none⟩), .slice A n c] w fun e' w' => e' = .returned (.tuple #[]) ∧ WrB w' B g (L ++ LB.nums l) ∧ Below B w w' ∧ Stays w w' := by
  have hgB : B ≤ g := h.choose_spec.1
  obtain ⟨i0, hi0, hz0, hz1, hzb⟩ := info_parts Tryz.infoU8
  have H := Lib.hid h
  have HAA := Lib.hid hA
  have HN := Lib.hid hn
  have HL := Lib.hid hl
  clear h hA hn hl
  go_enter Tryz.func48, Tryz.ntmps48
  go_wp2
  go_loopg [5, 6, 9] n (fun gz _ _ s9 wr => ∃ k : Nat, k ≤ n ∧ n - k ≤ gz ∧ s9 = .int .i64 (k : Int) ∧ WrB wr B g (L ++ LB.nums (l.take k)) ∧ Below B w wr ∧ Stays w wr)
  case atStart => exact ⟨0, Nat.zero_le _, by omega, rfl, by simpa [LB.nums] using H.out, Below.refl _ _, Stays.refl _⟩
  case round =>
    obtain ⟨k, hk, hg, rfl, hW, hb, hs⟩ := hrel
    have HW := Lib.hid hW
    have HB := Lib.hid hb
    have HS := Lib.hid hs
    clear hW hb hs
    by_cases hlt : k < n
    · obtain ⟨N, hN⟩ : ∃ N, l[k]? = some N := ⟨_, List.getElem?_eq_getElem (by rw [HN.out]; exact hlt)⟩
      have hI := HL.out N (List.mem_of_getElem? hN)
      have hAr := HAA.out.stays HB.out HS.out
      obtain ⟨b, off, rfl, hc⟩ : ∃ b off, A = some ⟨b, off, none⟩ ∧ wr.cell? ⟨b, off + k, none⟩ = some (.int .i64 N) := by
        rcases hAr with e | ⟨b, off, e, _, hc⟩
        · subst e; simp at hN
        · exact ⟨b, off, e, hc k N hN⟩
      have hT := Lib.hid (nums_take l hN)
      have hLl := Lib.hid (LB.nums_length (l.take k))
      have hlk : (l.take k).length = k := by rw [List.length_take, HN.out]; omega
      rw [hlk] at hLl
      have HLl := hLl
      have HII := Lib.hid hI
      clear hAr hN hI hlk
      go_wp2
      go_loopg [6] 8 (fun gz s6 wr2 => ∃ j : Nat, j ≤ 8 ∧ 8 - j ≤ gz ∧ s6 = .int .i64 (56 - 8 * (j : Int)) ∧ WrB wr2 B g (L ++ LB.nums (l.take k) ++ (LB.num N).take j) ∧ Below B w wr2 ∧ Stays w wr2)
      case atStart => exact ⟨0, Nat.zero_le _, by omega, rfl, by simpa using HW.out, HB.out, HS.out⟩
      case round =>
        obtain ⟨j, hj, hg2, rfl, hW2, hb2, hs2⟩ := hrel
        have HB2 := Lib.hid hb2
        have HS2 := Lib.hid hs2
        have HW2 := Lib.hid hW2
        clear hb2 hs2 hW2
        by_cases hj8 : j < 8
        · obtain ⟨sv, -, hBw, hG, hO⟩ := HW2.out
          have d0 : decide (0 ≤ 56 - 8 * (j : Int)) = true := decide_eq_true (by omega)
          have HQ := Lib.hid (fun W => shr_any N hj8 W HII.out.1 (by have := HII.out.2; omega))
          have HTK := Lib.hid (num_take N hj8)
          have e8 : wrap64 (56 - 8 * (j : Int) - 8) = 56 - 8 * (j : Int) - 8 := IntWalk.wrap64_in _ (by omega)
          obtain ⟨L2, hL2⟩ : ∃ L2, L ++ LB.nums (l.take k) ++ (LB.num N).take j = L2 := ⟨_, rfl⟩
          have hlen : L2.length ≤ 200000 := by
            rw [← hL2, List.length_append, List.length_append, HLl.out, List.length_take]
            have : (LB.num N).length = 8 := rfl
            omega
          rw [hL2] at hO
          have HL2 := Lib.hid hL2
          clear hL2 HW2
          obtain ⟨q, hq⟩ : ∃ q, byK N j = q := ⟨_, rfl⟩
          rw [hq] at HQ HTK
          have HZ := Lib.hid (u8_b8 q)
          obtain ⟨z, hz⟩ : ∃ z, LB.b8 q = z := ⟨_, rfl⟩
          rw [hz] at HZ HTK
          clear hz hq
          obtain ⟨s, hs⟩ : ∃ s, 56 - 8 * (j : Int) = s := ⟨_, rfl⟩
          rw [hs] at HQ d0 e8 ⊢
          have HSS := Lib.hid hs
          clear hs
          go_wp2
          refine wp_region_inv3 (by kernel_rfl) (WbI wr B g sv N s q z L2) (waits_bind (by kernel_rfl)) ?start ?step ?fin
          case start => exact WbI.start _ hBw hO hG
          case step =>
            clear hG hO
            rintro M i o a1' w' ho hL haf ⟨v17, v18, v19, v20, v21, v22, v23, v24, v25, v26, v27, v28, v29, rfl, hB, hX, hD, hE, hF, hO, hN, hG, hS, hR, e0, e1, e2, e3, e4, e5, e6, e7, e8, e11, e12⟩
            have HB := Lib.hid hB
            have HX := Lib.hid hX
            have HD := Lib.hid hD
            have HE := Lib.hid hE
            have HF := Lib.hid hF
            have HO := Lib.hid hO
            have HN := Lib.hid hN
            have HG := Lib.hid hG
            have HS := Lib.hid hS
            have HR := Lib.hid hR
            have E0 := Lib.hid e0
            have E1 := Lib.hid e1
            have E2 := Lib.hid e2
            have E3 := Lib.hid e3
            have E4 := Lib.hid e4
            have E5 := Lib.hid e5
            have E6 := Lib.hid e6
            have E7 := Lib.hid e7
            have E8 := Lib.hid e8
            have E11 := Lib.hid e11
            have E12 := Lib.hid e12
            clear hB hX hD hE hF hO hN hG hS hR e0 e1 e2 e3 e4 e5 e6 e7 e8 e11 e12
            rcases i with _ | _ | _ | _ | _ | _ | _ | _ | _ | _ | _ | _ | _ | _ | i
            all_goals (simp at ho; try subst ho)
            all_goals (try simp [Region.binds] at haf)
            · go_wp2
              unfold WbI
              exact ⟨(.pointer (some ⟨g, 0, none⟩)), v18, v19, v20, v21, v22, v23, v24, v25, v26, v27, v28, v29, pu_, HB.out, HX.out, k2 HD, k1 HE, k1 HF, kn HO, kp HN, kn HG, kp HS, km HR, fun _ => rfl, kq E1, kq E2, kq E3, kq E4, kq E5, kq E6, kq E7, kq E8, kq E11, kq E12⟩
            · go_wp2
              unfold WbI
              exact ⟨v17, (.pointer (some ⟨g, 0, none⟩)), v19, v20, v21, v22, v23, v24, v25, v26, v27, v28, v29, pu_, HB.out, HX.out, k2 HD, k1 HE, k1 HF, kn HO, kp HN, kn HG, kp HS, km HR, kq E0, fun _ => rfl, kq E2, kq E3, kq E4, kq E5, kq E6, kq E7, kq E8, kq E11, kq E12⟩
            · obtain rfl := (E1.out (by simp [haf])).symm
              go_wp2
              unfold WbI
              exact ⟨v17, (.pointer (some ⟨g, 0, none⟩)), (.pointer (some ⟨g, 0, none⟩)), v20, v21, v22, v23, v24, v25, v26, v27, v28, v29, pu_, HB.out, HX.out, k2 HD, k1 HE, k1 HF, kn HO, kp HN, kn HG, kp HS, km HR, kq E0, fun _ => rfl, fun _ => rfl, kq E3, kq E4, kq E5, kq E6, kq E7, kq E8, kq E11, kq E12⟩
            · obtain rfl := (E2.out (by simp [haf])).symm
              go_wp2
              unfold WbI
              exact ⟨v17, v18, (.pointer (some ⟨g, 0, none⟩)), (.pointer (some ⟨g, 0, none⟩)), v21, v22, v23, v24, v25, v26, v27, v28, v29, pu_, HB.out, HX.out, k2 HD, k1 HE, k1 HF, kn HO, kp HN, kn HG, kp HS, km HR, kq E0, kq E1, fun _ => rfl, fun _ => rfl, kq E4, kq E5, kq E6, kq E7, kq E8, kq E11, kq E12⟩
            · obtain rfl := (E3.out (by simp [haf])).symm
              have n10 : M 10 = false := by cases h8 : M 10 with | false => rfl | true => exact absurd (HD.out h8).1 (by simp [hL])
              have n13 : M 13 = false := by cases h8 : M 13 with | false => rfl | true => exact absurd (HE.out h8) (by simp [n10])
              have y0 : w'.cell? ⟨g, 0, none⟩ = some sv := (HG.out n13).cell 0
              go_wp2
              unfold WbI
              exact ⟨v17, v18, v19, (.pointer (some ⟨g, 0, none⟩)), (sv), v22, v23, v24, v25, v26, v27, v28, v29, pu_, HB.out, HX.out, k2 HD, k1 HE, k1 HF, kn HO, kp HN, kn HG, kp HS, km HR, kq E0, kq E1, kq E2, fun _ => rfl, fun _ => rfl, kq E5, kq E6, kq E7, kq E8, kq E11, kq E12⟩
            · go_wp2
              unfold WbI
              exact ⟨v17, v18, v19, v20, v21, (.int .i64 N), v23, v24, v25, v26, v27, v28, v29, pu_, HB.out, HX.out, k2 HD, k1 HE, k1 HF, kn HO, kp HN, kn HG, kp HS, km HR, kq E0, kq E1, kq E2, kq E3, kq E4, fun _ => rfl, kq E6, kq E7, kq E8, kq E11, kq E12⟩
            · go_wp2
              unfold WbI
              exact ⟨v17, v18, v19, v20, v21, v22, (.int .i64 s), v24, v25, v26, v27, v28, v29, pu_, HB.out, HX.out, k2 HD, k1 HE, k1 HF, kn HO, kp HN, kn HG, kp HS, km HR, kq E0, kq E1, kq E2, kq E3, kq E4, kq E5, fun _ => rfl, kq E7, kq E8, kq E11, kq E12⟩
            · obtain rfl := (E5.out (by simp [haf])).symm
              obtain rfl := (E6.out (by simp [haf])).symm
              have hs1 := HQ.out
              go_wp2
              unfold WbI
              exact ⟨v17, v18, v19, v20, v21, (.int .i64 N), (.int .i64 s), (.int .i64 q), v25, v26, v27, v28, v29, pu_, HB.out, HX.out, k2 HD, k1 HE, k1 HF, kn HO, kp HN, kn HG, kp HS, km HR, kq E0, kq E1, kq E2, kq E3, kq E4, fun _ => rfl, fun _ => rfl, fun _ => rfl, kq E8, kq E11, kq E12⟩
            · obtain rfl := (E7.out (by simp [haf])).symm
              have hz1 := HZ.out
              go_wp2
              unfold WbI
              exact ⟨v17, v18, v19, v20, v21, v22, v23, (.int .i64 q), (.int .u8 (z.toNat : Int)), v26, v27, v28, v29, pu_, HB.out, HX.out, k2 HD, k1 HE, k1 HF, kn HO, kp HN, kn HG, kp HS, km HR, kq E0, kq E1, kq E2, kq E3, kq E4, kq E5, kq E6, fun _ => rfl, fun _ => rfl, kq E11, kq E12⟩
            · obtain rfl := (E8.out (by simp [haf])).symm
              have n10 : M 10 = false := by cases h8 : M 10 with | false => rfl | true => exact absurd (HD.out h8).2 (by simp [hL])
              have n13 : M 13 = false := by cases h8 : M 13 with | false => rfl | true => exact absurd (HE.out h8) (by simp [n10])
              have hO := HO.out n10
              have hG := HG.out n13
              have hBs := HB.out.size
              have m8 : M 8 = true := by simp [haf]
              go_wp2
              unfold WbI
              exact ⟨v17, v18, v19, v20, v21, v22, v23, v24, (.int .u8 (z.toNat : Int)), (.slice (some ⟨w'.heap.size, 0, none⟩) 1 1), v27, v28, v29, pu_, HB.out.alloc (by omega) _, HX.out.alloc _, fun h => absurd h (by simp [mkd, n10]), fun h => absurd h (by simp [mkd, n13]), fun _ => by simp [mkd, m8], fun _ => own_bl hO (bl_alloc _ _) (Nat.le_refl _), fun h => absurd h (by simp [mkd, n10]), fun _ => hG.alloc _, fun h => absurd h (by simp [mkd, n13]), fun _ _ => ⟨_, rfl, reads_b8 w' z _⟩, kq E0, kq E1, kq E2, kq E3, kq E4, kq E5, kq E6, kq E7, fun _ => rfl, kq E11, kq E12⟩
            · obtain rfl := (E4.out (by simp [haf])).symm
              have m49 : M 4 = true ∧ M 9 = true := by simp [haf]
              have m8 := HF.out m49.2
              have n13 : M 13 = false := by cases h8 : M 13 with | false => rfl | true => exact absurd (HE.out h8) (by simp [hL])
              have hO := HO.out hL
              have hG := HG.out n13
              have hBs := HB.out.size
              obtain ⟨b7, rfl, hR⟩ := HR.out m49.2 hL
              have hne := own_blk_ne hO hG (by decide)
              simp only [Act.put, List.setIfInBounds_toArray, List.set_cons_zero, List.set_cons_succ]
              refine wpList_append_any _ rfl (.tmp 21) (.tmp 26) _ rfl B 5 i0 _ 1 1 Tryz.underlying34 hi0 hz0 hz1 hzb rfl (by decide) sv L2.length (bcs L2) (by simp [Act.eval]) hO w'.heap.size (some ⟨b7, 0, none⟩) 1 1 (bcs [z]) (by simp [Act.eval]) hR (bcs_one _) (by simp only [maxLen]; omega) (by omega) (by omega) ?_
              intro u9 w9 hown9 hg9 hob9
              go_wp2
              have hB9 : Below B wr w9 := HB.out.grown hg9 (by omega) (fun k hk => own_base hO k hk)
              unfold WbI
              exact ⟨v17, v18, v19, v20, (sv), v22, v23, v24, v25, (.slice (some ⟨b7, 0, none⟩) 1 1), u9, v28, v29, pu_, hB9, HX.out.grown hO hg9, fun _ => by simp [mkd, m49], fun h => absurd h (by simp [mkd, n13]), k1 HF, fun h => absurd h (by simp [mkd]), fun _ => by rw [bcs_app]; exact hown9, fun _ => hG.grown hg9 (fun q => hne q.symm), fun h => absurd h (by simp [mkd, n13]), fun _ h => absurd h (by simp [mkd]), kq E0, kq E1, kq E2, kq E3, fun _ => rfl, kq E5, kq E6, kq E7, kq E8, kq E11, kq E12⟩
            · obtain rfl := (E0.out (by simp [haf])).symm
              go_wp2
              unfold WbI
              exact ⟨(.pointer (some ⟨g, 0, none⟩)), v18, v19, v20, v21, v22, v23, v24, v25, v26, v27, (.pointer (some ⟨g, 0, none⟩)), v29, pu_, HB.out, HX.out, k2 HD, k1 HE, k1 HF, kn HO, kp HN, kn HG, kp HS, km HR, fun _ => rfl, kq E1, kq E2, kq E3, kq E4, kq E5, kq E6, kq E7, kq E8, fun _ => rfl, kq E12⟩
            · obtain rfl := (E11.out (by simp [haf])).symm
              go_wp2
              unfold WbI
              exact ⟨v17, v18, v19, v20, v21, v22, v23, v24, v25, v26, v27, (.pointer (some ⟨g, 0, none⟩)), (.pointer (some ⟨g, 0, none⟩)), pu_, HB.out, HX.out, k2 HD, k1 HE, k1 HF, kn HO, kp HN, kn HG, kp HS, km HR, kq E0, kq E1, kq E2, kq E3, kq E4, kq E5, kq E6, kq E7, kq E8, fun _ => rfl, fun _ => rfl⟩
            · obtain rfl := (E12.out (by simp [haf])).symm
              have m10 : M 10 = true := by simp [haf]
              have hG := HG.out hL
              have hN := HN.out m10
              obtain ⟨A5, c5, rfl, -, -, -⟩ := own_form hN
              have y0 : w'.cell? ⟨g, 0, none⟩ = some sv := hG.cell 0
              have z0 := hG.frozen 0
              go_wp2
              unfold WbI
              exact ⟨v17, v18, v19, v20, v21, v22, v23, v24, v25, v26, (.slice A5 (L2.length + 1) c5), v28, (.pointer (some ⟨g, 0, none⟩)), pu_, HB.out.setCell hgB _, HX.out.set_ hG _, k2 HD, fun _ => by simp [mkd, m10], k1 HF, fun h => absurd h (by simp [mkd, m10]), fun _ => ownsRow_far hN hG (by decide), fun h => absurd h (by simp [mkd]), fun _ => hG.set_ 0 _, fun _ h => absurd h (by simp [mkd, m10]), kq E0, kq E1, kq E2, kq E3, kq E4, kq E5, kq E6, kq E7, kq E8, kq E11, fun _ => rfl⟩
          case fin =>
            rintro M a1' w' hall ⟨v17, v18, v19, v20, v21, v22, v23, v24, v25, v26, v27, v28, v29, rfl, hB, hX, hD, hE, hF, hO, hN, hG, hS, hR, e0, e1, e2, e3, e4, e5, e6, e7, e8, e11, e12⟩
            have X1 := Lib.hid (HB2.out.trans hB)
            have X2 := Lib.hid (HS2.out.trans hX)
            have X3 := Lib.hid (hN (hall 10 (by decide)))
            have X4 := Lib.hid (hS (hall 13 (by decide)))
            have X5 := Lib.hid (Nat.le_trans hBw hB.size)
            clear hB hX hD hE hF hO hN hG hS hR e0 e1 e2 e3 e4 e5 e6 e7 e8 e11 e12
            simp only [Act.put, List.setIfInBounds_toArray, List.set_cons_zero, List.set_cons_succ]
            go_wp2
            go_roundg (8 - (j + 1))
            case measure => omega
            case rel =>
              have eL : L ++ LB.nums (l.take k) ++ (LB.num N).take (j + 1) = L2 ++ [z] := by rw [HTK.out, ← List.append_assoc, HL2.out]
              refine ⟨j + 1, by omega, by omega, congrArg _ (by rw [e8, ← HSS.out]; omega), ?_, X1.out, X2.out⟩
              rw [eL]
              exact ⟨v27, hgB, X5.out, X4.out, by simpa using X3.out⟩
        · obtain rfl : j = 8 := by omega
          have d0 : decide (0 ≤ 56 - 8 * ((8 : Nat) : Int)) = false := by decide
          go_wp2
          go_roundg (n - (k + 1))
          case measure => omega
          case rel =>
            refine ⟨k + 1, by omega, by omega, by go_num, ?_, HB2.out, HS2.out⟩
            have := HW2.out
            rw [hT.out, ← List.append_assoc]
            rwa [show (LB.num N).take 8 = LB.num N from rfl] at this
    · obtain rfl : k = n := by omega
      have hW := HW.out
      rw [List.take_of_length_le (by rw [HN.out]; exact Nat.le_refl _)] at hW
      have HW2 := Lib.hid hW
      clear hW
      go_wp2
      exact bodyPost_end (results_none Tryz.results48 _ _ _) rfl ⟨rfl, HW2.out, HB.out, HS.out⟩
end Go.Proofs.YthfndnmfnijpeaaGreat
namespace Go.Proofs.YthfndnmfnijpeaaGreat
open Go.RowKit
open LB (Bs Rec)
theorem reads_b2 (w : World) (y z : UInt8) (t : TypeId) : Reads (w.alloc (.cells #[.int .u8 (y.toNat : Int), .int .u8 (z.toNat : Int)] t)) (w.alloc (.cells #[.int .u8 (y.toNat : Int), .int .u8 (z.toNat : Int)] t)).heap.size 1 (some ⟨w.heap.size, 0, none⟩) 2 (bcs [y, z]) := by
  refine ⟨rfl, fun _ => ⟨_, rfl, by simp, fun j u hu => ?_⟩⟩
  match j, hu with
  | 0, hu => simp [bcs] at hu; subst hu; simp [Addr.add]
  | 1, hu => simp [bcs] at hu; subst hu; simp [Addr.add]
  | j + 2, hu => simp [bcs] at hu
set_option maxHeartbeats 8000000 in
set_option maxRecDepth 100000 in
theorem wsize_any (B g n : Nat) (L : Bs) (w : World) (h : WrB w B g L) (hn : n ≤ 60000) (hL : L.length ≤ 100000) :
    Calls Tryz.prog 49 #[.pointer (some ⟨g, 0, none⟩), .int .i64 n] w fun e' w' => e' = .returned (.tuple #[]) ∧ WrB w' B g (L ++ LB.siz n) ∧ Below B w w' ∧ Stays w w' := by
  obtain ⟨sv, hgB, hBw, hG, hO⟩ := h
  obtain ⟨i0, hi0, hz0, hz1, hzb⟩ := info_parts Tryz.infoU8
  have y0 : w.cell? ⟨g, 0, none⟩ = some sv := hG.cell 0
  have z0 := hG.frozen 0
  have x1 := u8_b8 ((n : Int) / 256)
  have x2 := u8_b8 (n : Int)
  have hsz : LB.siz n = [LB.b8 ((n : Int) / 256), LB.b8 (n : Int)] := rfl
  have hO1 := Lib.hid (own_bl hO (bl_alloc w (.cells #[.int .u8 ((LB.b8 ((n : Int) / 256)).toNat : Int), .int .u8 ((LB.b8 (n : Int)).toNat : Int)] 5)) (Nat.le_refl _))
  have hG1 := Lib.hid (hG.alloc (.cells #[.int .u8 ((LB.b8 ((n : Int) / 256)).toNat : Int), .int .u8 ((LB.b8 (n : Int)).toNat : Int)] 5))
  have hR1 := Lib.hid (reads_b2 w (LB.b8 ((n : Int) / 256)) (LB.b8 (n : Int)) 5)
  rw [hsz]
  generalize LB.b8 ((n : Int) / 256) = b1 at *
  generalize LB.b8 (n : Int) = b2 at *
  have hOO := Lib.hid hO
  have hGG := Lib.hid hG
  clear hO hG hsz
  go_enter Tryz.func49, Tryz.ntmps49
  go_wp2_with (at_builtin; (refine wpList_append_any _ rfl (.tmp 8) (.tmp 14) _ rfl B 5 i0 _ 1 1 Tryz.underlying34 hi0 hz0 hz1 hzb rfl (by decide) sv L.length (bcs L) rfl hO1.out _ (some ⟨w.heap.size, 0, none⟩) 2 2 (bcs [b1, b2]) rfl hR1.out (bcs_one _) (by simp only [maxLen]; omega) (by omega) (by simp; omega) ?_); intro u9 w9 hown9 hg9 hob9; obtain ⟨A5, c5, rfl, -, -, -⟩ := own_form hown9; have hne := own_blk_ne hO1.out hG1.out (by decide); have G9 := Lib.hid (hG1.out.grown hg9 (fun q => hne q.symm)); have y9 : w9.cell? ⟨g, 0, none⟩ = some sv := G9.out.cell 0; have z9 := G9.out.frozen 0; have B9 := Lib.hid (((Below.refl B w).alloc hBw (.cells #[.int .u8 (b1.toNat : Int), .int .u8 (b2.toNat : Int)] 5)).grown hg9 (by simp; omega) (fun k hk => own_base hO1.out k hk)); have S9 := Lib.hid (((Stays.refl w).alloc (.cells #[.int .u8 (b1.toNat : Int), .int .u8 (b2.toNat : Int)] 5)).grown hO1.out hg9); have O9 := Lib.hid hown9; clear hown9 hg9 hob9 hne)
  exact bodyPost_end (results_none Tryz.results49 _ _ _) rfl ⟨rfl, ⟨.slice A5 (L.length + 2) c5, hgB, by have := B9.out.size; simp; omega, by simpa using G9.out.set_ 0 _, by have := ownsRow_far O9.out G9.out (i := 0) (u := .slice A5 (L.length + 2) c5) (by decide); simpa [bcs_app] using this⟩, B9.out.setCell hgB _, S9.out.set_ G9.out _⟩
theorem siz_len (n : Nat) : (LB.siz n).length = 2 := rfl
set_option maxHeartbeats 8000000 in
set_option maxRecDepth 100000 in
theorem wstr_any (B g : Nat) (x L : Bs) (w : World) (h : WrB w B g L) (hx : x.length ≤ 60000) (hL : L.length ≤ 100000) :
    Calls Tryz.prog 47 #[.pointer (some ⟨g, 0, none⟩), txb x] w fun e' w' => e' = .returned (.tuple #[]) ∧ WrB w' B g (L ++ LB.str x) ∧ Below B w w' ∧ Stays w w' := by
  have hgB : B ≤ g := h.choose_spec.1
  have KS := Lib.hid (wsize_any B g x.length L w h hx hL)
  obtain ⟨i0, hi0, hz0, hz1, hzb⟩ := info_parts Tryz.infoU8
  have hz := (show (⟨x.toArray⟩ : ByteArray).size = x.length by show x.toArray.size = _; simp)
  clear h
  have hstr : L ++ LB.str x = L ++ LB.siz x.length ++ x := by rw [LB.str, List.append_assoc]
  rw [hstr]
  have hlen : (L ++ LB.siz x.length).length = L.length + 2 := by rw [List.length_append, siz_len]
  generalize L ++ LB.siz x.length = M at KS hlen ⊢
  clear hstr
  have HL := Lib.hid hlen
  clear hlen
  go_enter Tryz.func47, Tryz.ntmps47
  go_wp2_with fail
  (with_reducible refine (KS.out).mono ?_)
  rintro e w1 ⟨rfl, ⟨sv, -, hBw, hG, hO⟩, hb, hs⟩
  have G1 := Lib.hid hG
  have O1 := Lib.hid hO
  have B1 := Lib.hid hb
  have S1 := Lib.hid hs
  have y0 : w1.cell? ⟨g, 0, none⟩ = some sv := hG.cell 0
  clear hG hO hb hs KS
  have hsc : Lib.strCells ⟨x.toArray⟩ = bcs x := by simp [Lib.strCells, bcs]
  go_wp2_with (at_builtin; (refine Lib.wpList_append_own_string _ rfl (.tmp 12) (.tmp 13) _ _ rfl B 5 i0 Tryz.underlying34 Tryz.underlying9 hi0 hz0 hz1 hzb sv M.length (bcs M) rfl O1.out ⟨x.toArray⟩ rfl (by rw [hz, HL.out]; simp only [maxLen]; omega) (by rw [hz, HL.out]; omega) hBw ?_); intro u9 w9 hown9 hg9 hob9; rw [hz, hsc] at hown9; obtain ⟨A5, c5, rfl, -, -, -⟩ := own_form hown9; have hne := own_blk_ne O1.out G1.out (by decide); have G9 := Lib.hid (G1.out.grown hg9 (fun q => hne q.symm)); have y9 : w9.cell? ⟨g, 0, none⟩ = some sv := G9.out.cell 0; have z9 := G9.out.frozen 0; have B9 := Lib.hid (B1.out.grown hg9 hBw (fun k hk => own_base O1.out k hk)); have T9 := Lib.hid ((Below.refl B w1).grown hg9 hBw (fun k hk => own_base O1.out k hk)); have S9 := Lib.hid (S1.out.grown O1.out hg9); have O9 := Lib.hid hown9; clear hown9 hg9 hob9 hne)
  exact bodyPost_end (results_none Tryz.results47 _ _ _) rfl ⟨rfl, ⟨.slice A5 (M.length + x.length) c5, hgB, by have := T9.out.size; simp; omega, by simpa using G9.out.set_ 0 _, by have := ownsRow_far O9.out G9.out (i := 0) (u := .slice A5 (M.length + x.length) c5) (by decide); simpa [bcs_app] using this⟩, B9.out.setCell hgB _, S9.out.set_ G9.out _⟩
end Go.Proofs.YthfndnmfnijpeaaGreat
namespace Go.Proofs.YthfndnmfnijpeaaGreat
open Go.RowKit
theorem ret_int {k : IntKind} {a b : Int} (h : a = b) : Ending.returned (.int k a) = .returned (.int k b) := by rw [h]
end Go.Proofs.YthfndnmfnijpeaaGreat
namespace Go.Proofs.YthfndnmfnijpeaaGreat
open Go.RowKit
/-- what the caller's two first blocks keep -/
theorem two_lt {w w1 : World} {o1 o2 : Obj} (hb : Below ((w.alloc o1).alloc o2).heap.size ((w.alloc o1).alloc o2) w1) : w.heap.size < w1.heap.size ∧ w.heap.size + 1 < w1.heap.size := by
  have := hb.size
  simp at this
  omega
theorem two_bl {w w1 : World} {o1 o2 : Obj} (hb : Below ((w.alloc o1).alloc o2).heap.size ((w.alloc o1).alloc o2) w1) : Below w.heap.size w w1 :=
  (((Below.refl _ _).alloc (Nat.le_refl _) _).alloc (by simp) _).trans (hb.mono (by simp; omega))

theorem one_lt {w w1 : World} {o1 : Obj} (hb : Below (w.alloc o1).heap.size (w.alloc o1) w1) : w.heap.size < w1.heap.size := by
  have := hb.size
  simp at this
  omega
theorem one_bl {w w1 : World} {o1 : Obj} (hb : Below (w.alloc o1).heap.size (w.alloc o1) w1) : Below w.heap.size w w1 :=
  ((Below.refl _ _).alloc (Nat.le_refl _) _).trans (hb.mono (by simp))
end Go.Proofs.YthfndnmfnijpeaaGreat
