/- Lists of lists of cells: rows of slices that are the call's own. -/
import Derived.RangeFuncBox
import Derived.Test.YtpemohoibeipfaaGreatHUa
import Derived.Test.YtpemohoibeipfaaGreatHVj
import Derived.Test.YtpemohoibeipfaaGreatHJm
import Derived.Test.YtpemohoibeipfaaGreatHTf
import Derived.Test.YtpemohoibeipfaaGreatHBi
set_option linter.unusedVariables false
set_option linter.unusedSimpArgs false
namespace Go.Proofs.YtpemohoibeipfaaGreat
open Go.RowKit
/-- all but the variable and its old row stays as it was -/
structure XK (B : Nat) (v : Value) (W W' : World) : Prop where
  os : W'.os = W.os
  tape : W'.tape = W.tape
  output : W'.output = W.output
  size : W.heap.size ≤ W'.heap.size
  block : ∀ k, k < W.heap.size → k ≠ B → v.ownBlock ≠ some k → W'.heap[k]? = W.heap[k]?
/-- the new row is the old one, or a new block -/
def Nx (W : World) (v v' : Value) : Prop := v'.ownBlock = v.ownBlock ∨ ∀ k, v'.ownBlock = some k → W.heap.size ≤ k
theorem Nx.refl (W : World) (v : Value) : Nx W v v := .inl rfl
theorem XK.refl (B : Nat) (v : Value) (W : World) : XK B v W W := ⟨rfl, rfl, rfl, Nat.le_refl _, fun _ _ _ _ => rfl⟩
theorem Nx.trans {W W1 : World} {v v1 v2 : Value} (h : Nx W v v1) (hs : W.heap.size ≤ W1.heap.size) (k : Nx W1 v1 v2) : Nx W v v2 := by
  rcases k with k | k
  · rcases h with h | h
    · exact .inl (k.trans h)
    · exact .inr fun j hj => h j (by rw [← k]; exact hj)
  · exact .inr fun j hj => Nat.le_trans hs (k j hj)
theorem XK.trans {B : Nat} {v v1 : Value} {W W1 W2 : World} (h : XK B v W W1) (n : Nx W v v1) (k : XK B v1 W1 W2) : XK B v W W2 :=
  ⟨k.os.trans h.os, k.tape.trans h.tape, k.output.trans h.output, Nat.le_trans h.size k.size, fun j hj hB hv => by
    refine (k.block j (Nat.lt_of_lt_of_le hj h.size) hB ?_).trans (h.block j hj hB hv)
    rcases n with n | n
    · rw [n]; exact hv
    · intro e; have := n j e; omega⟩
theorem XK.of_below {B : Nat} {v : Value} {W W' : World} (h : Below W.heap.size W W') : XK B v W W' := ⟨h.os, h.tape, h.output, h.size, fun k hk _ _ => h.block k hk⟩
theorem XK.below {B n₀ : Nat} {v : Value} {W W' : World} (h : XK B v W W') (hB : n₀ ≤ B) (hv : ∀ k, v.ownBlock = some k → n₀ ≤ k) (h0 : n₀ ≤ W.heap.size) : Below n₀ W W' :=
  ⟨h.os, h.tape, h.output, h.size, fun k hk => h.block k (by omega) (by omega) (fun e => by have := hv k e; omega)⟩
theorem XK.grown {B : Nat} {v : Value} {W W1 W2 : World} (h : XK B v W W1) (hg : W1.grownBy W2 v.ownBlock) : XK B v W W2 :=
  ⟨hg.os.trans h.os, hg.tape.trans h.tape, hg.output.trans h.output, Nat.le_trans h.size hg.size, fun k hk hB hv => (hg.block k (Nat.lt_of_lt_of_le hk h.size) (fun e => hv e.symm)).trans (h.block k hk hB hv)⟩
theorem XK.set {B : Nat} {v : Value} {W W1 : World} (h : XK B v W W1) (u : Value) : XK B v W (W1.setCell ⟨B, 0, none⟩ u) :=
  ⟨h.os, h.tape, h.output, by simpa [World.setCell] using h.size, fun k hk hB hv => (Below.heap_setCell W1 _ _ k (fun e => hB (by rw [e]))).trans (h.block k hk hB hv)⟩
theorem XK.blk {B : Nat} {v : Value} {W W' : World} (h : XK B v W W') {g : Nat} {t : TypeId} {cs : Array Value} (hg : Blk W g t cs) (hB : g ≠ B) (hv : v.ownBlock ≠ some g) : Blk W' g t cs := (h.block g hg.lt hB hv).trans hg
theorem own_ltK {W : World} {base : Nat} {e : TypeId} {size n : Nat} {v : Value} {xs : List Value} (h : W.ownsRow base e size v n xs) (k : Nat) (hk : v.ownBlock = some k) : k < W.heap.size := by
  rcases h.2 with ⟨rfl, _⟩ | ⟨g, cap, cur, rfl, hg, hh, _⟩
  · simp [Value.ownBlock] at hk
  · simp [Value.ownBlock] at hk
    subst hk
    exact (Array.getElem?_eq_some_iff.1 hh).1
theorem own_xk {B : Nat} {v u : Value} {W W' : World} {base : Nat} {e : TypeId} {size n : Nat} {xs : List Value} (h : W.ownsRow base e size u n xs) (hx : XK B v W W') (hu : ∀ k, u.ownBlock = some k → k ≠ B ∧ v.ownBlock ≠ some k) : W'.ownsRow base e size u n xs := by
  refine ⟨h.1, ?_⟩
  rcases h.2 with h1 | ⟨g, cap, cur, rfl, hg, hh, hr⟩
  · exact .inl h1
  · obtain ⟨u1, u2⟩ := hu g (by simp [Value.ownBlock])
    exact .inr ⟨g, cap, cur, rfl, hg, (hx.block g (Array.getElem?_eq_some_iff.1 hh).1 u1 u2).trans hh, hr⟩
/-- the variable in block B holds a slice that owns the cells L -/
structure St (n₀ B : Nat) (W : World) (v : Value) (L : List Cl) : Prop where
  box : Boxed W B 26 v
  row : W.ownsRow n₀ 58 3 v L.length (cvs L)
theorem St.below {n₀ B : Nat} {W W' : World} {v : Value} {L : List Cl} (h : St n₀ B W v L) (hb : Below W.heap.size W W') : St n₀ B W' v L :=
  ⟨(hb.block B h.box.lt).trans h.box, own_bl h.row hb (Nat.le_refl _)⟩
/-- from a state to another one -/
def Goes (n₀ B : Nat) (v : Value) (W : World) (L : List Cl) (W' : World) : Prop := ∃ v', St n₀ B W' v' L ∧ XK B v W W' ∧ Nx W v v'
theorem Goes.after {n₀ B : Nat} {v : Value} {W W1 W2 : World} {L : List Cl} (hb : Below W.heap.size W W1) (h : Goes n₀ B v W1 L W2) : Goes n₀ B v W L W2 := by
  obtain ⟨v', st, xk, nx⟩ := h
  exact ⟨v', st, (XK.of_below hb).trans (Nx.refl _ _) xk, (Nx.refl _ _).trans hb.size nx⟩
/-- a slice that owns a row owns its first part, too -/
theorem own_take3 {W : World} {base : Nat} {e : TypeId} {size n g cap : Nat} {xs : List Value} (h : W.ownsRow base e size (.slice (some ⟨g, 0, none⟩) n cap) n xs) (k : Nat) (hk : k ≤ n) : W.ownsRow base e size (.slice (some ⟨g, 0, none⟩) k cap) k (xs.take (k * size)) := by
  have h1 := h.1
  have hm : k * size ≤ n * size := Nat.mul_le_mul_right _ hk
  refine ⟨by rw [List.length_take]; omega, ?_⟩
  rcases h.2 with ⟨e', _⟩ | ⟨g', cap', cur, e', hg, hh, h2, h3, h4, h5⟩
  · cases e'
  · cases e'
    refine .inr ⟨g, cap, cur, rfl, hg, hh, by omega, h3, h4, ?_⟩
    rw [← h5, List.take_take, Nat.min_eq_left hm]
theorem cvs_take (L : List Cl) (k : Nat) : (cvs L).take (k * 3) = cvs (L.take k) := by
  induction L generalizing k with
  | nil => simp [cvs]
  | cons x r ih =>
    cases k with
    | zero => simp [cvs]
    | succ k =>
      have e : (k + 1) * 3 = k * 3 + 3 := by omega
      have hc : cvs (x :: r) = .int .i64 x.1 :: .int .i64 x.2.1 :: .int .i64 x.2.2 :: cvs r := rfl
      have hd : cvs ((x :: r).take (k + 1)) = .int .i64 x.1 :: .int .i64 x.2.1 :: .int .i64 x.2.2 :: cvs (r.take k) := rfl
      rw [hc, hd, e]
      simp only [List.take_succ_cons]
      rw [ih]
/-- reading the last part of a slice of cells -/
theorem Reads.drop {W : World} {B n b off : Nat} {L : List Cl} (h : Reads W B 3 (some ⟨b, off, none⟩) n (cvs L)) (k : Nat) (hk : k < n) : Reads W B 3 (some ⟨b, off + k * 3, none⟩) (n - k) (cvs (L.drop k)) := by
  have hl : L.length = n := by have := h.1; rw [cvs_length] at this; omega
  refine ⟨by rw [cvs_length, List.length_drop, hl], fun _ => ⟨_, rfl, ?_, ?_⟩⟩
  · obtain ⟨ad, e, hb, _⟩ := h.2 (by omega)
    cases e
    exact hb
  · obtain ⟨ad, e, hb, hc⟩ := h.2 (by omega)
    cases e
    intro j u hu
    have hs : (cvs L).drop (k * 3) = cvs (L.drop k) := by
      have h1 := List.take_append_drop (k * 3) (cvs L)
      rw [cvs_take] at h1
      have h2 : cvs L = cvs (L.take k) ++ cvs (L.drop k) := by rw [← cvs_append, List.take_append_drop]
      have h3 : (cvs (L.take k)).length = k * 3 := by rw [cvs_length, List.length_take]; omega
      rw [h2, ← h3, List.drop_left]
    have := hc (k * 3 + j) u (by rw [← List.getElem?_drop, hs]; exact hu)
    rw [Go.WideShapes.add_plain] at this ⊢
    rw [← Nat.add_assoc] at this
    exact this
end Go.Proofs.YtpemohoibeipfaaGreat
namespace Go.Proofs.YtpemohoibeipfaaGreat
open Canon
/-! ### lengths and validity of what is put together -/
theorem mg1_v {L : List Cl} (hL : AllV L) (h : four4 L = true) : AllV (mg1 L) := by
  unfold four4 at h
  rw [Bool.and_eq_true, Bool.and_eq_true, decide_eq_true_eq, decide_eq_true_eq] at h
  intro x hx
  rcases List.mem_append.1 hx with hx | hx
  · exact hL x (List.mem_of_mem_take hx)
  · simp at hx
    subst hx
    exact par_vl (gt_v hL (by omega)) h.2.1
theorem mg1_short {L : List Cl} (h : four4 L = true) : (mg1 L).length + 3 = L.length := by
  unfold four4 at h
  rw [Bool.and_eq_true, decide_eq_true_eq] at h
  unfold mg1
  simp
  omega
theorem mgF_v : ∀ (f : Nat) (L : List Cl), AllV L → AllV (mgF f L)
  | 0, _, h => h
  | f + 1, L, h => by
    unfold mgF
    split
    · rename_i h4; exact mgF_v f _ (mg1_v h h4)
    · exact h
theorem mgF_len : ∀ (f : Nat) (L : List Cl), (mgF f L).length ≤ L.length
  | 0, _ => Nat.le_refl _
  | f + 1, L => by
    unfold mgF
    split
    · rename_i h4
      have := mgF_len f (mg1 L)
      have := mg1_short h4
      omega
    · exact Nat.le_refl _
theorem kid_lev {c : Cl} {f : Nat} {lev : Int} (hl : c.1 + ((f + 1 : Nat) : Int) = lev) : ∀ x ∈ kidsC c, x.1 + (f : Int) = lev := by
  intro x hx
  simp only [kidsC, kids, List.mem_cons, List.not_mem_nil, or_false] at hx
  rcases hx with rfl | rfl | rfl | rfl <;> (simp only []; omega)
theorem one_app {O : List Cl} {c : Cl} (hO : AllV O) (hc : Vl c) : AllV (O ++ [c]) := by
  intro x hx
  rcases List.mem_append.1 hx with hx | hx
  · exact hO x hx
  · simp at hx; subst hx; exact hc
theorem covP_v {mt ins : Cl → Bool} {lev : Int} (h16 : lev ≤ 16) : ∀ (f : Nat) (c : Cl) (O : List Cl), Vl c → c.1 + (f : Int) = lev → AllV O → AllV (covP mt ins lev f c O) := by
  intro f
  induction f with
  | zero =>
    intro c O hc hl hO
    unfold covP
    split
    · exact mgF_v _ _ (one_app hO hc)
    · exact hO
  | succ f ih =>
    intro c O hc hl hO
    unfold covP
    split
    · split
      · exact mgF_v _ _ (one_app hO hc)
      · have hkv := kids_vl hc (by omega)
        have hkl := kid_lev hl
        generalize kidsC c = K at hkv hkl
        revert hO
        revert O
        induction K with
        | nil => intro O hO; exact hO
        | cons x K ihK =>
          intro O hO
          exact ihK (fun y hy => hkv y (List.mem_cons_of_mem _ hy)) (fun y hy => hkl y (List.mem_cons_of_mem _ hy)) _ (ih x O (hkv x (List.mem_cons_self ..)) (hkl x (List.mem_cons_self ..)) hO)
    · exact hO
theorem covP_len {mt ins : Cl → Bool} {lev : Int} (h16 : lev ≤ 16) (hins : ∀ x, Vl x → x.1 < lev → ins x = true → ∀ y ∈ kidsC x, ins y = true ∧ mt y = true) : ∀ (f : Nat) (c : Cl) (O : List Cl), Vl c → c.1 + (f : Int) = lev → (covP mt ins lev f c O).length ≤ O.length + (arnL mt lev f c).length := by
  intro f
  induction f with
  | zero =>
    intro c O hc hl
    unfold covP arnL
    split
    · rw [if_pos (by omega)]
      have := mgF_len (O.length + 1) (O ++ [c])
      simpa using this
    · simp
  | succ f ih =>
    intro c O hc hl
    by_cases hm : mt c = true
    · by_cases hi : ins c = true
      · have hfull := ins_full h16 hins (f + 1) c hc hl hm hi
        have hne : 1 ≤ (arnL mt lev (f + 1) c).length := by
          obtain ⟨x, hx, -⟩ := (hfull (spF c)).2 ((cov_one c _).2 ⟨Nat.le_refl _, sp_pos c⟩)
          exact List.length_pos_of_mem hx
        unfold covP
        rw [if_pos hm, if_pos (.inr hi)]
        have := mgF_len (O.length + 1) (O ++ [c])
        rw [List.length_append, List.length_singleton] at this
        omega
      · unfold covP arnL
        rw [if_pos hm, if_pos hm, if_neg (by intro h; rcases h with h | h; omega; exact hi h), if_neg (by omega)]
        have hkv := kids_vl hc (by omega)
        have hkl := kid_lev hl
        generalize kidsC c = K at hkv hkl
        revert O
        induction K with
        | nil => intro O; simp
        | cons x K ihK =>
          intro O
          have h1 := ih x O (hkv x (List.mem_cons_self ..)) (hkl x (List.mem_cons_self ..))
          have h2 := ihK (fun y hy => hkv y (List.mem_cons_of_mem _ hy)) (fun y hy => hkl y (List.mem_cons_of_mem _ hy)) (covP mt ins lev f x O)
          simp only [List.foldl_cons, List.flatMap_cons, List.length_append]
          omega
    · unfold covP arnL
      rw [if_neg hm, if_neg hm]
      simp
/-- after some of the children -/
def foldK (mt ins : Cl → Bool) (lev : Int) (f : Nat) (K : List Cl) (O : List Cl) (k : Nat) : List Cl := (K.take k).foldl (fun O x => covP mt ins lev f x O) O
theorem foldK_succ (mt ins : Cl → Bool) (lev : Int) (f : Nat) (K : List Cl) (O : List Cl) (k : Nat) (hk : k < K.length) : foldK mt ins lev f K O (k + 1) = covP mt ins lev f (gt K k) (foldK mt ins lev f K O k) := by
  unfold foldK
  rw [List.take_succ_eq_append_getElem hk, List.foldl_append]
  simp [gt, hk]
/-- how many there are at most, with what is still to come -/
theorem foldK_ok {mt ins : Cl → Bool} {lev : Int} (h16 : lev ≤ 16) (hins : ∀ x, Vl x → x.1 < lev → ins x = true → ∀ y ∈ kidsC x, ins y = true ∧ mt y = true) {f : Nat} {K O : List Cl} (hkv : AllV K) (hkl : ∀ x ∈ K, x.1 + (f : Int) = lev) (hO : AllV O) :
    ∀ k, k ≤ K.length → AllV (foldK mt ins lev f K O k) ∧ (foldK mt ins lev f K O k).length + ((K.drop k).flatMap (arnL mt lev f)).length ≤ O.length + (K.flatMap (arnL mt lev f)).length := by
  intro k
  induction k with
  | zero => intro _; exact ⟨hO, by simp [foldK]⟩
  | succ k ih =>
    intro hk
    obtain ⟨i1, i2⟩ := ih (by omega)
    have hm : gt K k ∈ K := by simp [gt, show k < K.length by omega]
    rw [foldK_succ _ _ _ _ _ _ _ (by omega)]
    refine ⟨covP_v h16 f _ _ (hkv _ hm) (hkl _ hm) i1, ?_⟩
    have h1 := covP_len h16 hins f (gt K k) (foldK mt ins lev f K O k) (hkv _ hm) (hkl _ hm)
    have hd : K.drop k = gt K k :: K.drop (k + 1) := by
      rw [List.drop_eq_getElem_cons (by omega)]
      simp [gt, show k < K.length by omega]
    rw [hd, List.flatMap_cons, List.length_append] at i2
    omega
end Go.Proofs.YtpemohoibeipfaaGreat
namespace Go.Proofs.YtpemohoibeipfaaGreat
open Go.RowKit
theorem grown_setG (w : World) (g j : Nat) (v : Value) : w.grownBy (w.setCell ⟨g, j, none⟩ v) (some g) :=
  ⟨rfl, rfl, rfl, by simp, fun k _ hk => Below.heap_setCell _ _ _ k (fun e => hk (by rw [e]))⟩
end Go.Proofs.YtpemohoibeipfaaGreat
namespace Go.Proofs.YtpemohoibeipfaaGreat
open Go.RowKit
theorem own_lt' {w : World} {base : Nat} {e : TypeId} {size n : Nat} {v : Value} {xs : List Value} (h : w.ownsRow base e size v n xs) {q : Nat} (hq : v.ownBlock = some q) : q < w.heap.size := by
  rcases h.2 with ⟨rfl, _⟩ | ⟨g, cap, cur, rfl, _, hh, _⟩
  · simp [Value.ownBlock] at hq
  · have : g = q := by simpa [Value.ownBlock] using hq
    subst this
    rcases Nat.lt_or_ge g w.heap.size with hlt | hge
    · exact hlt
    · rw [Array.getElem?_eq_none hge] at hh; cases hh
theorem own_grown' {w w' : World} {base : Nat} {e : TypeId} {size n : Nat} {v : Value} {xs : List Value} {row : Option Nat} (h : w.ownsRow base e size v n xs) (hg : w.grownBy w' row) (hne : ∀ q, v.ownBlock = some q → row ≠ some q) : w'.ownsRow base e size v n xs := by
  refine ⟨h.1, ?_⟩
  have hlt := @own_lt' w base e size n v xs h
  rcases h.2 with h1 | ⟨g, cap, cur, rfl, hb, hh, hr⟩
  · exact .inl h1
  · have hq : (Value.slice (some ⟨g, 0, none⟩) n cap).ownBlock = some g := by simp [Value.ownBlock]
    exact .inr ⟨g, cap, cur, rfl, hb, (hg.block g (hlt hq) (fun e => hne g hq e.symm)).trans hh, hr⟩
section
variable {W W' : World} {B : Nat} {v : Value} {LL : List (List Cl)} {vs : List Value}
end
end Go.Proofs.YtpemohoibeipfaaGreat
