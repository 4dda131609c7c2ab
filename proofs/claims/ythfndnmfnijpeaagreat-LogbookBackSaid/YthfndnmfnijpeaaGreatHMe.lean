/- The reader of logbook: into. -/
import Derived.Lib.ConvBytes
import Derived.Laws.BytesArg
import Derived.Shelf.Bytes.SlEqualAll
import Derived.Test.YthfndnmfnijpeaaGreatHLy
import Derived.Test.YthfndnmfnijpeaaGreatHLq
import Derived.Test.YthfndnmfnijpeaaGreatHRin
set_option linter.unusedVariables false
set_option linter.unusedSimpArgs false
namespace Go.Proofs.YthfndnmfnijpeaaGreat
open LB (Bs Rec St)
theorem va_onl {r : Rec} (h : vaB r = true) : r = onl r := by
  unfold vaB at h
  by_cases h1 : r.kind = 1
  · rw [if_pos h1] at h; simp only [Bool.and_eq_true, decide_eq_true_eq] at h; exact h.2
  rw [if_neg h1] at h
  by_cases h2 : r.kind = 2
  · rw [if_pos h2] at h; simp only [Bool.and_eq_true, decide_eq_true_eq] at h; exact h.2
  rw [if_neg h2] at h
  by_cases h3 : r.kind = 3
  · rw [if_pos h3] at h; simp only [Bool.and_eq_true, decide_eq_true_eq] at h; exact h.2
  rw [if_neg h3] at h
  by_cases h4 : r.kind = 4
  · rw [if_pos h4] at h; simp only [Bool.and_eq_true, decide_eq_true_eq] at h; exact h.2
  rw [if_neg h4] at h
  by_cases h5 : r.kind = 5
  · rw [if_pos h5] at h; simp only [Bool.and_eq_true, decide_eq_true_eq] at h; exact h.2
  rw [if_neg h5] at h
  cases h
theorem va_kind' {r : Rec} (h : vaB r = true) : 1 ≤ r.kind ∧ r.kind ≤ 5 := by
  unfold vaB at h
  by_cases h1 : r.kind = 1
  · omega
  by_cases h2 : r.kind = 2
  · omega
  by_cases h3 : r.kind = 3
  · omega
  by_cases h4 : r.kind = 4
  · omega
  by_cases h5 : r.kind = 5
  · omega
  rw [if_neg h1, if_neg h2, if_neg h3, if_neg h4, if_neg h5] at h
  cases h
theorem va_only {r : Rec} (h : vaB r = true) : LB.Only r := by
  have he := va_onl h
  have hk := va_kind' h
  clear h
  obtain ⟨k, a0, a1, p0, p1, p2, p3, m0, m1, m2, m3, bo, s0, s1, s2, s3, s4, s5, s6, s7, s8, s9, li, te⟩ := r
  simp only [] at hk
  have hk5 : k = 1 ∨ k = 2 ∨ k = 3 ∨ k = 4 ∨ k = 5 := by omega
  rcases hk5 with rfl | rfl | rfl | rfl | rfl
  all_goals
    simp [onl] at he
    refine ⟨by simp, ?_, ?_, ?_, ?_, ?_, ?_⟩
    all_goals (intros; simp_all)
theorem va_body {r : Rec} (h : vaB r = true) : r.body.length ≤ 20 := by
  by_cases h3 : r.kind = 3
  · unfold vaB at h
    rw [if_neg (by omega), if_neg (by omega), if_pos h3] at h
    simp only [Bool.and_eq_true, siB, naB, decide_eq_true_eq] at h
    exact h.1.1.1.1.1.1.1.1.1.1
  · have := ((va_only h).sight h3).1
    rw [this]; simp
theorem va_list {r : Rec} (h : vaB r = true) : r.list.length ≤ 41 := by
  by_cases h4 : r.kind = 4
  · unfold vaB at h
    rw [if_neg (by omega), if_neg (by omega), if_neg (by omega), if_pos h4] at h
    simp only [Bool.and_eq_true, liB, decide_eq_true_eq] at h
    exact h.1.2.1.1.2
  · rw [(va_only h).list h4]; simp
theorem va_text {r : Rec} (h : vaB r = true) : r.text.length ≤ 500 := by
  by_cases h5 : r.kind = 5
  · unfold vaB at h
    rw [if_neg (by omega), if_neg (by omega), if_neg (by omega), if_neg (by omega), if_pos h5] at h
    simp only [Bool.and_eq_true, teB, decide_eq_true_eq] at h
    exact h.1.2.2.2
  · rw [(va_only h).text h5]; simp
theorem stp_I64 (n c : Int) (c0 : 0 ≤ c) (c1 : c < 256) : LB.I64 (LB.stp n c) := by
  unfold LB.I64 LB.stp LB.w64; omega
theorem un_I64 (l : Bs) : LB.I64 (LB.un l) := by
  unfold LB.un
  suffices h : ∀ (l : Bs) (n : Int), LB.I64 n → LB.I64 (l.foldl (fun n c => LB.stp n (c.toNat : Int)) n) from h l 0 (by unfold LB.I64; omega)
  intro l
  induction l with
  | nil => intro n h; exact h
  | cons c l ih => intro n _; exact ih _ (stp_I64 n _ (by omega) (by have := c.toNat_lt; omega))
theorem ints_I64 : ∀ (k : Nat) (s : St), ∀ x ∈ (LB.ints k s).1, LB.I64 x
  | 0, s, x, h => by simp [LB.ints] at h
  | k + 1, s, x, h => by
    have h' : x ∈ (LB.one s).1 :: (LB.ints k (LB.one s).2).1 := h
    rcases List.mem_cons.1 h' with e | h'
    · rw [e]; exact un_I64 _
    · exact ints_I64 k _ x h'
theorem loop_I64 : ∀ (k : Nat) (s : St), ∀ x ∈ (LB.loop k s).1, LB.I64 x
  | 0, s, x, h => by simp [LB.loop] at h
  | k + 1, s, x, h => by
    unfold LB.loop at h
    by_cases e : (LB.one s).2.2 = true
    · rw [if_pos e] at h; simp at h
    · rw [if_neg e] at h
      have h' : x ∈ (LB.one s).1 :: (LB.loop k (LB.one s).2).1 := h
      rcases List.mem_cons.1 h' with e' | h'
      · rw [e']; exact un_I64 _
      · exact loop_I64 k _ x h'
theorem at_I64 {l : List Int} (h : ∀ x ∈ l, LB.I64 x) (i : Nat) : LB.I64 (LB.at' l i) := by
  unfold LB.at'
  rw [List.getD_eq_getElem?_getD]
  cases e : l[i]? with
  | none => unfold LB.I64; simp
  | some x => exact h x (List.mem_of_getElem? e)
theorem zero_I64 : LB.I64 0 := by unfold LB.I64; omega
theorem body_I64 (k : Int) (s : St) : (∀ x ∈ numL (LB.body k s).1, LB.I64 x) ∧ ∀ x ∈ (LB.body k s).1.list, LB.I64 x := by
  unfold LB.body
  by_cases h3 : k = 3
  · simp only [h3, ite_true]
    refine ⟨fun x hx => ?_, fun x hx => by simp [Rec.zero] at hx⟩
    have hA := ints_I64 10 (LB.text s).2
    simp [numL, Rec.zero] at hx
    rcases hx with rfl | rfl | rfl | rfl | rfl | rfl | rfl | rfl | rfl | rfl | rfl
    all_goals first | exact zero_I64 | exact at_I64 hA _
  · have h2 := ints_I64 2 s
    have h4 := ints_I64 4 (LB.ints 2 s).2
    by_cases h1 : k = 1
    · simp only [h1, Int.reduceEq, ite_true, ite_false]
      refine ⟨fun x hx => ?_, fun x hx => by simp [Rec.zero] at hx⟩
      simp [numL, Rec.zero] at hx
      rcases hx with rfl | rfl | rfl | rfl | rfl | rfl | rfl
      all_goals first | exact zero_I64 | exact at_I64 h2 _ | exact at_I64 h4 _
    · by_cases h2' : k = 2
      · simp only [h2', Int.reduceEq, ite_true, ite_false]
        refine ⟨fun x hx => ?_, fun x hx => by simp [Rec.zero] at hx⟩
        simp [numL, Rec.zero] at hx
        rcases hx with rfl | rfl | rfl | rfl | rfl | rfl | rfl | rfl
        all_goals first | exact zero_I64 | exact at_I64 h2 _ | exact at_I64 h4 _
      · by_cases h5 : k = 5
        · simp only [h5, Int.reduceEq, ite_true, ite_false]
          refine ⟨fun x hx => ?_, fun x hx => by simp [Rec.zero] at hx⟩
          simp [numL, Rec.zero] at hx
          rcases hx with rfl | rfl | rfl
          all_goals first | exact zero_I64 | exact at_I64 h2 _
        · simp only [h1, h2', h3, h5, ite_false]
          refine ⟨fun x hx => ?_, fun x hx => loop_I64 _ _ x hx⟩
          simp [numL, Rec.zero] at hx
          rcases hx with rfl | rfl | rfl | rfl | rfl | rfl | rfl
          all_goals first | exact zero_I64 | exact at_I64 h2 _ | exact at_I64 h4 _
theorem dec_I64 (ok : Rec → Bool) (b : Bs) : (∀ x ∈ numL (LB.dec ok b).1, LB.I64 x) ∧ ∀ x ∈ (LB.dec ok b).1.list, LB.I64 x := by
  have hz : (∀ x ∈ numL Rec.zero, LB.I64 x) ∧ ∀ x ∈ Rec.zero.list, LB.I64 x := by
    refine ⟨fun x hx => ?_, fun x hx => by simp [Rec.zero] at hx⟩
    simp [numL, Rec.zero] at hx
    rw [hx]; exact zero_I64
  unfold LB.dec
  match b with
  | [] => exact hz
  | k :: t =>
    simp only []
    split
    · exact hz
    · split
      · exact hz
      · split
        · exact hz
        · exact body_I64 _ _
/-- the record has its bytes, and the bytes their record -/
theorem law_one {b : Bs} (h : (LB.dec vaB b).2 = 0) : vaB (LB.dec vaB b).1 = true ∧ LB.enc (LB.dec vaB b).1 = b := ⟨(LB.dec_enc h).2, (LB.dec_enc h).1⟩
theorem law_two {r : Rec} (hv : vaB r = true) (hI : ∀ x ∈ numL r, LB.I64 x) (hIl : ∀ x ∈ r.list, LB.I64 x) : LB.dec vaB (LB.enc r) = (r, 0) := by
  have m : ∀ x, x ∈ numL r → LB.I64 x := hI
  refine LB.enc_dec (va_only hv) ⟨⟨m _ (by simp), m _ (by simp)⟩, ⟨m _ (by simp), m _ (by simp), m _ (by simp), m _ (by simp)⟩, ⟨m _ (by simp), m _ (by simp), m _ (by simp), m _ (by simp)⟩, fun x hx => m x ?_, hIl, ?_, ?_, ?_⟩ hv
  · simp [LB.sightL] at hx
    rcases hx with rfl | rfl | rfl | rfl | rfl | rfl | rfl | rfl | rfl | rfl <;> simp
  · have := va_body hv; omega
  · have := va_list hv; omega
  · have := va_text hv; omega
end Go.Proofs.YthfndnmfnijpeaaGreat
namespace Go.Proofs.YthfndnmfnijpeaaGreat
open Go.RowKit Go.Shelf
set_option maxRecDepth 100000 in
theorem ixPage (v : Value) (w : World) : Calls Tryz.prog 57 #[.slice none 0 0, v] w fun e w' => e = .returned (.int .i64 (-1)) ∧ w' = w := by
  go_enter Tryz.func57, Tryz.ntmps57
  go_wp2
  go_loopg [8] 0 (fun gz s8 wr => s8 = .int .i64 0 ∧ wr = w)
  case atStart => exact ⟨rfl, rfl⟩
  case round =>
    obtain ⟨rfl, rfl⟩ := hrel
    go_wp2
    go_ret
    exact ⟨rfl, rfl⟩
set_option maxRecDepth 100000 in
theorem ixStar (v : Value) (w : World) : Calls Tryz.prog 69 #[.slice none 0 0, v] w fun e w' => e = .returned (.int .i64 (-1)) ∧ w' = w := by
  go_enter Tryz.func69, Tryz.ntmps69
  go_wp2
  go_loopg [8] 0 (fun gz s8 wr => s8 = .int .i64 0 ∧ wr = w)
  case atStart => exact ⟨rfl, rfl⟩
  case round =>
    obtain ⟨rfl, rfl⟩ := hrel
    go_wp2
    go_ret
    exact ⟨rfl, rfl⟩
set_option maxRecDepth 100000 in
theorem catValid (w : World) : Calls Tryz.prog 30 #[.slice none 0 0] w fun e w' => e = .returned (.bool true) ∧ w' = w := by
  go_enter Tryz.func30, Tryz.ntmps30
  go_wp2
  go_loopg [10] 0 (fun gz s10 wr => s10 = .int .i64 0 ∧ wr = w)
  case atStart => exact ⟨rfl, rfl⟩
  case round =>
    obtain ⟨rfl, rfl⟩ := hrel
    go_wp2
    go_ret
    exact ⟨rfl, rfl⟩
theorem coPage (v : Value) (w : World) : Calls Tryz.prog 27 #[.slice none 0 0, v] w fun e w' => e = .returned (.bool false) ∧ w' = w := by
  have K := Lib.hid (ixPage v w)
  go_enter Tryz.func27, Tryz.ntmps27
  go_wp2_with (go_at_call 57; (with_reducible refine (K.out).mono ?_); rintro e w1 ⟨rfl, rfl⟩)
  go_ret
  exact ⟨rfl, rfl⟩
theorem coStar (v : Value) (w : World) : Calls Tryz.prog 36 #[.slice none 0 0, v] w fun e w' => e = .returned (.bool false) ∧ w' = w := by
  have K := Lib.hid (ixStar v w)
  go_enter Tryz.func36, Tryz.ntmps36
  go_wp2_with (go_at_call 69; (with_reducible refine (K.out).mono ?_); rintro e w1 ⟨rfl, rfl⟩)
  go_ret
  exact ⟨rfl, rfl⟩
set_option maxRecDepth 100000 in
theorem clPage (w : World) : Calls Tryz.prog 61 #[.slice none 0 0] w fun e w' => e = .returned (.slice none 0 0) ∧ w' = w := by
  have hq : ∀ (W : World) (c : Nat), (binOp .eql 74 (.slice none 0 c) (.slice none 0 0)).run Tryz.prog W = .ok (.bool true) W := fun W c => Go.Lib.run_eql_slice_nil W 74 81 none 0 c 0 0 Tryz.underlying74
  go_enter Tryz.func61, Tryz.ntmps61
  go_wp2
  go_ret
  exact ⟨rfl, rfl⟩
set_option maxRecDepth 100000 in
theorem clStar (w : World) : Calls Tryz.prog 32 #[.slice none 0 0] w fun e w' => e = .returned (.slice none 0 0) ∧ w' = w := by
  have hq : ∀ (W : World) (c : Nat), (binOp .eql 75 (.slice none 0 c) (.slice none 0 0)).run Tryz.prog W = .ok (.bool true) W := fun W c => Go.Lib.run_eql_slice_nil W 75 87 none 0 c 0 0 Tryz.underlying75
  go_enter Tryz.func32, Tryz.ntmps32
  go_wp2
  go_ret
  exact ⟨rfl, rfl⟩
set_option maxRecDepth 100000 in
theorem clError (w : World) : Calls Tryz.prog 39 #[.slice none 0 0] w fun e w' => e = .returned (.slice none 0 0) ∧ w' = w := by
  have hq : ∀ (W : World) (c : Nat), (binOp .eql 51 (.slice none 0 c) (.slice none 0 0)).run Tryz.prog W = .ok (.bool true) W := fun W c => Go.Lib.run_eql_slice_nil W 51 100 none 0 c 0 0 Tryz.underlying51
  go_enter Tryz.func39, Tryz.ntmps39
  go_wp2
  go_ret
  exact ⟨rfl, rfl⟩
set_option maxRecDepth 100000 in
theorem copNil (w : World) : Calls Tryz.prog 31 #[.slice none 0 0] w fun e w' => e = .returned (.slice none 0 0) ∧ w' = w := by
  have K := Lib.hid (clPage w)
  go_enter Tryz.func31, Tryz.ntmps31
  go_wp2_with (go_at_call 61; (with_reducible refine (K.out).mono ?_); rintro e w1 ⟨rfl, rfl⟩)
  go_loopg [11] 0 (fun gz s11 wr => s11 = .int .i64 0 ∧ wr = w1)
  case atStart => exact ⟨rfl, rfl⟩
  case round =>
    obtain ⟨rfl, rfl⟩ := hrel
    go_wp2
    go_ret
    exact ⟨rfl, rfl⟩
theorem sortNone (w : World) : Calls Tryz.prog 66 #[.slice none 0 0] w fun e w' => e = .returned (.tuple #[]) ∧ w' = w := Any.slices_Sort_string_none Tryz.lays190 none 0 w
theorem compactNone (w : World) : Calls Tryz.prog 67 #[.slice none 0 0] w fun e w' => e = .returned (.slice none 0 0) ∧ w' = w := Any.slices_Compact_string_empty Tryz.lays194 none 0 w
theorem containsNone (x : ByteArray) (w : World) : Calls Tryz.prog 35 #[.slice none 0 0, .string x] w fun e w' => e = .returned (.bool false) ∧ w' = w := Any.slices_Contains_string_empty Tryz.lays110 none 0 x w
set_option maxRecDepth 100000 in
theorem tracked_none (g : Nat) (d s : Value) (w : World) (hG : Blk w g 89 #[d, .slice none 0 0, s]) : Calls Tryz.prog 34 #[.pointer (some ⟨g, 0, none⟩)] w fun e w' => e = .returned (.slice none 0 0) ∧ w' = w := by
  have KS := Lib.hid sortNone
  have KC := Lib.hid compactNone
  have y1 : w.cell? ⟨g, 1, none⟩ = some (.slice none 0 0) := hG.cell 1
  clear hG
  go_enter Tryz.func34, Tryz.ntmps34
  go_wp2
  go_loopg [3, 13] 0 (fun gz s3 s13 wr => s3 = .slice none 0 0 ∧ s13 = .int .i64 0 ∧ wr = w)
  case atStart => exact ⟨rfl, rfl, rfl⟩
  case round =>
    obtain ⟨rfl, rfl, rfl⟩ := hrel
    go_wp2_with (first | (go_at_call 66; (with_reducible refine (KS.out _).mono ?_); rintro e w1 ⟨rfl, rfl⟩) | (go_at_call 67; (with_reducible refine (KC.out _).mono ?_); rintro e w2 ⟨rfl, rfl⟩))
    go_ret
    exact ⟨rfl, rfl⟩
set_option maxHeartbeats 1000000 in
set_option maxRecDepth 100000 in
theorem newNil (w : World) : Calls Tryz.prog 11 #[.slice none 0 0, .slice none 0 0] w fun e w' => ∃ g, e = .returned (.tuple #[.pointer (some ⟨g, 0, none⟩), .int .i64 0]) ∧ Blk w' g 89 #[.slice none 0 0, .slice none 0 0, .slice none 0 0] ∧ Below w.heap.size w w' := by
  have K1 := Lib.hid coPage
  have K2 := Lib.hid catValid
  have K3 := Lib.hid copNil
  have K4 := Lib.hid clStar
  have K5 := Lib.hid tracked_none
  have K6 := Lib.hid containsNone
  have K7 := Lib.hid coStar
  go_enter Tryz.func11, Tryz.ntmps11
  go_wp2_with (first | (go_at_call 27; (with_reducible refine (K1.out _ _).mono ?_); rintro e w1 ⟨rfl, rfl⟩) | (go_at_call 30; (with_reducible refine (K2.out _).mono ?_); rintro e w1 ⟨rfl, rfl⟩) | (go_at_call 31; (with_reducible refine (K3.out _).mono ?_); rintro e w1 ⟨rfl, rfl⟩) | (go_at_call 32; (with_reducible refine (K4.out _).mono ?_); rintro e w1 ⟨rfl, rfl⟩))
  have G0 := Lib.hid (Blk.new w1 89 #[.slice none 0 0, .slice none 0 0, .slice none 0 0])
  have B0 := Lib.hid (bl_alloc w1 (.cells #[.slice none 0 0, .slice none 0 0, .slice none 0 0] 89))
  generalize w1.alloc (.cells #[.slice none 0 0, .slice none 0 0, .slice none 0 0] 89) = wa at G0 B0 ⊢
  go_loopg [30] 0 (fun gz s30 wr => s30 = .int .i64 0 ∧ wr = wa)
  case atStart => exact ⟨rfl, rfl⟩
  case round =>
    obtain ⟨rfl, rfl⟩ := hrel
    have K5' := Lib.hid (K5.out _ _ _ _ G0.out)
    go_wp2_with (first | (go_at_call 34; (with_reducible refine (K5'.out).mono ?_); rintro e w2 ⟨rfl, rfl⟩) | (go_at_call 35; (with_reducible refine (K6.out _ _).mono ?_); rintro e w3 ⟨rfl, rfl⟩) | (go_at_call 36; (with_reducible refine (K7.out _ _).mono ?_); rintro e w4 ⟨rfl, rfl⟩))
    go_ret2
    exact ⟨_, rfl, G0.out.alloc _, B0.out.alloc B0.out.size _⟩
theorem withinZ (x : Int) (w : World) (hx : 0 ≤ x) (h2 : x ≤ 1000000) : Calls Tryz.prog 70 #[.int .i64 0, .int .i64 x] w fun e w' => e = .returned (.bool true) ∧ w' = w := by
  have e1 : wrap64 (-x) = -x := IntWalk.wrap64_in _ (by omega)
  have d1 : decide (-x ≤ 0) = true := decide_eq_true (by omega)
  have d2 : decide (0 ≤ x) = true := decide_eq_true hx
  go_enter Tryz.func70, Tryz.ntmps70
  go_wp2
  all_goals
    go_ret
    exact ⟨congrArg _ (congrArg _ (by first | rfl | (simp; omega) | (exact decide_eq_true (by omega)))), rfl⟩
set_option maxHeartbeats 1000000 in
set_option maxRecDepth 100000 in
theorem instZ (w : World) : Calls Tryz.prog 38 #[.agg #[.int .i64 0, .slice none 0 0]] w fun e w' => e = .returned (.bool true) ∧ Below w.heap.size w w' := by
  have K := Lib.hid (fun W => withinZ 60000 W (by omega) (by omega))
  go_enter Tryz.func38, Tryz.ntmps38
  go_wp2_with (go_at_call 70; (with_reducible refine (K.out _).mono ?_); rintro e w1 ⟨rfl, rfl⟩)
  have B0 := Lib.hid (bl_alloc w (.cells #[.int .i64 0, .slice none 0 0] 53))
  generalize w.alloc (.cells #[.int .i64 0, .slice none 0 0] 53) = wa at B0 ⊢
  go_loopg [19] 0 (fun gz s19 wr => s19 = .int .i64 0 ∧ wr = wa)
  case atStart => exact ⟨rfl, rfl⟩
  case round =>
    obtain ⟨rfl, rfl⟩ := hrel
    go_wp2
    go_ret
    exact ⟨rfl, B0.out⟩
set_option maxHeartbeats 1000000 in
set_option maxRecDepth 100000 in
theorem logNew (g : Nat) (w : World) : Calls Tryz.prog 12 #[.pointer (some ⟨g, 0, none⟩), .agg #[.int .i64 0, .slice none 0 0]] w fun e w' => ∃ l, w.heap.size ≤ l ∧ e = .returned (.tuple #[.pointer (some ⟨l, 0, none⟩), .int .i64 0]) ∧ Blk w' l 102 #[.pointer (some ⟨g, 0, none⟩), .int .i64 0, .slice none 0 0, .slice none 0 0] ∧ Below w.heap.size w w' := by
  have K1 := Lib.hid instZ
  have K2 := Lib.hid clError
  go_enter Tryz.func12, Tryz.ntmps12
  go_wp2_with (first | (go_at_call 38; (with_reducible refine (K1.out _).mono ?_); rintro e w1 ⟨rfl, hb⟩; have hz := one_lt hb; have hb1 := one_bl hb; have y0 := (hb.cell (p := ⟨w.heap.size, 0, none⟩) (by simp)).trans (show _ = some (.int .i64 0) by simp); have y1 := (hb.cell (p := ⟨w.heap.size, 1, none⟩) (by simp)).trans (show _ = some (.slice none 0 0) by simp); have f1 := (hb.frozen (p := ⟨w.heap.size, 1, none⟩) (by simp)).trans (show _ = false by simp); clear hb) | (go_at_call 39; (with_reducible refine (K2.out _).mono ?_); rintro e w2 ⟨rfl, rfl⟩))
  go_ret2
  refine ⟨w2.heap.size, hb1.size, rfl, ?_, (hb1.setCell (p := ⟨w.heap.size, 1, none⟩) (Nat.le_refl _) _).alloc (by have := hb1.size; simpa using this) _⟩
  have := Blk.new (w2.setCell ⟨w.heap.size, 1, none⟩ (.slice none 0 0)) 102 #[.pointer (some ⟨g, 0, none⟩), .int .i64 0, .slice none 0 0, .slice none 0 0]
  simpa using this
end Go.Proofs.YthfndnmfnijpeaaGreat
namespace Go.Proofs.YthfndnmfnijpeaaGreat
open Go.RowKit
open LB (Bs Rec St)
theorem or_shl (x c : Int) (h0 : -9223372036854775808 ≤ x) (h1 : x < 9223372036854775808) (hx : x % 256 = 0) (c0 : 0 ≤ c) (c1 : c < 256) : bits .or .i64 x c = x + c := by
  unfold bits
  simp only [BitVec.toNat_or, BitVec.toNat_ofInt]
  have hb : IntKind.i64.bits = 64 := rfl
  rw [hb]
  obtain ⟨q, hq⟩ : ∃ q : Nat, (x % 2 ^ 64).toNat = q * 256 := ⟨(x % 2 ^ 64).toNat / 256, by omega⟩
  have hc : (c % 2 ^ 64).toNat = c.toNat := by omega
  have e := Nat.shiftLeft_add_eq_or_of_lt (i := 8) (b := c.toNat) (by omega) q
  rw [Nat.shiftLeft_eq] at e
  have e2 : (x % ((2 ^ 64 : Nat) : Int)).toNat ||| (c % ((2 ^ 64 : Nat) : Int)).toNat = q * 256 + c.toNat := by
    have h1 : (x % ((2 ^ 64 : Nat) : Int)).toNat = q * 2 ^ 8 := by rw [show ((2 ^ 64 : Nat) : Int) = 2 ^ 64 from rfl, hq]
    have h2 : (c % ((2 ^ 64 : Nat) : Int)).toNat = c.toNat := by rw [show ((2 ^ 64 : Nat) : Int) = 2 ^ 64 from rfl, hc]
    rw [h1, h2, ← e]
  rw [e2, IntKind.wrap_i64]
  omega
/-- all but one block stays -/
structure Keeps (g : Nat) (w w' : World) : Prop where
  os : w'.os = w.os
  tape : w'.tape = w.tape
  output : w'.output = w.output
  size : w.heap.size ≤ w'.heap.size
  block : ∀ k, k ≠ g → k < w.heap.size → w'.heap[k]? = w.heap[k]?
theorem Keeps.trans {g : Nat} {a b c : World} (h : Keeps g a b) (k : Keeps g b c) : Keeps g a c := ⟨k.os.trans h.os, k.tape.trans h.tape, k.output.trans h.output, Nat.le_trans h.size k.size, fun i hi hl => (k.block i hi (Nat.lt_of_lt_of_le hl h.size)).trans (h.block i hi hl)⟩
theorem Keeps.below {g B : Nat} {a b : World} (h : Keeps g a b) (hB : B ≤ g) (hs : B ≤ a.heap.size) : Below B a b := ⟨h.os, h.tape, h.output, h.size, fun k hk => h.block k (by omega) (by omega)⟩
theorem Keeps.of_below {g : Nat} {a b : World} (h : Below a.heap.size a b) : Keeps g a b := ⟨h.os, h.tape, h.output, h.size, fun k _ hk => h.block k hk⟩
theorem Keeps.drew (g : Nat) (w : World) : Keeps g w w.drew := ⟨rfl, rfl, rfl, Nat.le_refl _, fun _ _ _ => rfl⟩
theorem Keeps.set_ (g i : Nat) (w : World) (v : Value) : Keeps g w (w.setCell ⟨g, i, none⟩ v) := by
  have h := (Below.refl g w).setCell (p := ⟨g, i, none⟩) (Nat.le_refl _) v
  exact ⟨h.os, h.tape, h.output, h.size, fun k hk _ => Below.heap_setCell w ⟨g, i, none⟩ v k hk⟩
theorem Blk.keeps {g b : Nat} {t : TypeId} {cs : Array Value} {w w' : World} (h : Blk w b t cs) (k : Keeps g w w') (hb : b ≠ g) : Blk w' b t cs := (k.block b hb h.lt).trans h
/-- bytes in a slice below B -/
def BytesAt (w : World) (B : Nat) (A : Option Addr) (l : Bs) : Prop := l = [] ∨ ∃ b off, A = some ⟨b, off, none⟩ ∧ b < B ∧ ∀ (j : Nat) (x : UInt8), l[j]? = some x → w.cell? ⟨b, off + j, none⟩ = some (.int .u8 (x.toNat : Int))
theorem BytesAt.bl {w w' : World} {B : Nat} {A : Option Addr} {l : Bs} (h : BytesAt w B A l) (hb : Below B w w') : BytesAt w' B A l := by
  rcases h with h | ⟨b, off, e, hlt, hc⟩
  · exact .inl h
  · exact .inr ⟨b, off, e, hlt, fun j x hx => (hb.cell (p := ⟨b, off + j, none⟩) hlt).trans (hc j x hx)⟩
theorem BytesAt.take {w : World} {B : Nat} {A : Option Addr} {l : Bs} (h : BytesAt w B A l) (k : Nat) : BytesAt w B A (l.take k) := by
  rcases h with h | ⟨b, off, e, hlt, hc⟩
  · exact .inl (by rw [h]; simp)
  · refine .inr ⟨b, off, e, hlt, fun j x hx => hc j x ?_⟩
    by_cases hj : j < k
    · rwa [List.getElem?_take_of_lt hj] at hx
    · rw [List.getElem?_eq_none (by simp; omega)] at hx; cases hx
theorem BytesAt.drop {w : World} {B b off : Nat} {l : Bs} (h : BytesAt w B (some ⟨b, off, none⟩) l) (k : Nat) : BytesAt w B (some ⟨b, off + k, none⟩) (l.drop k) := by
  rcases h with h | ⟨b', off', e, hlt, hc⟩
  · exact .inl (by rw [h]; simp)
  · injection e with e
    injection e with e1 e2
    subst e1 e2
    refine .inr ⟨b, off + k, rfl, hlt, fun j x hx => ?_⟩
    rw [List.getElem?_drop] at hx
    rw [show off + k + j = off + (k + j) by omega]
    exact hc _ x hx
theorem BytesAt.two {w : World} {B : Nat} {A : Option Addr} {a b : UInt8} (h : BytesAt w B A [a, b]) : ∃ q off, A = some ⟨q, off, none⟩ ∧ w.cell? ⟨q, off, none⟩ = some (.int .u8 (a.toNat : Int)) ∧ w.cell? ⟨q, off + 1, none⟩ = some (.int .u8 (b.toNat : Int)) := by
  rcases h with h | ⟨q, off, e, hlt, hc⟩
  · cases h
  · exact ⟨q, off, e, hc 0 a rfl, hc 1 b rfl⟩
/-- the reader in block g -/
def Rd (w : World) (B g : Nat) (s : St) : Prop := ∃ A n c, Blk w g 61 #[.slice A n c, .bool s.2] ∧ BytesAt w B A s.1 ∧ s.1.length = n ∧ n ≤ c ∧ c ≤ maxLen ∧ B ≤ g
theorem Rd.keeps {w w' : World} {B g q : Nat} {s : St} (h : Rd w B g s) (k : Keeps q w w') (hg : g ≠ q) (hB : B ≤ q) : Rd w' B g s := by
  obtain ⟨A, n, c, h1, h2, h3, h4, h5, h6⟩ := h
  exact ⟨A, n, c, h1.keeps k hg, h2.bl (k.below hB (Nat.le_trans h6 (Nat.le_of_lt h1.lt))), h3, h4, h5, h6⟩
theorem BytesAt.dropMap {w : World} {B : Nat} {A : Option Addr} {l : Bs} (h : BytesAt w B A l) (k : Nat) : BytesAt w B (A.map fun x => x.add k) (l.drop k) := by
  rcases h with h | ⟨b, off, e, hlt, hc⟩
  · exact .inl (by rw [h]; simp)
  · subst e
    have := BytesAt.drop (w := w) (B := B) (b := b) (off := off) (l := l) (.inr ⟨b, off, rfl, hlt, hc⟩) k
    simpa [Go.WideShapes.add_plain] using this
set_option maxHeartbeats 4000000 in
set_option maxRecDepth 100000 in
theorem take_any (B g k : Nat) (s : St) (w : World) (h : Rd w B g s) (hk : k ≤ 100000) :
    Calls Tryz.prog 46 #[.pointer (some ⟨g, 0, none⟩), .int .i64 k] w fun e w' => (∃ A n c, e = .returned (.slice A n c) ∧ BytesAt w' B A (LB.take k s).1 ∧ (LB.take k s).1.length = n ∧ n ≤ c ∧ c ≤ maxLen) ∧ Rd w' B g (LB.take k s).2 ∧ Keeps g w w' := by
  obtain ⟨A, n, c, hG, hA, hn, hc, hcm, hgB⟩ := h
  obtain ⟨l, wr⟩ := s
  simp only [] at hG hA hn
  have y0 : w.cell? ⟨g, 0, none⟩ = some (.slice A n c) := hG.cell 0
  have y1 : w.cell? ⟨g, 1, none⟩ = some (.bool wr) := hG.cell 1
  have z0 := hG.frozen 0
  have z1 := hG.frozen 1
  have HG := Lib.hid hG
  have HA := Lib.hid hA
  have HN := Lib.hid hn
  clear hG hA hn
  cases wr with
  | true =>
    have e : LB.take k (l, true) = ([], (l, true)) := by unfold LB.take; rw [if_pos (.inl rfl)]
    rw [e]
    clear e
    go_enter Tryz.func46, Tryz.ntmps46
    go_wp2
    go_ret
    exact ⟨⟨none, 0, 0, rfl, .inl rfl, rfl, Nat.le_refl _, by simp [maxLen]⟩, ⟨A, n, c, by simpa using HG.out.set_ 1 (.bool true), HA.out.bl ((Keeps.set_ g 1 w _).below hgB (by have := HG.out.lt; omega)), HN.out, hc, hcm, hgB⟩, Keeps.set_ g 1 w _⟩
  | false =>
    by_cases hlt : n < k
    · have d0 : decide ((n : Int) < (k : Int)) = true := decide_eq_true (by omega)
      have e : LB.take k (l, false) = ([], (l, true)) := by unfold LB.take; rw [if_pos (.inr (by rw [HN.out]; exact hlt))]
      rw [e]
      clear e
      go_enter Tryz.func46, Tryz.ntmps46
      go_wp2
      go_ret
      exact ⟨⟨none, 0, 0, rfl, .inl rfl, rfl, Nat.le_refl _, by simp [maxLen]⟩, ⟨A, n, c, by simpa using HG.out.set_ 1 (.bool true), HA.out.bl ((Keeps.set_ g 1 w _).below hgB (by have := HG.out.lt; omega)), HN.out, hc, hcm, hgB⟩, Keeps.set_ g 1 w _⟩
    · have d0 : decide ((n : Int) < (k : Int)) = false := decide_eq_false (by omega)
      have e : LB.take k (l, false) = (l.take k, (l.drop k, false)) := by unfold LB.take; rw [if_neg (by simp; rw [HN.out]; omega)]
      rw [e]
      clear e
      have hkn : k ≤ n := by omega
      have hkc : k ≤ c := by omega
      clear hlt
      have hlen : (l.take k).length = k := by rw [List.length_take, HN.out]; omega
      by_cases hck : c = k
      · subst hck
        obtain rfl : n = c := by omega
        have hd : l.drop n = [] := List.drop_eq_nil_of_le (by rw [HN.out]; exact Nat.le_refl _)
        go_enter Tryz.func46, Tryz.ntmps46
        go_wp2
        go_ret
        exact ⟨⟨A, n, n, rfl, (HA.out.take n).bl ((Keeps.set_ g 0 w _).below hgB (by have := HG.out.lt; omega)), hlen, Nat.le_refl _, hcm⟩, ⟨A, 0, 0, by simpa using HG.out.set_ 0 (.slice A 0 0), .inl hd, by simp [HN.out], Nat.le_refl _, by simp [maxLen], hgB⟩, Keeps.set_ g 0 w _⟩
      · go_enter Tryz.func46, Tryz.ntmps46
        go_wp2
        go_ret
        exact ⟨⟨A, k, c, rfl, (HA.out.take k).bl ((Keeps.set_ g 0 w _).below hgB (by have := HG.out.lt; omega)), hlen, hkc, hcm⟩, ⟨_, n - k, c - k, by simpa using HG.out.set_ 0 (.slice (A.map fun x => x.add k) (n - k) (c - k)), (HA.out.dropMap k).bl ((Keeps.set_ g 0 w _).below hgB (by have := HG.out.lt; omega)), by simp [HN.out], by omega, by omega, hgB⟩, Keeps.set_ g 0 w _⟩
theorem take_wrong {k : Nat} {s : St} (h : (LB.take k s).2.2 = true) : (LB.take k s).1 = [] := by
  unfold LB.take at h ⊢
  split
  · rfl
  · rename_i hc
    rw [if_neg hc] at h
    exact absurd (.inl h) hc
set_option maxHeartbeats 4000000 in
set_option maxRecDepth 100000 in
theorem size_any (B g : Nat) (s : St) (w : World) (h : Rd w B g s) :
    Calls Tryz.prog 18 #[.pointer (some ⟨g, 0, none⟩)] w fun e w' => e = .returned (.int .i64 ((LB.size s).1 : Int)) ∧ Rd w' B g (LB.size s).2 ∧ Keeps g w w' := by
  have KT0 := take_any B g 2 s w h (by omega)
  rw [show (((2 : Nat) : Int)) = 2 from rfl] at KT0
  have hw := take_wrong (k := 2) (s := s)
  have hl := fun q => (LB.take_ok (n := 2) (s := s) q).2.2
  have hs : LB.size s = match LB.take 2 s with | ([a, b], s') => (a.toNat * 256 + b.toNat, s') | (_, s') => (0, s') := rfl
  rw [hs]
  clear hs h
  obtain ⟨⟨l, r, wr⟩, hp⟩ : ∃ p, LB.take 2 s = p := ⟨_, rfl⟩
  rw [hp] at KT0 hw hl ⊢
  simp only [] at KT0 hw hl
  have KT := Lib.hid KT0
  clear KT0 hp
  cases wr with
  | true =>
    obtain rfl := hw rfl
    clear hw hl
    simp only []
    go_enter Tryz.func18, Tryz.ntmps18
    go_wp2_with (go_at_call 46; (with_reducible refine (KT.out).mono ?_); rintro e w1 ⟨⟨A, n, c, rfl, hA, hn, hc, hcm⟩, hR, hK⟩; have y1 : w1.cell? ⟨g, 1, none⟩ = some (.bool true) := hR.choose_spec.choose_spec.choose_spec.1.cell 1)
    go_ret
    exact ⟨rfl, hR, hK⟩
  | false =>
    have hl2 := hl rfl
    match l, hl2 with
    | [a, b], _ =>
      clear hw hl hl2
      simp only []
      have e3 := Lib.hid (show bits .or .i64 (wrap64 (wrap64 (a.toNat : Int) * 256)) (wrap64 (b.toNat : Int)) = ((a.toNat * 256 + b.toNat : Nat) : Int) by
        have ha := a.toNat_lt
        have hb := b.toNat_lt
        rw [IntWalk.wrap64_in (a.toNat : Int) (by omega), IntWalk.wrap64_in (b.toNat : Int) (by omega), IntWalk.wrap64_in _ (by omega), or_shl _ _ (by omega) (by omega) (by omega) (by omega) (by omega)]
        omega)
      go_enter Tryz.func18, Tryz.ntmps18
      go_wp2_with fail
      (with_reducible refine (KT.out).mono ?_)
      rintro e w1 ⟨⟨A, n, c, rfl, hA, hn, hc, hcm⟩, hR, hK⟩
      have y1 : w1.cell? ⟨g, 1, none⟩ = some (.bool false) := hR.choose_spec.choose_spec.choose_spec.1.cell 1
      obtain ⟨b0, off, rfl, x0, x1⟩ := hA.two
      have hn2 : 2 = n := hn
      subst hn2
      clear hn
      go_wp2
      go_region
      go_wp2
      go_ret
      exact ⟨congrArg _ (congrArg _ e3.out), by
        obtain ⟨A', n', c', q1, q2, q3, q4, q5, q6⟩ := hR
        exact ⟨A', n', c', q1.drew, q2.bl (bl_drew (Below.refl _ _)), q3, q4, q5, q6⟩, hK.trans (Keeps.drew _ _)⟩
theorem strOf (l : Bs) : strOfNums (l.map fun c => (c.toNat : Int)) = ⟨l.toArray⟩ := by
  unfold strOfNums
  congr 2
  rw [List.map_map]
  refine (List.map_congr_left fun c _ => ?_).trans (List.map_id l)
  show UInt8.ofNat ((c.toNat : Int)).toNat = id c
  simp
theorem conv_bytes {w : World} {B n : Nat} {A : Option Addr} {l : Bs} (h : BytesAt w B A l) (hn : l.length = n) (c : Nat) : (convert 34 9 (.slice A n c)).run Tryz.prog w = .ok (txb l) w := by
  rcases h with h | ⟨b, off, e, hlt, hc⟩
  · subst h
    obtain rfl : n = 0 := by simpa using hn.symm
    have := run_convert_bytes_zero (P := Tryz.prog) w 34 5 Tryz.underlying34 Tryz.underlying5 A c 9 Tryz.underlying9
    rw [this]; rfl
  · subst e
    have := run_convert_bytes_arg (P := Tryz.prog) w 34 5 Tryz.underlying34 Tryz.underlying5 b off n c (l.map fun c => (c.toNat : Int)) (by simpa using hn) (fun i hi => by
      have hi' : i < l.length := by omega
      rw [hc i l[i] (List.getElem?_eq_getElem hi')]
      simp [List.getD_eq_getElem?_getD, List.getElem?_eq_getElem hi']) 9 Tryz.underlying9
    rw [this, strOf]
theorem size_lt (s : St) : (LB.size s).1 ≤ 65535 := by
  unfold LB.size
  split
  · rename_i a b _ _
    have := a.toNat_lt
    have := b.toNat_lt
    simp only []; omega
  · simp
set_option maxHeartbeats 4000000 in
set_option maxRecDepth 100000 in
theorem rstr_any (B g : Nat) (s : St) (w : World) (h : Rd w B g s) :
    Calls Tryz.prog 16 #[.pointer (some ⟨g, 0, none⟩)] w fun e w' => e = .returned (txb (LB.text s).1) ∧ Rd w' B g (LB.text s).2 ∧ Keeps g w w' := by
  have KS := Lib.hid (size_any B g s w h)
  have hk := size_lt s
  have KT := Lib.hid (fun (W : World) (hR : Rd W B g (LB.size s).2) => take_any B g (LB.size s).1 (LB.size s).2 W hR (by omega))
  have ht : LB.text s = LB.take (LB.size s).1 (LB.size s).2 := rfl
  rw [ht]
  clear ht h hk
  generalize LB.take (LB.size s).1 (LB.size s).2 = p at KT ⊢
  generalize LB.size s = q at KS KT
  go_enter Tryz.func16, Tryz.ntmps16
  go_wp2_with fail
  (with_reducible refine (KS.out).mono ?_)
  rintro e w1 ⟨rfl, hR1, hK1⟩
  have KT1 := Lib.hid (KT.out w1 hR1)
  clear KT KS hR1
  go_wp2_with fail
  (with_reducible refine (KT1.out).mono ?_)
  rintro e w2 ⟨⟨A, n, c, rfl, hA, hn, hc, hcm⟩, hR, hK⟩
  have hcv := conv_bytes hA hn c
  clear KT1 hA hn
  go_wp2
  go_ret
  exact ⟨rfl, hR, hK1.trans hK⟩
end Go.Proofs.YthfndnmfnijpeaaGreat
namespace Go.Proofs.YthfndnmfnijpeaaGreat
open Go.RowKit
open LB (Bs Rec St)
/-- all but two blocks stay -/
structure Keeps2 (g q : Nat) (w w' : World) : Prop where
  os : w'.os = w.os
  tape : w'.tape = w.tape
  output : w'.output = w.output
  size : w.heap.size ≤ w'.heap.size
  block : ∀ k, k ≠ g → k ≠ q → k < w.heap.size → w'.heap[k]? = w.heap[k]?
theorem Keeps2.refl (g q : Nat) (w : World) : Keeps2 g q w w := ⟨rfl, rfl, rfl, Nat.le_refl _, fun _ _ _ _ => rfl⟩
theorem Keeps2.trans {g q : Nat} {a b c : World} (h : Keeps2 g q a b) (k : Keeps2 g q b c) : Keeps2 g q a c := ⟨k.os.trans h.os, k.tape.trans h.tape, k.output.trans h.output, Nat.le_trans h.size k.size, fun i hi hj hl => (k.block i hi hj (Nat.lt_of_lt_of_le hl h.size)).trans (h.block i hi hj hl)⟩
theorem Keeps.two {g q : Nat} {a b : World} (h : Keeps g a b) : Keeps2 g q a b := ⟨h.os, h.tape, h.output, h.size, fun k hk _ hl => h.block k hk hl⟩
theorem Keeps.two' {g q : Nat} {a b : World} (h : Keeps q a b) : Keeps2 g q a b := ⟨h.os, h.tape, h.output, h.size, fun k _ hk hl => h.block k hk hl⟩
theorem Keeps2.below {g q B : Nat} {a b : World} (h : Keeps2 g q a b) (hB : B ≤ g) (hq : B ≤ q) (hs : B ≤ a.heap.size) : Below B a b := ⟨h.os, h.tape, h.output, h.size, fun k hk => h.block k (by omega) (by omega) (by omega)⟩
theorem Blk.keeps2 {g q b : Nat} {t : TypeId} {cs : Array Value} {w w' : World} (h : Blk w b t cs) (k : Keeps2 g q w w') (hb : b ≠ g) (hq : b ≠ q) : Blk w' b t cs := (k.block b hb hq h.lt).trans h
def setAll : Array Value → List Nat → List Int → Array Value
  | cs, o :: os, x :: xs => setAll (cs.setIfInBounds o (.int .i64 x)) os xs
  | cs, _, _ => cs
theorem setAll_size : ∀ (cs : Array Value) (os : List Nat) (xs : List Int), (setAll cs os xs).size = cs.size
  | cs, [], xs => by cases xs <;> rfl
  | cs, o :: os, [] => rfl
  | cs, o :: os, x :: xs => by rw [setAll, setAll_size]; simp
theorem setAll_snoc : ∀ (cs : Array Value) (os : List Nat) (xs : List Int) (o : Nat) (x : Int), os.length = xs.length → setAll cs (os ++ [o]) (xs ++ [x]) = (setAll cs os xs).setIfInBounds o (.int .i64 x)
  | cs, [], [], o, x, _ => rfl
  | cs, [], _ :: _, o, x, h => by simp at h
  | cs, _ :: _, [], o, x, h => by simp at h
  | cs, p :: os, y :: xs, o, x, h => by
    show setAll (cs.setIfInBounds p (.int .i64 y)) (os ++ [o]) (xs ++ [x]) = _
    rw [setAll_snoc _ os xs o x (by simpa using h)]
    rfl
theorem ints_snoc : ∀ (k : Nat) (s : St), LB.ints (k + 1) s = ((LB.ints k s).1 ++ [(LB.one (LB.ints k s).2).1], (LB.one (LB.ints k s).2).2)
  | 0, s => rfl
  | k + 1, s => by
    have h := ints_snoc k (LB.one s).2
    show ((LB.one s).1 :: (LB.ints (k + 1) (LB.one s).2).1, (LB.ints (k + 1) (LB.one s).2).2) = _
    rw [h]
    rfl
theorem wrap_w64 (n : Int) : wrap64 n = LB.w64 n := by
  unfold wrap64 LB.w64
  omega
theorem or_stp (n c : Int) (c0 : 0 ≤ c) (c1 : c < 256) : bits .or .i64 (wrap64 (n * 256)) (wrap64 c) = LB.stp n c := by
  rw [IntWalk.wrap64_in c (by omega)]
  have h : wrap64 (n * 256) = LB.w64 (n * 256) := wrap_w64 _
  rw [h]
  unfold LB.stp
  exact or_shl _ _ (by unfold LB.w64; omega) (by unfold LB.w64; omega) (by unfold LB.w64; omega) c0 c1
theorem un_take (l : Bs) {k : Nat} {x : UInt8} (hx : l[k]? = some x) : LB.un (l.take (k + 1)) = LB.stp (LB.un (l.take k)) (x.toNat : Int) := by
  obtain ⟨hk, rfl⟩ := List.getElem?_eq_some_iff.1 hx
  unfold LB.un
  rw [List.take_succ_eq_append_getElem hk, List.foldl_append]
  rfl
abbrev ptrs (X : Nat) (os : List Nat) : Array Value := (os.map fun o => Value.pointer (some ⟨X, o, none⟩)).toArray
set_option maxHeartbeats 8000000 in
set_option maxRecDepth 100000 in
theorem into_any (B g X Q c n : Nat) (s : St) (t tq : TypeId) (cs : Array Value) (os : List Nat) (w : World) (h : Rd w B g s) (hX : Blk w X t cs) (hXg : X ≠ g) (hXB : B ≤ X) (hQ : Blk w Q tq (ptrs X os)) (hQX : Q ≠ X) (hQg : Q ≠ g) (hos : ∀ o ∈ os, o < cs.size) (hn : os.length = n) (hn1 : n ≤ 1000) :
    Calls Tryz.prog 17 #[.pointer (some ⟨g, 0, none⟩), .slice (some ⟨Q, 0, none⟩) n c] w fun e' w' => e' = .returned (.tuple #[]) ∧ Rd w' B g (LB.ints n s).2 ∧ Blk w' X t (setAll cs os (LB.ints n s).1) ∧ Keeps2 g X w w' := by
  have hgB : B ≤ g := by obtain ⟨_, _, _, _, _, _, _, _, q⟩ := h; exact q
  have H := Lib.hid h
  have HX := Lib.hid hX
  have HQ := Lib.hid hQ
  have HO := Lib.hid hos
  have HN := Lib.hid hn
  have KT := Lib.hid (fun (W : World) (s' : St) (hR : Rd W B g s') => (show Calls Tryz.prog 46 #[.pointer (some ⟨g, 0, none⟩), .int .i64 8] W _ from take_any B g 8 s' W hR (by omega)))
  clear h hX hQ hos hn
  go_enter Tryz.func17, Tryz.ntmps17
  go_wp2
  go_loopg [5, 6, 8, 11, 16, 17, 18] n (fun gz _ _ _ s11 _ _ _ wr => ∃ k : Nat, k ≤ n ∧ n - k ≤ gz ∧ s11 = .int .i64 (k : Int) ∧ Rd wr B g (LB.ints k s).2 ∧ Blk wr X t (setAll cs (os.take k) (LB.ints k s).1) ∧ Keeps2 g X w wr)
  case atStart => exact ⟨0, Nat.zero_le _, by omega, rfl, H.out, by simpa [LB.ints, setAll] using HX.out, Keeps2.refl _ _ _⟩
  case round =>
    obtain ⟨k, hk, hg, rfl, hR, hB, hK⟩ := hrel
    have HR := Lib.hid hR
    have HB := Lib.hid hB
    have HK := Lib.hid hK
    clear hR hB hK
    by_cases hlt : k < n
    · obtain ⟨o, ho⟩ : ∃ o, os[k]? = some o := ⟨_, List.getElem?_eq_getElem (by rw [HN.out]; exact hlt)⟩
      have hQr := HQ.out.keeps2 HK.out hQg hQX
      have y0 : wr.cell? ⟨Q, k, none⟩ = some (.pointer (some ⟨X, o, none⟩)) := by rw [hQr.cell]; simp [ptrs, ho]
      have KT1 := Lib.hid (KT.out wr _ HR.out)
      have hoS := Lib.hid (HO.out o (List.mem_of_getElem? ho))
      have hTk := Lib.hid (show os.take (k + 1) = os.take k ++ [o] by
        obtain ⟨hk', rfl⟩ := List.getElem?_eq_some_iff.1 ho
        rw [List.take_succ_eq_append_getElem hk'])
      clear hQr ho
      go_wp2_with fail
      (with_reducible refine (KT1.out).mono ?_)
      rintro e w1 ⟨⟨A1, n1, c1, rfl, hA, hn1', hc1, hcm1⟩, hR1, hK1⟩
      have HA := Lib.hid hA
      have HR1 := Lib.hid hR1
      have HK1 := Lib.hid hK1
      have HN1 := Lib.hid hn1'
      clear hA hR1 hK1 hn1' KT1 y0
      obtain ⟨l8, hl8⟩ : ∃ l8, (LB.take 8 (LB.ints k s).2).1 = l8 := ⟨_, rfl⟩
      have HL8 := Lib.hid hl8
      rw [hl8] at HA HN1
      have hn8 : n1 ≤ 8 := by
        rw [← HN1.out, ← hl8]
        unfold LB.take
        split
        · simp
        · rw [List.length_take]; omega
      clear hl8
      go_wp2
      go_loopg [6, 8, 18] n1 (fun gz s6 _ s18 w2 => ∃ j : Nat, j ≤ n1 ∧ n1 - j ≤ gz ∧ s18 = .int .i64 (j : Int) ∧ s6 = .int .i64 (LB.un (l8.take j)) ∧ w2 = w1)
      case atStart => exact ⟨0, Nat.zero_le _, by omega, rfl, by simp [LB.un], rfl⟩
      case round =>
        obtain ⟨j, hj, hg2, rfl, rfl, rfl⟩ := hrel
        by_cases hlt2 : j < n1
        · obtain ⟨x, hx⟩ : ∃ x, l8[j]? = some x := ⟨_, List.getElem?_eq_getElem (by rw [HN1.out]; exact hlt2)⟩
          have hu := Lib.hid (un_take l8 hx)
          obtain ⟨q, off, rfl, x0⟩ : ∃ q off, A1 = some ⟨q, off, none⟩ ∧ wr.cell? ⟨q, off + j, none⟩ = some (.int .u8 (x.toNat : Int)) := by
            rcases HA.out with e | ⟨q, off, e, _, hc⟩
            · rw [e] at hx; simp at hx
            · exact ⟨q, off, e, hc j x hx⟩
          clear hx
          generalize LB.un (l8.take j) = N at hu ⊢
          have hor := Lib.hid (or_stp N (x.toNat : Int) (by omega) (by have := x.toNat_lt; omega))
          go_wp2
          go_roundg (n1 - (j + 1))
          case measure => omega
          case rel => exact ⟨j + 1, by omega, by omega, by go_num, congrArg _ (by rw [hu.out, ← hor.out]), rfl⟩
        · obtain rfl : j = n1 := by omega
          have hlk : l8.take j = l8 := List.take_of_length_le (by rw [HN1.out]; exact Nat.le_refl _)
          rw [hlk]
          clear hlk
          have hB1 := HB.out.keeps HK1.out hXg
          have hsz : o < (setAll cs (os.take k) (LB.ints k s).1).size := by rw [setAll_size]; exact hoS.out
          have x0 := hB1.cell o
          rw [Array.getElem?_eq_getElem hsz] at x0
          have z0 := hB1.frozen o
          have HB1 := Lib.hid hB1
          clear hB1
          obtain ⟨N, hN⟩ : ∃ N, LB.un l8 = N := ⟨_, rfl⟩
          rw [hN]
          have HNN := Lib.hid hN
          clear hN
          go_wp2
          go_roundg (n - (k + 1))
          case measure => omega
          case rel =>
            have hs1 := ints_snoc k s
            have ho1 : LB.one (LB.ints k s).2 = (N, (LB.take 8 (LB.ints k s).2).2) := by
              unfold LB.one
              rw [HL8.out, HNN.out]
            have hKX := Keeps.set_ X o wr (.int .i64 N)
            refine ⟨k + 1, by omega, by omega, by go_num, ?_, ?_, (HK.out.trans HK1.out.two).trans hKX.two'⟩
            · rw [hs1, ho1]
              exact HR1.out.keeps hKX (Ne.symm hXg) hXB
            · rw [hs1, ho1, hTk.out, setAll_snoc _ _ _ _ _ (by rw [LB.ints_length, List.length_take, HN.out]; omega)]
              exact HB1.out.set_ o _
    · obtain rfl : k = n := by omega
      have hB := HB.out
      rw [List.take_of_length_le (by rw [HN.out]; exact Nat.le_refl _)] at hB
      have HB2 := Lib.hid hB
      clear hB
      go_wp2
      exact bodyPost_end (results_none Tryz.results17 _ _ _) rfl ⟨rfl, HR.out, HB2.out, HK.out⟩
end Go.Proofs.YthfndnmfnijpeaaGreat
