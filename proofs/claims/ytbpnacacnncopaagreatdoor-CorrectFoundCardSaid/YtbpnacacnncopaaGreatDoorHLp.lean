/- Which names and sights are right: walks of decimal.IsName and correct.Valid. -/
import Derived.Test.YtbpnacacnncopaaGreatDoorHIh
set_option linter.unusedVariables false
set_option linter.unusedSimpArgs false
namespace Go.Proofs.YtbpnacacnncopaaGreatDoor
open Go.RowKit
open LB (Bs Rec)
theorem getBL {s : Bs} {k : Nat} {c : UInt8} (h : s[k]? = some c) : ∀ (hh : k < (⟨s.toArray⟩ : ByteArray).size), (⟨s.toArray⟩ : ByteArray)[k]'hh = c := by
  obtain ⟨hk, rfl⟩ := List.getElem?_eq_some_iff.1 h
  intro hh
  rfl
theorem txb_size (l : Bs) : (⟨l.toArray⟩ : ByteArray).size = l.length := by show l.toArray.size = _; simp
def leB (c : Int) : Bool := decide (97 ≤ c ∧ c ≤ 122 ∨ 65 ≤ c ∧ c ≤ 90)
theorem letter_any (c : Int) (w : World) : Calls Tryz.prog 83 #[.int .u8 c] w fun e w' => e = .returned (.bool (leB c)) ∧ w' = w := by
  unfold leB
  go_enter Tryz.func83, Tryz.ntmps83
  go_wp2
  all_goals
    go_ret
    exact ⟨ret_boo (by first | rfl | (simp_all; done) | (simp_all; omega)), rfl⟩
def diB (c : Int) : Bool := decide (48 ≤ c ∧ c ≤ 57)
theorem digit_any (c : Int) (w : World) : Calls Tryz.prog 121 #[.int .u8 c] w fun e w' => e = .returned (.bool (diB c)) ∧ w' = w := by
  unfold diB
  go_enter Tryz.func121, Tryz.ntmps121
  go_wp2
  all_goals
    go_ret
    exact ⟨ret_boo (by first | rfl | (simp_all; done) | (simp_all; omega)), rfl⟩
def woB (c : Int) : Bool := leB c || diB c || decide (c = 95)
theorem word_any (c : Int) (w : World) : Calls Tryz.prog 82 #[.int .u8 c] w fun e w' => e = .returned (.bool (woB c)) ∧ w' = w := by
  have KL := Lib.hid (fun W => letter_any c W)
  have KD := Lib.hid (fun W => digit_any c W)
  unfold woB
  generalize leB c = x at *
  generalize diB c = y at *
  cases x
  · cases y
    · go_enter Tryz.func82, Tryz.ntmps82
      go_wp2_with (first | (go_at_call 83; (with_reducible refine (KL.out _).mono ?_); rintro e w1 ⟨rfl, rfl⟩) | (go_at_call 121; (with_reducible refine (KD.out _).mono ?_); rintro e w1 ⟨rfl, rfl⟩))
      all_goals
        go_ret
        exact ⟨ret_boo (by first | rfl | (simp; done) | (simp_all; done)), rfl⟩
    · go_enter Tryz.func82, Tryz.ntmps82
      go_wp2_with (first | (go_at_call 83; (with_reducible refine (KL.out _).mono ?_); rintro e w1 ⟨rfl, rfl⟩) | (go_at_call 121; (with_reducible refine (KD.out _).mono ?_); rintro e w1 ⟨rfl, rfl⟩))
      all_goals
        go_ret
        exact ⟨rfl, rfl⟩
  · go_enter Tryz.func82, Tryz.ntmps82
    go_wp2_with (first | (go_at_call 83; (with_reducible refine (KL.out _).mono ?_); rintro e w1 ⟨rfl, rfl⟩) | (go_at_call 121; (with_reducible refine (KD.out _).mono ?_); rintro e w1 ⟨rfl, rfl⟩))
    all_goals
      go_ret
      exact ⟨rfl, rfl⟩
/-- whether all bytes of a text are those of words -/
def allW (s : Bs) : Bool := s.all fun c => woB (c.toNat : Int)
theorem allW_bad {s : Bs} {k : Nat} {c : UInt8} (h : s[k]? = some c) (hb : woB (c.toNat : Int) = false) : allW s = false := by
  unfold allW
  cases e : s.all fun c => woB (c.toNat : Int) with
  | false => rfl
  | true =>
    rw [List.all_eq_true] at e
    rw [e c (List.mem_of_getElem? h)] at hb
    cases hb
set_option maxHeartbeats 1000000 in
theorem allL2_any (s : Bs) (w : World) (hl : s.length ≤ 100000) : Calls Tryz.prog 81 #[txb s, .func (.func 82) #[] #[]] w fun e w' => e = .returned (.bool (allW s && decide (s ≠ []))) ∧ w' = w := by
  have hz := txb_size s
  have KW := Lib.hid word_any
  obtain ⟨n, hn⟩ : ∃ n, s.length = n := ⟨_, rfl⟩
  have HN := Lib.hid hn
  rw [hn] at hz hl
  clear hn
  go_enter Tryz.func81, Tryz.ntmps81
  go_wp2
  go_loopg [8] n (fun gz s8 wr => ∃ k : Nat, k ≤ n ∧ n - k ≤ gz ∧ s8 = .int .i64 (k : Int) ∧ (∀ j c, j < k → s[j]? = some c → woB (c.toNat : Int) = true) ∧ wr = w)
  case atStart => exact ⟨0, Nat.zero_le _, by omega, rfl, fun j c h => by omega, rfl⟩
  case round =>
    obtain ⟨k, hk, hg, rfl, hall, rfl⟩ := hrel
    have HA := Lib.hid hall
    clear hall
    by_cases hlt : k < n
    · obtain ⟨c, hc⟩ : ∃ c, s[k]? = some c := ⟨_, List.getElem?_eq_getElem (by rw [HN.out]; exact hlt)⟩
      have g0 := getBL hc
      have HC := Lib.hid hc
      clear hc
      have KC := Lib.hid (fun W => KW.out (c.toNat : Int) W)
      obtain ⟨b, hb⟩ : ∃ b, woB (c.toNat : Int) = b := ⟨_, rfl⟩
      rw [hb] at KC
      have HB := Lib.hid hb
      clear hb
      cases b
      · go_wp2_with (go_at_call 82; (with_reducible refine (KC.out _).mono ?_); rintro e w1 ⟨rfl, rfl⟩)
        go_ret
        exact ⟨ret_boo (by rw [allW_bad HC.out HB.out]; rfl), rfl⟩
      · go_wp2_with (go_at_call 82; (with_reducible refine (KC.out _).mono ?_); rintro e w1 ⟨rfl, rfl⟩)
        go_roundg (n - (k + 1))
        case measure => omega
        case rel =>
          refine ⟨k + 1, by omega, by omega, by go_num, fun j d hj hd => ?_, rfl⟩
          rcases Nat.lt_or_ge j k with h | h
          · exact HA.out j d h hd
          · obtain rfl : j = k := by omega
            obtain rfl : c = d := Option.some.inj (HC.out.symm.trans hd)
            exact HB.out
    · obtain rfl : k = n := by omega
      have hall : allW s = true := List.all_eq_true.2 fun c hc => by
        obtain ⟨j, hj⟩ := List.mem_iff_getElem?.1 hc
        exact HA.out j c (by have := (List.getElem?_eq_some_iff.1 hj).1; rw [HN.out] at this; exact this) hj
      have HL := Lib.hid hall
      clear hall
      cases s with
      | nil =>
        go_wp2
        go_ret
        exact ⟨ret_boo (by rw [HL.out]; simp), rfl⟩
      | cons c s =>
        go_wp2
        go_ret
        exact ⟨ret_boo (by rw [HL.out]; simp), rfl⟩
def naB (s : Bs) : Bool := decide (s.length ≤ 20) && (allW s && decide (s ≠ [])) && leB ((s.headD 0).toNat : Int)
set_option maxHeartbeats 1000000 in
theorem isName_any (s : Bs) (w : World) (hl : s.length ≤ 100000) : Calls Tryz.prog 39 #[txb s] w fun e w' => e = .returned (.bool (naB s)) ∧ w' = w := by
  have hz := txb_size s
  have KA := Lib.hid (fun W => allL2_any s W hl)
  unfold naB
  by_cases h : s.length ≤ 20
  · have d : decide ((s.length : Int) ≤ 20) = true := decide_eq_true (by omega)
    have d2 : decide (s.length ≤ 20) = true := decide_eq_true h
    rw [d2]
    cases s with
    | nil =>
      have e : (allW [] && decide (([] : Bs) ≠ [])) = false := by simp
      rw [e] at KA ⊢
      go_enter Tryz.func39, Tryz.ntmps39
      go_wp2_with (go_at_call 81; (with_reducible refine (KA.out _).mono ?_); rintro e w1 ⟨rfl, rfl⟩)
      go_ret
      exact ⟨rfl, rfl⟩
    | cons c s =>
      have d3 : decide ((s.length : Int) + 1 ≤ 20) = true := decide_eq_true (by have : (c :: s).length = s.length + 1 := rfl; omega)
      generalize (allW (c :: s) && decide (c :: s ≠ [])) = b at KA ⊢
      have KL := Lib.hid (fun W => letter_any (c.toNat : Int) W)
      have g0 := getBL (s := c :: s) (k := 0) (c := c) rfl
      rw [show (c :: s).headD 0 = c from rfl]
      generalize leB (c.toNat : Int) = q at KL ⊢
      cases b
      · go_enter Tryz.func39, Tryz.ntmps39
        go_wp2_with (first | (go_at_call 81; (with_reducible refine (KA.out _).mono ?_); rintro e w1 ⟨rfl, rfl⟩) | (go_at_call 83; (with_reducible refine (KL.out _).mono ?_); rintro e w1 ⟨rfl, rfl⟩))
        go_ret
        exact ⟨rfl, rfl⟩
      · go_enter Tryz.func39, Tryz.ntmps39
        go_wp2_with (first | (go_at_call 81; (with_reducible refine (KA.out _).mono ?_); rintro e w1 ⟨rfl, rfl⟩) | (go_at_call 83; (with_reducible refine (KL.out _).mono ?_); rintro e w1 ⟨rfl, rfl⟩))
        go_ret
        exact ⟨ret_boo (by simp), rfl⟩
  · have d : decide ((s.length : Int) ≤ 20) = false := decide_eq_false (by omega)
    have d2 : decide (s.length ≤ 20) = false := decide_eq_false h
    rw [d2]
    go_enter Tryz.func39, Tryz.ntmps39
    go_wp2
    go_ret
    exact ⟨rfl, rfl⟩
def frB (n a b : Int) : Bool := decide (a ≤ n ∧ n ≤ b)
theorem from_any (n a b : Int) (w : World) : Calls Tryz.prog 48 #[.int .i64 n, .int .i64 a, .int .i64 b] w fun e w' => e = .returned (.bool (frB n a b)) ∧ w' = w := by
  unfold frB
  go_enter Tryz.func48, Tryz.ntmps48
  go_wp2
  all_goals
    go_ret
    exact ⟨ret_boo (by first | rfl | (simp_all; done) | (simp_all; omega)), rfl⟩
def shB (f h : Int) (b : Bool) : Bool := if f = 3 then b else decide (h = 0)
/-- which sights are right -/
def siB (x : Bs) (a b c d e f g h i j : Int) : Bool :=
  naB x && frB a 1 3 && clkB b c && frB d (-60000) 7800000 && frB e 0 60000 && (frB f 1 3 && frB i (-500) 600 && frB j 5000 11000 && frB g 0 10000) &&
    (!(decide (f = 2) && !decide (g = 0))) && shB f h (frB h 1 100000)
set_option maxHeartbeats 4000000 in
set_option maxRecDepth 100000 in
theorem correctV_any (x : Bs) (a b c d e f g h i j : Int) (w : World) (hl : x.length ≤ 100000) : Calls Tryz.prog 13 #[sgv x a b c d e f g h i j] w fun e' w' => e' = .returned (.bool (siB x a b c d e f g h i j)) ∧ Below w.heap.size w w' := by
  have K1 := Lib.hid (fun W => isName_any x W hl)
  have K2 := Lib.hid (fun W => from_any a 1 3 W)
  have K3 := Lib.hid (fun W => clock_any b c W)
  have K4 := Lib.hid (fun W => from_any d (-60000) 7800000 W)
  have K5 := Lib.hid (fun W => from_any e 0 60000 W)
  have K6 := Lib.hid (fun W => from_any f 1 3 W)
  have K7 := Lib.hid (fun W => from_any i (-500) 600 W)
  have K8 := Lib.hid (fun W => from_any j 5000 11000 W)
  have K9 := Lib.hid (fun W => from_any g 0 10000 W)
  have KA := Lib.hid (fun W => from_any h 1 100000 W)
  unfold siB
  generalize naB x = b1 at *
  generalize frB a 1 3 = b2 at *
  generalize clkB b c = b3 at *
  generalize frB d (-60000) 7800000 = b4 at *
  generalize frB e 0 60000 = b5 at *
  generalize frB f 1 3 = b6 at *
  generalize frB i (-500) 600 = b7 at *
  generalize frB j 5000 11000 = b8 at *
  generalize frB g 0 10000 = b9 at *
  generalize frB h 1 100000 = bA at *
  cases b1
  · go_enter Tryz.func13, Tryz.ntmps13
    go_wp2_with (first | (go_at_call 39; (with_reducible refine (K1.out _).mono ?_); rintro e w1 ⟨rfl, rfl⟩) | (go_at_call 49; (with_reducible refine (K3.out _).mono ?_); rintro e w1 ⟨rfl, hb⟩; have hz := one_lt hb; have hb1 := one_bl hb; have y4 := (hb.cell (p := ⟨w.heap.size, 4, none⟩) (by simp)).trans (show _ = some (.int .i64 d) by simp); have y5 := (hb.cell (p := ⟨w.heap.size, 5, none⟩) (by simp)).trans (show _ = some (.int .i64 e) by simp); have y6 := (hb.cell (p := ⟨w.heap.size, 6, none⟩) (by simp)).trans (show _ = some (.int .i64 f) by simp); have y7 := (hb.cell (p := ⟨w.heap.size, 7, none⟩) (by simp)).trans (show _ = some (.int .i64 g) by simp); have y8 := (hb.cell (p := ⟨w.heap.size, 8, none⟩) (by simp)).trans (show _ = some (.int .i64 h) by simp); have y9 := (hb.cell (p := ⟨w.heap.size, 9, none⟩) (by simp)).trans (show _ = some (.int .i64 i) by simp); have y10 := (hb.cell (p := ⟨w.heap.size, 10, none⟩) (by simp)).trans (show _ = some (.int .i64 j) by simp); clear hb) | (go_at_call 48; (with_reducible refine (K2.out _).mono ?_); rintro e w1 ⟨rfl, rfl⟩) | (go_at_call 48; (with_reducible refine (K4.out _).mono ?_); rintro e w1 ⟨rfl, rfl⟩) | (go_at_call 48; (with_reducible refine (K5.out _).mono ?_); rintro e w1 ⟨rfl, rfl⟩) | (go_at_call 48; (with_reducible refine (K6.out _).mono ?_); rintro e w1 ⟨rfl, rfl⟩) | (go_at_call 48; (with_reducible refine (K7.out _).mono ?_); rintro e w1 ⟨rfl, rfl⟩) | (go_at_call 48; (with_reducible refine (K8.out _).mono ?_); rintro e w1 ⟨rfl, rfl⟩) | (go_at_call 48; (with_reducible refine (K9.out _).mono ?_); rintro e w1 ⟨rfl, rfl⟩) | (go_at_call 48; (with_reducible refine (KA.out _).mono ?_); rintro e w1 ⟨rfl, rfl⟩))
    go_ret
    refine ⟨ret_boo (by simp [shB]), ?_⟩
    repeat (first | exact Below.refl _ _ | assumption | refine bl_drew ?_ | refine bl_drewN ?_ _ | refine Below.setCell ?_ (by first | assumption | omega | (simp; done) | (simp; omega)) _ | refine Below.alloc ?_ (by first | assumption | omega | (simp; done) | (simp; omega)) _)
  · skip
    cases b2
    · go_enter Tryz.func13, Tryz.ntmps13
      go_wp2_with (first | (go_at_call 39; (with_reducible refine (K1.out _).mono ?_); rintro e w1 ⟨rfl, rfl⟩) | (go_at_call 49; (with_reducible refine (K3.out _).mono ?_); rintro e w1 ⟨rfl, hb⟩; have hz := one_lt hb; have hb1 := one_bl hb; have y4 := (hb.cell (p := ⟨w.heap.size, 4, none⟩) (by simp)).trans (show _ = some (.int .i64 d) by simp); have y5 := (hb.cell (p := ⟨w.heap.size, 5, none⟩) (by simp)).trans (show _ = some (.int .i64 e) by simp); have y6 := (hb.cell (p := ⟨w.heap.size, 6, none⟩) (by simp)).trans (show _ = some (.int .i64 f) by simp); have y7 := (hb.cell (p := ⟨w.heap.size, 7, none⟩) (by simp)).trans (show _ = some (.int .i64 g) by simp); have y8 := (hb.cell (p := ⟨w.heap.size, 8, none⟩) (by simp)).trans (show _ = some (.int .i64 h) by simp); have y9 := (hb.cell (p := ⟨w.heap.size, 9, none⟩) (by simp)).trans (show _ = some (.int .i64 i) by simp); have y10 := (hb.cell (p := ⟨w.heap.size, 10, none⟩) (by simp)).trans (show _ = some (.int .i64 j) by simp); clear hb) | (go_at_call 48; (with_reducible refine (K2.out _).mono ?_); rintro e w1 ⟨rfl, rfl⟩) | (go_at_call 48; (with_reducible refine (K4.out _).mono ?_); rintro e w1 ⟨rfl, rfl⟩) | (go_at_call 48; (with_reducible refine (K5.out _).mono ?_); rintro e w1 ⟨rfl, rfl⟩) | (go_at_call 48; (with_reducible refine (K6.out _).mono ?_); rintro e w1 ⟨rfl, rfl⟩) | (go_at_call 48; (with_reducible refine (K7.out _).mono ?_); rintro e w1 ⟨rfl, rfl⟩) | (go_at_call 48; (with_reducible refine (K8.out _).mono ?_); rintro e w1 ⟨rfl, rfl⟩) | (go_at_call 48; (with_reducible refine (K9.out _).mono ?_); rintro e w1 ⟨rfl, rfl⟩) | (go_at_call 48; (with_reducible refine (KA.out _).mono ?_); rintro e w1 ⟨rfl, rfl⟩))
      go_ret
      refine ⟨ret_boo (by simp [shB]), ?_⟩
      repeat (first | exact Below.refl _ _ | assumption | refine bl_drew ?_ | refine bl_drewN ?_ _ | refine Below.setCell ?_ (by first | assumption | omega | (simp; done) | (simp; omega)) _ | refine Below.alloc ?_ (by first | assumption | omega | (simp; done) | (simp; omega)) _)
    · skip
      cases b3
      · go_enter Tryz.func13, Tryz.ntmps13
        go_wp2_with (first | (go_at_call 39; (with_reducible refine (K1.out _).mono ?_); rintro e w1 ⟨rfl, rfl⟩) | (go_at_call 49; (with_reducible refine (K3.out _).mono ?_); rintro e w1 ⟨rfl, hb⟩; have hz := one_lt hb; have hb1 := one_bl hb; have y4 := (hb.cell (p := ⟨w.heap.size, 4, none⟩) (by simp)).trans (show _ = some (.int .i64 d) by simp); have y5 := (hb.cell (p := ⟨w.heap.size, 5, none⟩) (by simp)).trans (show _ = some (.int .i64 e) by simp); have y6 := (hb.cell (p := ⟨w.heap.size, 6, none⟩) (by simp)).trans (show _ = some (.int .i64 f) by simp); have y7 := (hb.cell (p := ⟨w.heap.size, 7, none⟩) (by simp)).trans (show _ = some (.int .i64 g) by simp); have y8 := (hb.cell (p := ⟨w.heap.size, 8, none⟩) (by simp)).trans (show _ = some (.int .i64 h) by simp); have y9 := (hb.cell (p := ⟨w.heap.size, 9, none⟩) (by simp)).trans (show _ = some (.int .i64 i) by simp); have y10 := (hb.cell (p := ⟨w.heap.size, 10, none⟩) (by simp)).trans (show _ = some (.int .i64 j) by simp); clear hb) | (go_at_call 48; (with_reducible refine (K2.out _).mono ?_); rintro e w1 ⟨rfl, rfl⟩) | (go_at_call 48; (with_reducible refine (K4.out _).mono ?_); rintro e w1 ⟨rfl, rfl⟩) | (go_at_call 48; (with_reducible refine (K5.out _).mono ?_); rintro e w1 ⟨rfl, rfl⟩) | (go_at_call 48; (with_reducible refine (K6.out _).mono ?_); rintro e w1 ⟨rfl, rfl⟩) | (go_at_call 48; (with_reducible refine (K7.out _).mono ?_); rintro e w1 ⟨rfl, rfl⟩) | (go_at_call 48; (with_reducible refine (K8.out _).mono ?_); rintro e w1 ⟨rfl, rfl⟩) | (go_at_call 48; (with_reducible refine (K9.out _).mono ?_); rintro e w1 ⟨rfl, rfl⟩) | (go_at_call 48; (with_reducible refine (KA.out _).mono ?_); rintro e w1 ⟨rfl, rfl⟩))
        go_ret
        exact ⟨ret_boo (by simp [shB]), hb1⟩
      · skip
        cases b4
        · go_enter Tryz.func13, Tryz.ntmps13
          go_wp2_with (first | (go_at_call 39; (with_reducible refine (K1.out _).mono ?_); rintro e w1 ⟨rfl, rfl⟩) | (go_at_call 49; (with_reducible refine (K3.out _).mono ?_); rintro e w1 ⟨rfl, hb⟩; have hz := one_lt hb; have hb1 := one_bl hb; have y4 := (hb.cell (p := ⟨w.heap.size, 4, none⟩) (by simp)).trans (show _ = some (.int .i64 d) by simp); have y5 := (hb.cell (p := ⟨w.heap.size, 5, none⟩) (by simp)).trans (show _ = some (.int .i64 e) by simp); have y6 := (hb.cell (p := ⟨w.heap.size, 6, none⟩) (by simp)).trans (show _ = some (.int .i64 f) by simp); have y7 := (hb.cell (p := ⟨w.heap.size, 7, none⟩) (by simp)).trans (show _ = some (.int .i64 g) by simp); have y8 := (hb.cell (p := ⟨w.heap.size, 8, none⟩) (by simp)).trans (show _ = some (.int .i64 h) by simp); have y9 := (hb.cell (p := ⟨w.heap.size, 9, none⟩) (by simp)).trans (show _ = some (.int .i64 i) by simp); have y10 := (hb.cell (p := ⟨w.heap.size, 10, none⟩) (by simp)).trans (show _ = some (.int .i64 j) by simp); clear hb) | (go_at_call 48; (with_reducible refine (K2.out _).mono ?_); rintro e w1 ⟨rfl, rfl⟩) | (go_at_call 48; (with_reducible refine (K4.out _).mono ?_); rintro e w1 ⟨rfl, rfl⟩) | (go_at_call 48; (with_reducible refine (K5.out _).mono ?_); rintro e w1 ⟨rfl, rfl⟩) | (go_at_call 48; (with_reducible refine (K6.out _).mono ?_); rintro e w1 ⟨rfl, rfl⟩) | (go_at_call 48; (with_reducible refine (K7.out _).mono ?_); rintro e w1 ⟨rfl, rfl⟩) | (go_at_call 48; (with_reducible refine (K8.out _).mono ?_); rintro e w1 ⟨rfl, rfl⟩) | (go_at_call 48; (with_reducible refine (K9.out _).mono ?_); rintro e w1 ⟨rfl, rfl⟩) | (go_at_call 48; (with_reducible refine (KA.out _).mono ?_); rintro e w1 ⟨rfl, rfl⟩))
          go_ret
          exact ⟨ret_boo (by simp [shB]), hb1⟩
        · skip
          cases b5
          · go_enter Tryz.func13, Tryz.ntmps13
            go_wp2_with (first | (go_at_call 39; (with_reducible refine (K1.out _).mono ?_); rintro e w1 ⟨rfl, rfl⟩) | (go_at_call 49; (with_reducible refine (K3.out _).mono ?_); rintro e w1 ⟨rfl, hb⟩; have hz := one_lt hb; have hb1 := one_bl hb; have y4 := (hb.cell (p := ⟨w.heap.size, 4, none⟩) (by simp)).trans (show _ = some (.int .i64 d) by simp); have y5 := (hb.cell (p := ⟨w.heap.size, 5, none⟩) (by simp)).trans (show _ = some (.int .i64 e) by simp); have y6 := (hb.cell (p := ⟨w.heap.size, 6, none⟩) (by simp)).trans (show _ = some (.int .i64 f) by simp); have y7 := (hb.cell (p := ⟨w.heap.size, 7, none⟩) (by simp)).trans (show _ = some (.int .i64 g) by simp); have y8 := (hb.cell (p := ⟨w.heap.size, 8, none⟩) (by simp)).trans (show _ = some (.int .i64 h) by simp); have y9 := (hb.cell (p := ⟨w.heap.size, 9, none⟩) (by simp)).trans (show _ = some (.int .i64 i) by simp); have y10 := (hb.cell (p := ⟨w.heap.size, 10, none⟩) (by simp)).trans (show _ = some (.int .i64 j) by simp); clear hb) | (go_at_call 48; (with_reducible refine (K2.out _).mono ?_); rintro e w1 ⟨rfl, rfl⟩) | (go_at_call 48; (with_reducible refine (K4.out _).mono ?_); rintro e w1 ⟨rfl, rfl⟩) | (go_at_call 48; (with_reducible refine (K5.out _).mono ?_); rintro e w1 ⟨rfl, rfl⟩) | (go_at_call 48; (with_reducible refine (K6.out _).mono ?_); rintro e w1 ⟨rfl, rfl⟩) | (go_at_call 48; (with_reducible refine (K7.out _).mono ?_); rintro e w1 ⟨rfl, rfl⟩) | (go_at_call 48; (with_reducible refine (K8.out _).mono ?_); rintro e w1 ⟨rfl, rfl⟩) | (go_at_call 48; (with_reducible refine (K9.out _).mono ?_); rintro e w1 ⟨rfl, rfl⟩) | (go_at_call 48; (with_reducible refine (KA.out _).mono ?_); rintro e w1 ⟨rfl, rfl⟩))
            go_ret
            exact ⟨ret_boo (by simp [shB]), hb1⟩
          · skip
            cases b6
            · go_enter Tryz.func13, Tryz.ntmps13
              go_wp2_with (first | (go_at_call 39; (with_reducible refine (K1.out _).mono ?_); rintro e w1 ⟨rfl, rfl⟩) | (go_at_call 49; (with_reducible refine (K3.out _).mono ?_); rintro e w1 ⟨rfl, hb⟩; have hz := one_lt hb; have hb1 := one_bl hb; have y4 := (hb.cell (p := ⟨w.heap.size, 4, none⟩) (by simp)).trans (show _ = some (.int .i64 d) by simp); have y5 := (hb.cell (p := ⟨w.heap.size, 5, none⟩) (by simp)).trans (show _ = some (.int .i64 e) by simp); have y6 := (hb.cell (p := ⟨w.heap.size, 6, none⟩) (by simp)).trans (show _ = some (.int .i64 f) by simp); have y7 := (hb.cell (p := ⟨w.heap.size, 7, none⟩) (by simp)).trans (show _ = some (.int .i64 g) by simp); have y8 := (hb.cell (p := ⟨w.heap.size, 8, none⟩) (by simp)).trans (show _ = some (.int .i64 h) by simp); have y9 := (hb.cell (p := ⟨w.heap.size, 9, none⟩) (by simp)).trans (show _ = some (.int .i64 i) by simp); have y10 := (hb.cell (p := ⟨w.heap.size, 10, none⟩) (by simp)).trans (show _ = some (.int .i64 j) by simp); clear hb) | (go_at_call 48; (with_reducible refine (K2.out _).mono ?_); rintro e w1 ⟨rfl, rfl⟩) | (go_at_call 48; (with_reducible refine (K4.out _).mono ?_); rintro e w1 ⟨rfl, rfl⟩) | (go_at_call 48; (with_reducible refine (K5.out _).mono ?_); rintro e w1 ⟨rfl, rfl⟩) | (go_at_call 48; (with_reducible refine (K6.out _).mono ?_); rintro e w1 ⟨rfl, rfl⟩) | (go_at_call 48; (with_reducible refine (K7.out _).mono ?_); rintro e w1 ⟨rfl, rfl⟩) | (go_at_call 48; (with_reducible refine (K8.out _).mono ?_); rintro e w1 ⟨rfl, rfl⟩) | (go_at_call 48; (with_reducible refine (K9.out _).mono ?_); rintro e w1 ⟨rfl, rfl⟩) | (go_at_call 48; (with_reducible refine (KA.out _).mono ?_); rintro e w1 ⟨rfl, rfl⟩))
              go_ret
              exact ⟨ret_boo (by simp [shB]), hb1⟩
            · skip
              cases b7
              · go_enter Tryz.func13, Tryz.ntmps13
                go_wp2_with (first | (go_at_call 39; (with_reducible refine (K1.out _).mono ?_); rintro e w1 ⟨rfl, rfl⟩) | (go_at_call 49; (with_reducible refine (K3.out _).mono ?_); rintro e w1 ⟨rfl, hb⟩; have hz := one_lt hb; have hb1 := one_bl hb; have y4 := (hb.cell (p := ⟨w.heap.size, 4, none⟩) (by simp)).trans (show _ = some (.int .i64 d) by simp); have y5 := (hb.cell (p := ⟨w.heap.size, 5, none⟩) (by simp)).trans (show _ = some (.int .i64 e) by simp); have y6 := (hb.cell (p := ⟨w.heap.size, 6, none⟩) (by simp)).trans (show _ = some (.int .i64 f) by simp); have y7 := (hb.cell (p := ⟨w.heap.size, 7, none⟩) (by simp)).trans (show _ = some (.int .i64 g) by simp); have y8 := (hb.cell (p := ⟨w.heap.size, 8, none⟩) (by simp)).trans (show _ = some (.int .i64 h) by simp); have y9 := (hb.cell (p := ⟨w.heap.size, 9, none⟩) (by simp)).trans (show _ = some (.int .i64 i) by simp); have y10 := (hb.cell (p := ⟨w.heap.size, 10, none⟩) (by simp)).trans (show _ = some (.int .i64 j) by simp); clear hb) | (go_at_call 48; (with_reducible refine (K2.out _).mono ?_); rintro e w1 ⟨rfl, rfl⟩) | (go_at_call 48; (with_reducible refine (K4.out _).mono ?_); rintro e w1 ⟨rfl, rfl⟩) | (go_at_call 48; (with_reducible refine (K5.out _).mono ?_); rintro e w1 ⟨rfl, rfl⟩) | (go_at_call 48; (with_reducible refine (K6.out _).mono ?_); rintro e w1 ⟨rfl, rfl⟩) | (go_at_call 48; (with_reducible refine (K7.out _).mono ?_); rintro e w1 ⟨rfl, rfl⟩) | (go_at_call 48; (with_reducible refine (K8.out _).mono ?_); rintro e w1 ⟨rfl, rfl⟩) | (go_at_call 48; (with_reducible refine (K9.out _).mono ?_); rintro e w1 ⟨rfl, rfl⟩) | (go_at_call 48; (with_reducible refine (KA.out _).mono ?_); rintro e w1 ⟨rfl, rfl⟩))
                go_ret
                exact ⟨ret_boo (by simp [shB]), hb1⟩
              · skip
                cases b8
                · go_enter Tryz.func13, Tryz.ntmps13
                  go_wp2_with (first | (go_at_call 39; (with_reducible refine (K1.out _).mono ?_); rintro e w1 ⟨rfl, rfl⟩) | (go_at_call 49; (with_reducible refine (K3.out _).mono ?_); rintro e w1 ⟨rfl, hb⟩; have hz := one_lt hb; have hb1 := one_bl hb; have y4 := (hb.cell (p := ⟨w.heap.size, 4, none⟩) (by simp)).trans (show _ = some (.int .i64 d) by simp); have y5 := (hb.cell (p := ⟨w.heap.size, 5, none⟩) (by simp)).trans (show _ = some (.int .i64 e) by simp); have y6 := (hb.cell (p := ⟨w.heap.size, 6, none⟩) (by simp)).trans (show _ = some (.int .i64 f) by simp); have y7 := (hb.cell (p := ⟨w.heap.size, 7, none⟩) (by simp)).trans (show _ = some (.int .i64 g) by simp); have y8 := (hb.cell (p := ⟨w.heap.size, 8, none⟩) (by simp)).trans (show _ = some (.int .i64 h) by simp); have y9 := (hb.cell (p := ⟨w.heap.size, 9, none⟩) (by simp)).trans (show _ = some (.int .i64 i) by simp); have y10 := (hb.cell (p := ⟨w.heap.size, 10, none⟩) (by simp)).trans (show _ = some (.int .i64 j) by simp); clear hb) | (go_at_call 48; (with_reducible refine (K2.out _).mono ?_); rintro e w1 ⟨rfl, rfl⟩) | (go_at_call 48; (with_reducible refine (K4.out _).mono ?_); rintro e w1 ⟨rfl, rfl⟩) | (go_at_call 48; (with_reducible refine (K5.out _).mono ?_); rintro e w1 ⟨rfl, rfl⟩) | (go_at_call 48; (with_reducible refine (K6.out _).mono ?_); rintro e w1 ⟨rfl, rfl⟩) | (go_at_call 48; (with_reducible refine (K7.out _).mono ?_); rintro e w1 ⟨rfl, rfl⟩) | (go_at_call 48; (with_reducible refine (K8.out _).mono ?_); rintro e w1 ⟨rfl, rfl⟩) | (go_at_call 48; (with_reducible refine (K9.out _).mono ?_); rintro e w1 ⟨rfl, rfl⟩) | (go_at_call 48; (with_reducible refine (KA.out _).mono ?_); rintro e w1 ⟨rfl, rfl⟩))
                  go_ret
                  exact ⟨ret_boo (by simp [shB]), hb1⟩
                · skip
                  cases b9
                  · go_enter Tryz.func13, Tryz.ntmps13
                    go_wp2_with (first | (go_at_call 39; (with_reducible refine (K1.out _).mono ?_); rintro e w1 ⟨rfl, rfl⟩) | (go_at_call 49; (with_reducible refine (K3.out _).mono ?_); rintro e w1 ⟨rfl, hb⟩; have hz := one_lt hb; have hb1 := one_bl hb; have y4 := (hb.cell (p := ⟨w.heap.size, 4, none⟩) (by simp)).trans (show _ = some (.int .i64 d) by simp); have y5 := (hb.cell (p := ⟨w.heap.size, 5, none⟩) (by simp)).trans (show _ = some (.int .i64 e) by simp); have y6 := (hb.cell (p := ⟨w.heap.size, 6, none⟩) (by simp)).trans (show _ = some (.int .i64 f) by simp); have y7 := (hb.cell (p := ⟨w.heap.size, 7, none⟩) (by simp)).trans (show _ = some (.int .i64 g) by simp); have y8 := (hb.cell (p := ⟨w.heap.size, 8, none⟩) (by simp)).trans (show _ = some (.int .i64 h) by simp); have y9 := (hb.cell (p := ⟨w.heap.size, 9, none⟩) (by simp)).trans (show _ = some (.int .i64 i) by simp); have y10 := (hb.cell (p := ⟨w.heap.size, 10, none⟩) (by simp)).trans (show _ = some (.int .i64 j) by simp); clear hb) | (go_at_call 48; (with_reducible refine (K2.out _).mono ?_); rintro e w1 ⟨rfl, rfl⟩) | (go_at_call 48; (with_reducible refine (K4.out _).mono ?_); rintro e w1 ⟨rfl, rfl⟩) | (go_at_call 48; (with_reducible refine (K5.out _).mono ?_); rintro e w1 ⟨rfl, rfl⟩) | (go_at_call 48; (with_reducible refine (K6.out _).mono ?_); rintro e w1 ⟨rfl, rfl⟩) | (go_at_call 48; (with_reducible refine (K7.out _).mono ?_); rintro e w1 ⟨rfl, rfl⟩) | (go_at_call 48; (with_reducible refine (K8.out _).mono ?_); rintro e w1 ⟨rfl, rfl⟩) | (go_at_call 48; (with_reducible refine (K9.out _).mono ?_); rintro e w1 ⟨rfl, rfl⟩) | (go_at_call 48; (with_reducible refine (KA.out _).mono ?_); rintro e w1 ⟨rfl, rfl⟩))
                    go_ret
                    exact ⟨ret_boo (by simp [shB]), hb1⟩
                  · skip
                    by_cases h2 : f = 2
                    · have d2 : (f == 2) = true := by simp [h2]
                      have d3 : (f == 3) = false := by simp [h2]
                      replace h2 := Lib.hid h2
                      by_cases h0 : g = 0
                      · have d0 : (g != 0) = false := by simp [h0]
                        replace h0 := Lib.hid h0
                        by_cases hs : h = 0
                        · have ds : (h == 0) = true := by simp [hs]
                          replace hs := Lib.hid hs
                          go_enter Tryz.func13, Tryz.ntmps13
                          go_wp2_with (first | (go_at_call 39; (with_reducible refine (K1.out _).mono ?_); rintro e w1 ⟨rfl, rfl⟩) | (go_at_call 49; (with_reducible refine (K3.out _).mono ?_); rintro e w1 ⟨rfl, hb⟩; have hz := one_lt hb; have hb1 := one_bl hb; have y4 := (hb.cell (p := ⟨w.heap.size, 4, none⟩) (by simp)).trans (show _ = some (.int .i64 d) by simp); have y5 := (hb.cell (p := ⟨w.heap.size, 5, none⟩) (by simp)).trans (show _ = some (.int .i64 e) by simp); have y6 := (hb.cell (p := ⟨w.heap.size, 6, none⟩) (by simp)).trans (show _ = some (.int .i64 f) by simp); have y7 := (hb.cell (p := ⟨w.heap.size, 7, none⟩) (by simp)).trans (show _ = some (.int .i64 g) by simp); have y8 := (hb.cell (p := ⟨w.heap.size, 8, none⟩) (by simp)).trans (show _ = some (.int .i64 h) by simp); have y9 := (hb.cell (p := ⟨w.heap.size, 9, none⟩) (by simp)).trans (show _ = some (.int .i64 i) by simp); have y10 := (hb.cell (p := ⟨w.heap.size, 10, none⟩) (by simp)).trans (show _ = some (.int .i64 j) by simp); clear hb) | (go_at_call 48; (with_reducible refine (K2.out _).mono ?_); rintro e w1 ⟨rfl, rfl⟩) | (go_at_call 48; (with_reducible refine (K4.out _).mono ?_); rintro e w1 ⟨rfl, rfl⟩) | (go_at_call 48; (with_reducible refine (K5.out _).mono ?_); rintro e w1 ⟨rfl, rfl⟩) | (go_at_call 48; (with_reducible refine (K6.out _).mono ?_); rintro e w1 ⟨rfl, rfl⟩) | (go_at_call 48; (with_reducible refine (K7.out _).mono ?_); rintro e w1 ⟨rfl, rfl⟩) | (go_at_call 48; (with_reducible refine (K8.out _).mono ?_); rintro e w1 ⟨rfl, rfl⟩) | (go_at_call 48; (with_reducible refine (K9.out _).mono ?_); rintro e w1 ⟨rfl, rfl⟩) | (go_at_call 48; (with_reducible refine (KA.out _).mono ?_); rintro e w1 ⟨rfl, rfl⟩))
                          go_ret
                          exact ⟨ret_boo (by simp [shB, h2.out, h0.out, hs.out]), hb1⟩
                        · have ds : (h == 0) = false := by simp [hs]
                          go_enter Tryz.func13, Tryz.ntmps13
                          go_wp2_with (first | (go_at_call 39; (with_reducible refine (K1.out _).mono ?_); rintro e w1 ⟨rfl, rfl⟩) | (go_at_call 49; (with_reducible refine (K3.out _).mono ?_); rintro e w1 ⟨rfl, hb⟩; have hz := one_lt hb; have hb1 := one_bl hb; have y4 := (hb.cell (p := ⟨w.heap.size, 4, none⟩) (by simp)).trans (show _ = some (.int .i64 d) by simp); have y5 := (hb.cell (p := ⟨w.heap.size, 5, none⟩) (by simp)).trans (show _ = some (.int .i64 e) by simp); have y6 := (hb.cell (p := ⟨w.heap.size, 6, none⟩) (by simp)).trans (show _ = some (.int .i64 f) by simp); have y7 := (hb.cell (p := ⟨w.heap.size, 7, none⟩) (by simp)).trans (show _ = some (.int .i64 g) by simp); have y8 := (hb.cell (p := ⟨w.heap.size, 8, none⟩) (by simp)).trans (show _ = some (.int .i64 h) by simp); have y9 := (hb.cell (p := ⟨w.heap.size, 9, none⟩) (by simp)).trans (show _ = some (.int .i64 i) by simp); have y10 := (hb.cell (p := ⟨w.heap.size, 10, none⟩) (by simp)).trans (show _ = some (.int .i64 j) by simp); clear hb) | (go_at_call 48; (with_reducible refine (K2.out _).mono ?_); rintro e w1 ⟨rfl, rfl⟩) | (go_at_call 48; (with_reducible refine (K4.out _).mono ?_); rintro e w1 ⟨rfl, rfl⟩) | (go_at_call 48; (with_reducible refine (K5.out _).mono ?_); rintro e w1 ⟨rfl, rfl⟩) | (go_at_call 48; (with_reducible refine (K6.out _).mono ?_); rintro e w1 ⟨rfl, rfl⟩) | (go_at_call 48; (with_reducible refine (K7.out _).mono ?_); rintro e w1 ⟨rfl, rfl⟩) | (go_at_call 48; (with_reducible refine (K8.out _).mono ?_); rintro e w1 ⟨rfl, rfl⟩) | (go_at_call 48; (with_reducible refine (K9.out _).mono ?_); rintro e w1 ⟨rfl, rfl⟩) | (go_at_call 48; (with_reducible refine (KA.out _).mono ?_); rintro e w1 ⟨rfl, rfl⟩))
                          go_ret
                          exact ⟨ret_boo (by simp [shB, h2.out, h0.out, hs]), hb1⟩
                      · have d0 : (g != 0) = true := by simp [h0]
                        go_enter Tryz.func13, Tryz.ntmps13
                        go_wp2_with (first | (go_at_call 39; (with_reducible refine (K1.out _).mono ?_); rintro e w1 ⟨rfl, rfl⟩) | (go_at_call 49; (with_reducible refine (K3.out _).mono ?_); rintro e w1 ⟨rfl, hb⟩; have hz := one_lt hb; have hb1 := one_bl hb; have y4 := (hb.cell (p := ⟨w.heap.size, 4, none⟩) (by simp)).trans (show _ = some (.int .i64 d) by simp); have y5 := (hb.cell (p := ⟨w.heap.size, 5, none⟩) (by simp)).trans (show _ = some (.int .i64 e) by simp); have y6 := (hb.cell (p := ⟨w.heap.size, 6, none⟩) (by simp)).trans (show _ = some (.int .i64 f) by simp); have y7 := (hb.cell (p := ⟨w.heap.size, 7, none⟩) (by simp)).trans (show _ = some (.int .i64 g) by simp); have y8 := (hb.cell (p := ⟨w.heap.size, 8, none⟩) (by simp)).trans (show _ = some (.int .i64 h) by simp); have y9 := (hb.cell (p := ⟨w.heap.size, 9, none⟩) (by simp)).trans (show _ = some (.int .i64 i) by simp); have y10 := (hb.cell (p := ⟨w.heap.size, 10, none⟩) (by simp)).trans (show _ = some (.int .i64 j) by simp); clear hb) | (go_at_call 48; (with_reducible refine (K2.out _).mono ?_); rintro e w1 ⟨rfl, rfl⟩) | (go_at_call 48; (with_reducible refine (K4.out _).mono ?_); rintro e w1 ⟨rfl, rfl⟩) | (go_at_call 48; (with_reducible refine (K5.out _).mono ?_); rintro e w1 ⟨rfl, rfl⟩) | (go_at_call 48; (with_reducible refine (K6.out _).mono ?_); rintro e w1 ⟨rfl, rfl⟩) | (go_at_call 48; (with_reducible refine (K7.out _).mono ?_); rintro e w1 ⟨rfl, rfl⟩) | (go_at_call 48; (with_reducible refine (K8.out _).mono ?_); rintro e w1 ⟨rfl, rfl⟩) | (go_at_call 48; (with_reducible refine (K9.out _).mono ?_); rintro e w1 ⟨rfl, rfl⟩) | (go_at_call 48; (with_reducible refine (KA.out _).mono ?_); rintro e w1 ⟨rfl, rfl⟩))
                        go_ret
                        exact ⟨ret_boo (by simp [shB, h2.out, h0]), hb1⟩
                    · have d2 : (f == 2) = false := by simp [h2]
                      by_cases h3 : f = 3
                      · have d3 : (f == 3) = true := by simp [h3]
                        replace h3 := Lib.hid h3
                        go_enter Tryz.func13, Tryz.ntmps13
                        go_wp2_with (first | (go_at_call 39; (with_reducible refine (K1.out _).mono ?_); rintro e w1 ⟨rfl, rfl⟩) | (go_at_call 49; (with_reducible refine (K3.out _).mono ?_); rintro e w1 ⟨rfl, hb⟩; have hz := one_lt hb; have hb1 := one_bl hb; have y4 := (hb.cell (p := ⟨w.heap.size, 4, none⟩) (by simp)).trans (show _ = some (.int .i64 d) by simp); have y5 := (hb.cell (p := ⟨w.heap.size, 5, none⟩) (by simp)).trans (show _ = some (.int .i64 e) by simp); have y6 := (hb.cell (p := ⟨w.heap.size, 6, none⟩) (by simp)).trans (show _ = some (.int .i64 f) by simp); have y7 := (hb.cell (p := ⟨w.heap.size, 7, none⟩) (by simp)).trans (show _ = some (.int .i64 g) by simp); have y8 := (hb.cell (p := ⟨w.heap.size, 8, none⟩) (by simp)).trans (show _ = some (.int .i64 h) by simp); have y9 := (hb.cell (p := ⟨w.heap.size, 9, none⟩) (by simp)).trans (show _ = some (.int .i64 i) by simp); have y10 := (hb.cell (p := ⟨w.heap.size, 10, none⟩) (by simp)).trans (show _ = some (.int .i64 j) by simp); clear hb) | (go_at_call 48; (with_reducible refine (K2.out _).mono ?_); rintro e w1 ⟨rfl, rfl⟩) | (go_at_call 48; (with_reducible refine (K4.out _).mono ?_); rintro e w1 ⟨rfl, rfl⟩) | (go_at_call 48; (with_reducible refine (K5.out _).mono ?_); rintro e w1 ⟨rfl, rfl⟩) | (go_at_call 48; (with_reducible refine (K6.out _).mono ?_); rintro e w1 ⟨rfl, rfl⟩) | (go_at_call 48; (with_reducible refine (K7.out _).mono ?_); rintro e w1 ⟨rfl, rfl⟩) | (go_at_call 48; (with_reducible refine (K8.out _).mono ?_); rintro e w1 ⟨rfl, rfl⟩) | (go_at_call 48; (with_reducible refine (K9.out _).mono ?_); rintro e w1 ⟨rfl, rfl⟩) | (go_at_call 48; (with_reducible refine (KA.out _).mono ?_); rintro e w1 ⟨rfl, rfl⟩))
                        go_ret
                        exact ⟨ret_boo (by simp [shB, h3.out]), hb1⟩
                      · have d3 : (f == 3) = false := by simp [h3]
                        by_cases hs : h = 0
                        · have ds : (h == 0) = true := by simp [hs]
                          replace hs := Lib.hid hs
                          go_enter Tryz.func13, Tryz.ntmps13
                          go_wp2_with (first | (go_at_call 39; (with_reducible refine (K1.out _).mono ?_); rintro e w1 ⟨rfl, rfl⟩) | (go_at_call 49; (with_reducible refine (K3.out _).mono ?_); rintro e w1 ⟨rfl, hb⟩; have hz := one_lt hb; have hb1 := one_bl hb; have y4 := (hb.cell (p := ⟨w.heap.size, 4, none⟩) (by simp)).trans (show _ = some (.int .i64 d) by simp); have y5 := (hb.cell (p := ⟨w.heap.size, 5, none⟩) (by simp)).trans (show _ = some (.int .i64 e) by simp); have y6 := (hb.cell (p := ⟨w.heap.size, 6, none⟩) (by simp)).trans (show _ = some (.int .i64 f) by simp); have y7 := (hb.cell (p := ⟨w.heap.size, 7, none⟩) (by simp)).trans (show _ = some (.int .i64 g) by simp); have y8 := (hb.cell (p := ⟨w.heap.size, 8, none⟩) (by simp)).trans (show _ = some (.int .i64 h) by simp); have y9 := (hb.cell (p := ⟨w.heap.size, 9, none⟩) (by simp)).trans (show _ = some (.int .i64 i) by simp); have y10 := (hb.cell (p := ⟨w.heap.size, 10, none⟩) (by simp)).trans (show _ = some (.int .i64 j) by simp); clear hb) | (go_at_call 48; (with_reducible refine (K2.out _).mono ?_); rintro e w1 ⟨rfl, rfl⟩) | (go_at_call 48; (with_reducible refine (K4.out _).mono ?_); rintro e w1 ⟨rfl, rfl⟩) | (go_at_call 48; (with_reducible refine (K5.out _).mono ?_); rintro e w1 ⟨rfl, rfl⟩) | (go_at_call 48; (with_reducible refine (K6.out _).mono ?_); rintro e w1 ⟨rfl, rfl⟩) | (go_at_call 48; (with_reducible refine (K7.out _).mono ?_); rintro e w1 ⟨rfl, rfl⟩) | (go_at_call 48; (with_reducible refine (K8.out _).mono ?_); rintro e w1 ⟨rfl, rfl⟩) | (go_at_call 48; (with_reducible refine (K9.out _).mono ?_); rintro e w1 ⟨rfl, rfl⟩) | (go_at_call 48; (with_reducible refine (KA.out _).mono ?_); rintro e w1 ⟨rfl, rfl⟩))
                          go_ret
                          exact ⟨ret_boo (by simp [shB, h2, h3, hs.out]), hb1⟩
                        · have ds : (h == 0) = false := by simp [hs]
                          go_enter Tryz.func13, Tryz.ntmps13
                          go_wp2_with (first | (go_at_call 39; (with_reducible refine (K1.out _).mono ?_); rintro e w1 ⟨rfl, rfl⟩) | (go_at_call 49; (with_reducible refine (K3.out _).mono ?_); rintro e w1 ⟨rfl, hb⟩; have hz := one_lt hb; have hb1 := one_bl hb; have y4 := (hb.cell (p := ⟨w.heap.size, 4, none⟩) (by simp)).trans (show _ = some (.int .i64 d) by simp); have y5 := (hb.cell (p := ⟨w.heap.size, 5, none⟩) (by simp)).trans (show _ = some (.int .i64 e) by simp); have y6 := (hb.cell (p := ⟨w.heap.size, 6, none⟩) (by simp)).trans (show _ = some (.int .i64 f) by simp); have y7 := (hb.cell (p := ⟨w.heap.size, 7, none⟩) (by simp)).trans (show _ = some (.int .i64 g) by simp); have y8 := (hb.cell (p := ⟨w.heap.size, 8, none⟩) (by simp)).trans (show _ = some (.int .i64 h) by simp); have y9 := (hb.cell (p := ⟨w.heap.size, 9, none⟩) (by simp)).trans (show _ = some (.int .i64 i) by simp); have y10 := (hb.cell (p := ⟨w.heap.size, 10, none⟩) (by simp)).trans (show _ = some (.int .i64 j) by simp); clear hb) | (go_at_call 48; (with_reducible refine (K2.out _).mono ?_); rintro e w1 ⟨rfl, rfl⟩) | (go_at_call 48; (with_reducible refine (K4.out _).mono ?_); rintro e w1 ⟨rfl, rfl⟩) | (go_at_call 48; (with_reducible refine (K5.out _).mono ?_); rintro e w1 ⟨rfl, rfl⟩) | (go_at_call 48; (with_reducible refine (K6.out _).mono ?_); rintro e w1 ⟨rfl, rfl⟩) | (go_at_call 48; (with_reducible refine (K7.out _).mono ?_); rintro e w1 ⟨rfl, rfl⟩) | (go_at_call 48; (with_reducible refine (K8.out _).mono ?_); rintro e w1 ⟨rfl, rfl⟩) | (go_at_call 48; (with_reducible refine (K9.out _).mono ?_); rintro e w1 ⟨rfl, rfl⟩) | (go_at_call 48; (with_reducible refine (KA.out _).mono ?_); rintro e w1 ⟨rfl, rfl⟩))
                          go_ret
                          exact ⟨ret_boo (by simp [shB, h2, h3, hs]), hb1⟩
end Go.Proofs.YtbpnacacnncopaaGreatDoor
