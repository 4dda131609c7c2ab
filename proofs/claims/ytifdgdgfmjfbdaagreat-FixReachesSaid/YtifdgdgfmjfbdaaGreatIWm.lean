/- The walk of cover. -/
import Derived.Test.YtifdgdgfmjfbdaaGreatIShelf
set_option linter.unusedVariables false
set_option linter.unusedSimpArgs false
namespace Go.Proofs.YtifdgdgfmjfbdaaGreat
open Go.RowKit Go.Sort

/-- the span of a cell -/
def spI (x : Cl) : Sp := ((spF x : Int), (spT x : Int))
theorem spanOf_any (x : Cl) (w : World) (hv : vldB x.1 x.2.1 x.2.2 = true) :
    Calls Tryz.prog 177 #[.agg #[.int .i64 x.1, .int .i64 x.2.1, .int .i64 x.2.2]] w fun e w' => e = .returned (.agg #[.int .i64 (spI x).1, .int .i64 (spI x).2]) ∧ Below w.heap.size w w' := by
  obtain ⟨h0, h1, h2, h3, h4, h5⟩ := vldB_true.1 hv
  obtain ⟨l, r, c⟩ := x
  obtain ⟨l, rfl⟩ := Int.eq_ofNat_of_zero_le h0
  obtain ⟨r, rfl⟩ := Int.eq_ofNat_of_zero_le h2
  obtain ⟨c, rfl⟩ := Int.eq_ofNat_of_zero_le h4
  simp only [pw, Int.toNat_natCast] at h3 h5
  simp only [] at h1
  exact spanOf_nat l r c w (by omega) (by exact_mod_cast h3) (by exact_mod_cast h5)
/-- one span more, put together with the last one if it touches this -/
def mrg (out : List Sp) (s : Sp) : List Sp :=
  match out.getLast? with
  | some t => if s.1 ≤ t.2 then out.dropLast ++ [(t.1, max t.2 s.2)] else out ++ [s]
  | none => [s]
def mergeS (D : List Sp) : List Sp := D.foldl mrg []
/-- what cover returns -/
def coverL (L : List Cl) : List Sp := mergeS (sortS (L.map spI))
theorem mergeS_snoc (D : List Sp) (s : Sp) : mergeS (D ++ [s]) = mrg (mergeS D) s := by simp [mergeS]
theorem mrg_length (out : List Sp) (s : Sp) : (mrg out s).length ≤ out.length + 1 := by
  unfold mrg
  cases h : out.getLast? with
  | none => simp
  | some t =>
    simp only []
    split
    · simp
    · simp
theorem mergeS_length (D : List Sp) : (mergeS D).length ≤ D.length := by
  have : ∀ (D out : List Sp), (D.foldl mrg out).length ≤ out.length + D.length := by
    intro D
    induction D with
    | nil => intro out; simp
    | cons x r ih =>
      intro out
      have h1 := ih (mrg out x)
      have h2 := mrg_length out x
      simp only [List.foldl_cons, List.length_cons]
      omega
  simpa [mergeS] using this D []
/-- the bounds of the spans of valid cells -/
def SpOk (D : List Sp) : Prop := ∀ s ∈ D, 0 ≤ s.1 ∧ s.1 < s.2 ∧ s.2 ≤ 8589934592

def RetSpans (w : World) (D : List Sp) (e : Ending) (w' : World) : Prop :=
  ∃ v, e = .returned v ∧ w'.ownsRow w.heap.size 194 2 v D.length (spvs D) ∧ Below w.heap.size w w'
theorem Tryz.infoSpan : (Tryz.prog.info? 194).map (fun i => (i.zero, i.size, i.bytes)) = some (some (.agg #[.int .i64 0, .int .i64 0]), 2, 16) := by kernel_rfl
theorem sreads_new (w : World) (a b : Int) (t : TypeId) : Reads (w.alloc (.cells #[.int .i64 a, .int .i64 b] t)) (w.heap.size + 1) 2 (some ⟨w.heap.size, 0, none⟩) 1 (spv (a, b)) := by
  refine ⟨rfl, fun _ => ⟨_, rfl, by simp, fun j u hu => ?_⟩⟩
  match j, hu with
  | 0, hu => simp [spv] at hu; subst hu; simp [Addr.add]
  | 1, hu => simp [spv] at hu; subst hu; simp [Addr.add]
  | j + 2, hu => simp [spv] at hu
theorem map_take_snoc (L : List Cl) (k : Nat) (hk : k < L.length) : spvs ((L.take (k + 1)).map spI) = spvs ((L.take k).map spI) ++ spv (spI (gt L k)) := by
  rw [List.take_succ_eq_append_getElem hk, List.map_append, spvs_append]
  simp [gt, hk, spvs]
theorem SReads.elem {w : World} {B n : Nat} {A : Option Addr} {D : List Sp} (h : Reads w B 2 A n (spvs D)) {k : Nat} (hk : k < n) :
    ∃ b off, A = some ⟨b, off, none⟩ ∧ b < B ∧ w.cell? ⟨b, off + k * 2, none⟩ = some (.int .i64 (gs D k).1) ∧ w.cell? ⟨b, off + k * 2 + 1, none⟩ = some (.int .i64 (gs D k).2) := by
  have hl : D.length = n := by have := h.1; rw [spvs_length] at this; omega
  obtain ⟨ad, rfl, hb, hc⟩ := h.2 (by omega)
  obtain ⟨b, off, spot⟩ := ad
  obtain ⟨z1, _⟩ := spvs_at D 0 (by omega)
  have hspot : spot = none := by simpa [Addr.add] using World.cell?_spot (hc 0 _ (by simpa using z1))
  subst hspot
  obtain ⟨y1, y2⟩ := spvs_at D k (by omega)
  refine ⟨b, off, rfl, hb, ?_, ?_⟩
  · have := hc _ _ y1; rw [Go.WideShapes.add_plain] at this; exact this
  · have := hc _ _ y2; rw [Go.WideShapes.add_plain] at this; exact this

theorem mergeS_take (S : List Sp) (k : Nat) (hk : k < S.length) : mergeS (S.take (k + 1)) = mrg (mergeS (S.take k)) (gs S k) := by
  rw [List.take_succ_eq_append_getElem hk, mergeS_snoc]
  simp [gs, hk]
theorem mrg_nil (s : Sp) : mrg [] s = [s] := rfl
theorem mrg_in (M : List Sp) (t s : Sp) (h : s.1 ≤ t.2) : mrg (M ++ [t]) s = M ++ [(t.1, max t.2 s.2)] := by simp [mrg, h]
theorem mrg_out (M : List Sp) (t s : Sp) (h : ¬ s.1 ≤ t.2) : mrg (M ++ [t]) s = (M ++ [t]) ++ [s] := by simp [mrg, h]
theorem snoc_cases (M : List Sp) : M = [] ∨ ∃ M' t, M = M' ++ [t] := by
  rcases List.eq_nil_or_concat M with h | ⟨M', t, h⟩
  · exact .inl h
  · exact .inr ⟨M', t, by simpa using h⟩
theorem spvs_last (M : List Sp) (t : Sp) : (spvs (M ++ [t]))[M.length * 2]? = some (.int .i64 t.1) ∧ (spvs (M ++ [t]))[M.length * 2 + 1]? = some (.int .i64 t.2) := by
  have := spvs_at (M ++ [t]) M.length (by simp)
  simpa [gs] using this
theorem spvs_set (M : List Sp) (t : Sp) (u : Int) : (spvs (M ++ [t])).set (M.length * 2 + 1) (.int .i64 u) = spvs (M ++ [(t.1, u)]) := by
  rw [spvs_append, spvs_append, ← spvs_length M]
  rw [List.set_append_right _ _ (by omega)]
  simp [spvs, spv]

set_option maxHeartbeats 1000000 in
set_option maxRecDepth 100000 in
theorem cover_any (A : Option Addr) (n c : Nat) (L : List Cl) (w : World) (hr : Reads w w.heap.size 3 A n (cvs L)) (hn : n ≤ 16000) (hv : ∀ x ∈ L, vldB x.1 x.2.1 x.2.2 = true) :
    Calls Tryz.prog 117 #[.slice A n c] w (RetSpans w (coverL L)) := by
  have HL := Lib.hid hr.len
  have HR := Lib.hid hr
  have HV := Lib.hid hv
  clear hr hv
  obtain ⟨i0, hi0, hz0, hz1, hzb⟩ := info_parts Tryz.infoSpan
  go_enter Tryz.func117, Tryz.ntmps117
  go_wp2
  go_loopw [3, 12] (fun v i wr => ∃ k : Nat, k ≤ n ∧ i = .int .i64 k ∧ wr.ownsRow w.heap.size 194 2 v k (spvs ((L.take k).map spI)) ∧ Below w.heap.size w wr) (fun _ i _ => n - (intOf i).toNat)
  case atStart => exact ⟨0, Nat.zero_le _, rfl, own_nil _ _ _ _, Below.refl _ _⟩
  case round =>
    obtain ⟨k, hk, rfl, hown, hbr⟩ := hrel
    by_cases hlt : k < n
    · obtain ⟨b, off, rfl, hb, x1, x2, x3⟩ := HR.out.elem hlt
      have y1 := (hbr.cell (p := ⟨b, off + k * 3, none⟩) hb).trans x1
      have y2 := (hbr.cell (p := ⟨b, off + k * 3 + 1, none⟩) hb).trans x2
      have y3 := (hbr.cell (p := ⟨b, off + k * 3 + 2, none⟩) hb).trans x3
      clear x1 x2 x3
      have hms := Lib.hid (map_take_snoc L k (by rw [HL.out]; exact hlt))
      have hs := Lib.hid (fun W => spanOf_any (gt L k) W (HV.out _ (by have hkl : k < L.length := by rw [HL.out]; exact hlt
                                                                       simp [gt, hkl])))
      generalize gt L k = x at y1 y2 y3 hms hs
      obtain ⟨xl, xr, xc⟩ := x
      generalize spI (xl, xr, xc) = s at hms hs
      obtain ⟨sf, st⟩ := s
      simp only [] at y1 y2 y3 hms hs
      have hz := hbr.size
      go_wp2_with (first | (go_at_call 177; refine (hs.out _).mono ?_; rintro e w1 ⟨rfl, hb1⟩; have hw1 := one_lt hb1; have hbl1 := one_bl hb1; have hown1 := own_bl hown hbl1 (Nat.le_refl _)) | (at_builtin; (refine wpList_append_any _ rfl (.tmp 16) (.tmp 19) _ rfl w.heap.size 194 i0 _ 2 16 Tryz.underlying156 hi0 hz0 hz1 hzb rfl (by decide) u3 k (spvs ((L.take k).map spI)) rfl (hown1.alloc _) (w1.heap.size + 1) (some ⟨w1.heap.size, 0, none⟩) 1 1 (spv (sf, st)) rfl (sreads_new w1 _ _ _) (spv_one _) (by simp only [maxLen]; omega) (by omega) (by simp; omega) ?_); intro v2 w2 hown2 hg2 hat2))
      go_roundw
      case rel => exact ⟨k + 1, by omega, by go_num, by rw [hms.out]; exact hown2, ((hbr.trans (hbl1.mono hz)).alloc (by omega) _).grown hg2 (by simp; omega) (own_base hown)⟩
      case measure => simp [intOf]; omega
    · have hkn : k = n := by omega
      subst hkn
      rw [List.take_of_length_le (by rw [HL.out]; omega)] at hown
      have hlen : k = (L.map spI).length := by simp [HL.out]
      have hC : coverL L = mergeS (sortS (L.map spI)) := rfl
      generalize L.map spI = D at hown hlen hC
      subst hlen
      have HC := Lib.hid hC
      clear hC
      clear HR HV HL
      obtain ⟨A3, c3, hu3, -, -⟩ := own_form hown
      subst hu3
      have hS := Lib.hid (sortSpan_any w.heap.size _ D wr hown (by omega))
      have hz := hbr.size
      go_wp2_with (go_at_call 178; refine hS.out.mono ?_; rintro e w2 ⟨rfl, hown2, hg2⟩)
      have hb2 : Below w.heap.size w w2 := hbr.grown hg2 hz (own_base hown)
      have HS := Lib.hid (Reads.of_own hown2)
      have hl2 := sortS_length D
      clear hS hown hg2 hbr
      generalize sortS D = S at hown2 HS hl2 HC
      clear hown2
      go_loopw [6, 26] (fun v i wq => ∃ k : Nat, k ≤ D.length ∧ i = .int .i64 k ∧ wq.ownsRow w2.heap.size 194 2 v (mergeS (S.take k)).length (spvs (mergeS (S.take k))) ∧ Below w2.heap.size w2 wq) (fun _ i _ => D.length - (intOf i).toNat)
      case atStart => exact ⟨0, Nat.zero_le _, rfl, own_nil _ _ _ _, Below.refl _ _⟩
      case round =>
        obtain ⟨k, hk, rfl, hown, hbr⟩ := hrel
        have hz2 := hbr.size
        have hzz := hb2.size
        by_cases hlt : k < D.length
        · obtain ⟨b, off, rfl, hb, x1, x2⟩ := SReads.elem HS.out hlt
          have y1 := (hbr.cell (p := ⟨b, off + k * 2, none⟩) hb).trans x1
          have y2 := (hbr.cell (p := ⟨b, off + k * 2 + 1, none⟩) hb).trans x2
          clear x1 x2
          have hms := Lib.hid (mergeS_take S k (by omega))
          have hMl : (mergeS (S.take k)).length ≤ 16000 := by
            have h1 := mergeS_length (S.take k)
            have h2 : (S.take k).length ≤ k := List.length_take_le _ _
            omega
          generalize gs S k = s at y1 y2 hms
          obtain ⟨sf, st⟩ := s
          simp only [] at y1 y2
          generalize mergeS (S.take k) = M at hown hms hMl
          rcases snoc_cases M with rfl | ⟨M', t, rfl⟩
          · obtain ⟨A4, c4, hu4, -, -⟩ := own_form hown
            subst hu4
            simp only [List.length_nil] at hown hMl ⊢
            go_wp2
            go_quiet (fail)
            have hown5 : ((wr.alloc (.cells #[.int .i64 sf, .int .i64 st] 194)).drewN nq).ownsRow w2.heap.size 194 2 (.slice A4 0 c4) 0 [] := hown.alloc _
            have hsz5 : wr.heap.size < ((wr.alloc (.cells #[.int .i64 sf, .int .i64 st] 194)).drewN nq).heap.size := by simp
            have q51 : ((wr.alloc (.cells #[.int .i64 sf, .int .i64 st] 194)).drewN nq).cell? ⟨wr.heap.size, 0, none⟩ = some (.int .i64 sf) := by simp
            have q52 : ((wr.alloc (.cells #[.int .i64 sf, .int .i64 st] 194)).drewN nq).cell? ⟨wr.heap.size, 1, none⟩ = some (.int .i64 st) := by simp
            have hb5 : Below w2.heap.size w2 ((wr.alloc (.cells #[.int .i64 sf, .int .i64 st] 194)).drewN nq) := bl_drewN (hbr.alloc hz2 _) _
            generalize (wr.alloc (.cells #[.int .i64 sf, .int .i64 st] 194)).drewN nq = w5 at hown5 hsz5 q51 q52 hb5 ⊢
            go_wp2_with (at_builtin; (refine wpList_append_any _ rfl (.tmp 59) (.tmp 61) _ rfl w2.heap.size 194 i0 _ 2 16 Tryz.underlying156 hi0 hz0 hz1 hzb rfl (by decide) (.slice A4 0 c4) 0 [] rfl (hown5.alloc _) (w5.heap.size + 1) (some ⟨w5.heap.size, 0, none⟩) 1 1 (spv (sf, st)) rfl (sreads_new w5 _ _ _) (spv_one _) (by simp only [maxLen]; omega) (by omega) (by simp; omega) ?_); intro v2 w3 hown3 hg3 hat3)
            go_roundw
            case rel => exact ⟨k + 1, by omega, by go_num, by rw [hms.out, mrg_nil]; exact hown3, (hb5.alloc (by omega) _).grown hg3 (by simp; omega) (own_base hown5)⟩
            case measure => simp [intOf]; omega
          · obtain ⟨g, cap, hu4, hg, hgl⟩ := hown.form (by simp)
            subst hu4
            obtain ⟨tf, tt⟩ := t
            have hle : (M' ++ [(tf, tt)]).length = M'.length + 1 := by simp
            rw [hle] at hown hMl ⊢
            obtain ⟨p1, p2⟩ := spvs_last M' (tf, tt)
            obtain ⟨q1, q1'⟩ := own_cell hown _ _ p1
            obtain ⟨q2, q2'⟩ := own_cell hown _ _ p2
            simp only [] at q1 q2
            clear p1 p2
            have s1 : IntKind.i64.wrap ((M'.length : Int) + 1 - 1) = (M'.length : Int) := by rw [show (M'.length : Int) + 1 - 1 = (M'.length : Int) by omega]; exact IntWalk.i64_in _ (by omega)
            have s1' : IntKind.i64.wrap (M'.length : Int) = (M'.length : Int) := IntWalk.i64_in _ (by clear s1; omega)
            have s2 : (0 : Int) < (M'.length : Int) + 1 := by clear s1 s1'; omega
            have s3 : (M'.length : Int) < (M'.length : Int) + 1 := by clear s1 s1'; omega
            by_cases hst : sf ≤ tt
            · have hmi := Lib.hid (mrg_in M' (tf, tt) (sf, st) hst)
              go_wp2
              go_quiet (fail)
              have hown5 : ((wr.alloc (.cells #[.int .i64 sf, .int .i64 st] 194)).drewN nq).ownsRow w2.heap.size 194 2 (.slice (some ⟨g, 0, none⟩) (M'.length + 1) cap) (M'.length + 1) (spvs (M' ++ [(tf, tt)])) := hown.alloc _
              have hsz5 : wr.heap.size < ((wr.alloc (.cells #[.int .i64 sf, .int .i64 st] 194)).drewN nq).heap.size := by simp
              have q51 : ((wr.alloc (.cells #[.int .i64 sf, .int .i64 st] 194)).drewN nq).cell? ⟨wr.heap.size, 0, none⟩ = some (.int .i64 sf) := by simp
              have q52 : ((wr.alloc (.cells #[.int .i64 sf, .int .i64 st] 194)).drewN nq).cell? ⟨wr.heap.size, 1, none⟩ = some (.int .i64 st) := by simp
              have hb5 : Below w2.heap.size w2 ((wr.alloc (.cells #[.int .i64 sf, .int .i64 st] 194)).drewN nq) := bl_drewN (hbr.alloc hz2 _) _
              generalize (wr.alloc (.cells #[.int .i64 sf, .int .i64 st] 194)).drewN nq = w5 at hown5 hsz5 q51 q52 hb5 ⊢
              obtain ⟨p1, p2⟩ := spvs_last M' (tf, tt)
              obtain ⟨r1, r1'⟩ := own_cell hown5 _ _ p1
              obtain ⟨r2, r2'⟩ := own_cell hown5 _ _ p2
              simp only [] at r1 r2
              clear p1 p2 q1 q1' q2 q2'
              have hne : wr.heap.size ≠ g := by omega
              go_wp2
              refine wp_still_tail 14 (by kernel_rfl) (by kernel_rfl) ?_
              simp only [List.take_succ_cons, List.take_zero, List.drop_succ_cons, List.drop_zero]
              repeat still_step
              refine wpStill_nil ?_
              go_wp2
              go_roundw
              case rel =>
                have hset := own_set hown5 (M'.length * 2 + 1) (.int .i64 (max tt st)) (by omega)
                rw [spvs_set] at hset
                refine ⟨k + 1, by omega, by go_num, ?_, (hb5.setCell hg _).drew⟩
                rw [hms.out, hmi.out, List.length_append]
                exact hset
              case measure => simp [intOf]; omega
            · have hmo := Lib.hid (mrg_out M' (tf, tt) (sf, st) hst)
              have hd := decide_eq_false hst
              go_wp2
              go_quiet (fail)
              have hown5 : ((wr.alloc (.cells #[.int .i64 sf, .int .i64 st] 194)).drewN nq).ownsRow w2.heap.size 194 2 (.slice (some ⟨g, 0, none⟩) (M'.length + 1) cap) (M'.length + 1) (spvs (M' ++ [(tf, tt)])) := hown.alloc _
              have hsz5 : wr.heap.size < ((wr.alloc (.cells #[.int .i64 sf, .int .i64 st] 194)).drewN nq).heap.size := by simp
              have q51 : ((wr.alloc (.cells #[.int .i64 sf, .int .i64 st] 194)).drewN nq).cell? ⟨wr.heap.size, 0, none⟩ = some (.int .i64 sf) := by simp
              have q52 : ((wr.alloc (.cells #[.int .i64 sf, .int .i64 st] 194)).drewN nq).cell? ⟨wr.heap.size, 1, none⟩ = some (.int .i64 st) := by simp
              have hb5 : Below w2.heap.size w2 ((wr.alloc (.cells #[.int .i64 sf, .int .i64 st] 194)).drewN nq) := bl_drewN (hbr.alloc hz2 _) _
              generalize (wr.alloc (.cells #[.int .i64 sf, .int .i64 st] 194)).drewN nq = w5 at hown5 hsz5 q51 q52 hb5 ⊢
              clear q1 q1' q2 q2'
              go_wp2_with (at_builtin; (refine wpList_append_any _ rfl (.tmp 59) (.tmp 61) _ rfl w2.heap.size 194 i0 _ 2 16 Tryz.underlying156 hi0 hz0 hz1 hzb rfl (by decide) (.slice (some ⟨g, 0, none⟩) (M'.length + 1) cap) (M'.length + 1) (spvs (M' ++ [(tf, tt)])) rfl (hown5.alloc _) (w5.heap.size + 1) (some ⟨w5.heap.size, 0, none⟩) 1 1 (spv (sf, st)) rfl (sreads_new w5 _ _ _) (spv_one _) (by simp only [maxLen]; omega) (by omega) (by simp; omega) ?_); intro v2 w3 hown3 hg3 hat3)
              go_roundw
              case rel => exact ⟨k + 1, by omega, by go_num, by rw [hms.out, hmo.out]; rw [List.length_append, hle, spvs_append]; exact hown3, (hb5.alloc (by omega) _).grown hg3 (by simp; omega) (own_base hown5)⟩
              case measure => simp [intOf]; omega
        · have hkk : k = D.length := by omega
          rw [hkk, List.take_of_length_le (by omega)] at hown
          go_wp2
          go_ret
          exact ⟨_, rfl, by rw [HC.out]; exact own_mono hown hzz, hb2.trans (hbr.mono hzz)⟩
end Go.Proofs.YtifdgdgfmjfbdaaGreat
