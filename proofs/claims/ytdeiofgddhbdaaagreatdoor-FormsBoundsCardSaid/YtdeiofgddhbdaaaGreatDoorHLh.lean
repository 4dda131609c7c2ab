/- angle.Inside; the walk of the law FormsRounds. -/
import Derived.Test.YtdeiofgddhbdaaaGreatDoorHIt
set_option linter.unusedSimpArgs false
set_option linter.unusedVariables false
set_option maxHeartbeats 4000000
set_option maxRecDepth 100000
open Go.RowKit
open Go.Lib (hid)
open Go.Proofs.Tryz
open Go.Value renaming int→vi
open Go.IntKind renaming i64→vk
namespace Go.Proofs.YtdeiofgddhbdaaaGreatDoor
section
open Go.Shelf Frm
open Lib (decDigits)
theorem inside_yes(a b c d:Int)(w:World)(h1:a≤b)(h2:c≤a)(h3:b≤d)(h4: -1099511627776≤c)(h5:d≤1099511627776):
 Calls Tryz.prog 16 #[.agg #[vi vk a,vi vk b],.agg #[vi vk c,vi vk d]] w fun e w'=>e=.returned (.bool true)∧Below w.heap.size w w':=by
 have KA:=fun W=>aValid_any a b W;rw[avB_true.2 ⟨om_,h1,om_⟩] at KA;have KB:=fun W=>aValid_any c d W;rw[avB_true.2 ⟨h4,om_,h5⟩] at KB;replace KA:=hid KA
 replace KB:=hid KB
 have d1:decide (c≤a)=true:=decide_eq_true h2;have d2:decide (b≤d)=true:=decide_eq_true h3;have G0:=hid ((Blk.new w 33 #[vi vk a,vi vk b]).alloc (.cells #[vi vk c,vi vk d] 33));have G1:=hid (Blk.new (w.alloc (.cells #[vi vk a,vi vk b] 33)) 33 #[vi vk c,vi vk d]);have B0:=hid ((bl_alloc w (.cells #[vi vk a,vi vk b] 33)).alloc (by simp) (.cells #[vi vk c,vi vk d] 33));clear h1 h2 h3 h4 h5;go_enter func16,ntmps16;go_upto_region 1 with (fail)
 have hs:(w.alloc (.cells #[vi vk a,vi vk b] 33)).heap.size=w.heap.size+1:=by simp
 rw[hs] at G1;clear hs;generalize (w.alloc (.cells #[vi vk a,vi vk b] 33)).alloc (.cells #[vi vk c,vi vk d] 33)=w0 at G0 G1 B0⊢;have y0:=G0.out.cell 0;have y1:=G0.out.cell 1;go_wp2_with fail;(with_reducible refine(KA.out _).mono ?_)
 rintro e wa ⟨rfl,hba⟩
 have B1:=hid (B0.out.trans (hba.mono B0.out.size));have A1:=hid (G0.out.below hba G0.out.lt);have C1:=hid (G1.out.below hba G1.out.lt);clear hba KA G0 G1 B0 y0 y1;have y0:=C1.out.cell 0;have y1:=C1.out.cell 1;go_wp2_with fail;(with_reducible refine(KB.out _).mono ?_)
 rintro e wb ⟨rfl,hbb⟩
 have B2:=hid (B1.out.trans (hbb.mono B1.out.size));have A2:=A1.out.below hbb A1.out.lt;have C2:=C1.out.below hbb C1.out.lt;clear hbb KB A1 C1 B1 y0 y1;have y0:=A2.cell 0;have y1:=A2.cell 1;have u0:=C2.cell 0;have u1:=C2.cell 1;clear A2 C2;go_wp2;go_ret;exact⟨by simp,B2.out⟩
theorem formsRounds_any(k:Int)(lo hi:Int)(w:World)(hk:0≤k∧k≤255)(hm:Mx w)(ht:Tab w):
 Calls Tryz.prog 5 #[.int .u8 k,.agg #[vi vk lo,vi vk hi]] w fun e w'=>e=.returned (.bool true)∧Below w.heap.size w w':=by
 have KA:=hid (fun(W:World) (h:Below w.heap.size w W)=>awake55 W (hm.stays h) (ht.stays h (Nat.le_refl _)));have KV:=hid (fun W=>r5Valid_any lo hi W);have G0:=hid (Blk.new w 33 #[vi vk lo,vi vk hi]);have B0:=hid (bl_alloc w (.cells #[vi vk lo,vi vk hi] 33));by_cases hin:(-1099511627776≤lo∧lo≤hi∧hi≤1099511627776)∧ -1099511627676≤lo∧hi≤1099511627676
 case neg=>
  by_cases hv: -1099511627776≤lo∧lo≤hi∧hi≤1099511627776
  · replace KV:=KV.out
    rw[avB_true.2 hv] at KV;replace KV:=hid KV
    have hcase:decide (lo< -1099511627676)=true∨(decide (lo< -1099511627676)=false∧decide (1099511627676<hi)=true):=by
     by_cases h:lo< -1099511627676
     · exact .inl (decide_eq_true h)
     · exact .inr ⟨decide_eq_false h,decide_eq_true om_⟩
    clear hin hm ht hv;rcases hcase with d1|⟨d1,d2⟩
    all_goals (
     go_enter func5,ntmps5;go_upto_region 1 with (fail)
     generalize w.alloc (.cells #[vi vk lo,vi vk hi] 33)=w0 at G0 B0⊢;go_wp2_with fail;(with_reducible refine(KA.out _ B0.out).mono ?_)
     rintro e1 w1 ⟨rfl,hb1⟩
     have B1:=hid (B0.out.trans (hb1.mono B0.out.size));have G1:=hid (G0.out.below hb1 G0.out.lt);clear hb1 KA G0 B0;have y0:=G1.out.cell 0;have y1:=G1.out.cell 1;go_wp2_with fail;(with_reducible refine(KV.out _).mono ?_)
     rintro e2 w2 ⟨rfl,hb2⟩
     have B2:=hid (B1.out.trans (hb2.mono B1.out.size));have G2:=hid (G1.out.below hb2 G1.out.lt);clear hb2 KV G1 B1 y0 y1;have y0:=G2.out.cell 0;have y1:=G2.out.cell 1;go_wp2;go_ret;exact⟨rfl,B2.out⟩)
  · have hf:avB lo hi=false:=by
     cases h:avB lo hi with
     |false=>rfl
     |true=>exact absurd (avB_true.1 h) hv
    replace KV:=KV.out
    rw[hf] at KV;replace KV:=hid KV
    clear hin hm ht hv hf;go_enter func5,ntmps5;go_upto_region 1 with (fail)
    generalize w.alloc (.cells #[vi vk lo,vi vk hi] 33)=w0 at G0 B0⊢;go_wp2_with fail;(with_reducible refine(KA.out _ B0.out).mono ?_)
    rintro e1 w1 ⟨rfl,hb1⟩
    have B1:=hid (B0.out.trans (hb1.mono B0.out.size));have G1:=hid (G0.out.below hb1 G0.out.lt);clear hb1 KA G0 B0;have y0:=G1.out.cell 0;have y1:=G1.out.cell 1;go_wp2_with fail;(with_reducible refine(KV.out _).mono ?_)
    rintro e2 w2 ⟨rfl,hb2⟩
    go_wp2;go_ret;exact⟨rfl,B1.out.trans (hb2.mono B1.out.size)⟩
 case pos=>
 obtain⟨⟨q1,q2,q3⟩,q4,q5⟩:=hin;have hv:avB lo hi=true:=avB_true.2 ⟨q1,q2,q3⟩;replace KV:=KV.out
 rw[hv] at KV;replace KV:=hid KV
 have d1:decide (lo< -1099511627676)=false:=decide_eq_false om_;have d2:decide (1099511627676<hi)=false:=decide_eq_false om_;obtain⟨j,hj⟩: ∃j:Nat,k.tmod 17=(j:Int):=by
  rw[Int.tmod_eq_emod_of_nonneg hk.1];exact⟨(k%17).toNat,om_⟩
 have j17:j<17:=by
  rw[Int.tmod_eq_emod_of_nonneg hk.1] at hj;omega
 have n1:=rnd_near lo;have n2:=rnd_near hi;have hle:rnd lo≤rnd hi:=by unfold rnd;omega
 have KP:=fun(W:World) (h:Below w.heap.size w W)=>aprint_any lo hi W q2 q1 q3 (ht.stays h (Nat.le_refl _));have KQ:=fun(W:World) (h:Below w.heap.size w W)=>aprint_any (rnd lo-50) (rnd hi+49) W om_ om_ om_ (ht.stays h (Nat.le_refl _));rw[print_read] at KQ;have hpo:=print_ok (lo:=lo) (hi:=hi) q4 q5;have hpl:=print_len q2 q1 q3;have hlm:labL.getD j []∈labL:=by
  have hjl:j<labL.length:=j17;simp only[List.getD,List.getElem?_eq_getElem hjl,Option.getD_some];exact List.getElem_mem hjl
 have hll: ∀l∈labL,l.length≤20:=by decide
 have hl20:=hll _ hlm;have hrp:=read_print hlm q2 om_ om_;have KR:=fun(W:World) (h:Below w.heap.size w W)=>read_any (labL.getD j []++32::(printL lo hi).1) W (by rw[List.length_append,List.length_cons];omega) (hm.stays h) (ht.stays h (Nat.le_refl _));rw[hrp] at KR;have hcell: ∀(W:World) (b:Nat),LabIn W b→W.cell? ⟨b,j,none⟩=some (tx (labL.getD j [])):=fun W b h=>h.2 j j17;have hcell2:=hid hcell;rw[hpo] at KP KQ;generalize labL.getD j []=lab at*;generalize (printL lo hi).1=s at*;have KI:=hid (fun W=>inside_yes lo hi (rnd lo-50) (rnd hi+49) W q2 om_ om_ om_ om_);obtain⟨x,hx⟩: ∃x,rnd lo-50=x:=⟨_,rfl⟩;obtain⟨y,hy⟩: ∃y,rnd hi+49=y:=⟨_,rfl⟩;rw[hx,hy] at KR KQ KI;have d3:decide (x<lo-99)=false:=decide_eq_false om_;have d4:decide (hi+99<y)=false:=decide_eq_false om_;have w1:wrap64 (lo-99)=lo-99:=IntWalk.wrap64_in _ om_;have w2:wrap64 (hi+99)=hi+99:=IntWalk.wrap64_in _ om_;have a1:=tx_add lab [32] om_ (by simp);have a2:=tx_add (lab++[32]) s (by simp;omega) om_;rw[show lab++[32]++s=lab++32::s by simp] at a2;generalize lab++32::s=line at*;generalize lab++[32]=X1 at a1 a2;have sz:=tx_size s;obtain⟨ns,hns⟩: ∃ns,s.length=ns:=⟨_,rfl⟩;rw[hns] at sz hpl;have d5:decide ((100:Int)<(ns:Int))=false:=decide_eq_false om_;have d6:decide (100<ns)=false:=decide_eq_false om_;have d7: ¬100<ns:=by omega
 have KL:=hid (fun W=>rlabels_any W);replace KP:=hid KP
 replace KQ:=hid KQ
 replace KR:=hid KR
 clear hpo hrp hll hlm hl20 n1 n2 hle hx hy hns hpl hv q1 q3 q4 q5 hcell hm ht;go_enter func5,ntmps5;go_upto_region 1 with (fail)
 generalize w.alloc (.cells #[vi vk lo,vi vk hi] 33)=w0 at G0 B0⊢;go_wp2_with fail;(with_reducible refine(KA.out _ B0.out).mono ?_)
 rintro e1 w1 ⟨rfl,hb1⟩
 have B1:=hid (B0.out.trans (hb1.mono B0.out.size));have G1:=hid (G0.out.below hb1 G0.out.lt);clear hb1 KA G0 B0;have y0:=G1.out.cell 0;have y1:=G1.out.cell 1;go_wp2_with fail;(with_reducible refine(KV.out _).mono ?_)
 rintro e2 w2 ⟨rfl,hb2⟩
 have B2:=hid (B1.out.trans (hb2.mono B1.out.size));have G2:=hid (G1.out.below hb2 G1.out.lt);clear hb2 KV G1 B1 y0 y1;have y0:=G2.out.cell 0;have y1:=G2.out.cell 1;go_wp2_with fail;(with_reducible refine(KL.out _).mono ?_)
 rintro e3 w3 ⟨rfl,hL,hb3⟩
 have hc:=hcell2.out w3 w2.heap.size hL;have B3:=hid (B2.out.trans (hb3.mono B2.out.size));have G3:=hid (G2.out.below hb3 G2.out.lt);clear hb3 KL G2 B2 y0 y1 hL hcell2;have y0:=G3.out.cell 0;have y1:=G3.out.cell 1;have KP3:=hid (KP.out _ B3.out);clear KP;go_wp2_with fail;(with_reducible refine(KP3.out).mono ?_)
 rintro e4 w4 ⟨rfl,hb4⟩
 have B4:=hid (B3.out.trans (hb4.mono B3.out.size));have G4:=hid (G3.out.below hb4 G3.out.lt);clear hb4 KP3 G3 B3 y0 y1 hc;have KR4:=hid (KR.out _ B4.out);clear KR;go_wp2_with fail;(with_reducible refine(KR4.out).mono ?_)
 rintro e5 w5 ⟨rfl,hb5⟩
 have G5:=hid ((G4.out.below hb5 G4.out.lt).alloc (.cells #[vi vk x,vi vk y] 33));have A5:=hid (Blk.new w5 33 #[vi vk x,vi vk y]);have B5:=hid ((B4.out.trans (hb5.mono B4.out.size)).alloc (by have:=B4.out.size;have:=hb5.size;omega) (.cells #[vi vk x,vi vk y] 33));clear hb5 KR4 G4 B4;go_upto_region 11 with (fail)
 generalize w5.alloc (.cells #[vi vk x,vi vk y] 33)=w6 at G5 A5 B5⊢;generalize w5.heap.size=g5 at*;have y0:=G5.out.cell 0;have y1:=G5.out.cell 1;have u0:=A5.out.cell 0;have u1:=A5.out.cell 1;go_wp2_with fail;(with_reducible refine(KI.out _).mono ?_)
 rintro e7 w7 ⟨rfl,hb7⟩
 have G7:=hid (G5.out.below hb7 G5.out.lt);have A7:=hid (A5.out.below hb7 A5.out.lt);have B7:=hid (B5.out.trans (hb7.mono B5.out.size));clear hb7 KI G5 A5 B5 y0 y1 u0 u1;have y0:=G7.out.cell 0;have y1:=G7.out.cell 1;have u0:=A7.out.cell 0;have u1:=A7.out.cell 1;have KQ7:=hid (KQ.out _ B7.out);clear KQ;go_wp2_with fail;(with_reducible refine(KQ7.out).mono ?_)
 rintro e8 w8 ⟨rfl,hb8⟩
 go_wp2;go_ret;exact⟨by simp,B7.out.trans (hb8.mono B7.out.size)⟩
end
end Go.Proofs.YtdeiofgddhbdaaaGreatDoor
