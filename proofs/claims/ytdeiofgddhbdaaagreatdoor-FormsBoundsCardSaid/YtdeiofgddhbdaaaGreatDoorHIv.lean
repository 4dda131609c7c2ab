/- The reference's find, Parse, tenths, Read. -/
import Derived.Test.YtdeiofgddhbdaaaGreatDoorHIw
import Derived.Test.YtdeiofgddhbdaaaGreatDoorHRl
import Derived.Test.YtdeiofgddhbdaaaGreatDoorHAp
set_option linter.unusedSimpArgs false
set_option linter.unusedVariables false
set_option maxHeartbeats 4000000
set_option maxRecDepth 100000
open Go.RowKit
open Go.Lib (hid)
open Go.Proofs.Tryz
open Go.Value renaming int→vi
open Go.IntKind renaming i64→vk
namespace Go.Proofs.YtdeiofgddhbdaaaGreatDoor
section
open Go.Shelf Frm
open Lib (decDigits)
theorem rad_bd(D:List Bx)(p:Int×Int): ∀k,k≤D.length→0≤(radF D p k).1∧(radF D p k).1≤10800000∧0≤(radF D p k).2∧(radF D p k).2≤10800000:=by
 intro k;induction k with
 |zero=>intro _;rw[radF_zero];decide
 |succ k ih=>
  intro h;have h1:=ih om_;have h2:=dst_bd (gb D k) p;rw[radF_succ D p k om_];simp only[];omega
theorem parts_le(L:List Cl):(partsL L).length≤L.length:=by
 unfold partsL partsI;rw[List.length_map,PQ.prtI_length];unfold PQ.rnk;exact Nat.le_trans (List.length_filter_le _ _) (by simp)
noncomputable def fixLs (L:List Cl):List Bs:=fixN L.length (partsL L).length (bndV L).1 (bndV L).2.1 (bndV L).2.2.1 (bndV L).2.2.2 (cenV L).1 (cenV L).2 (radF (L.map bxI) (cenV L) L.length).1 (radF (L.map bxI) (cenV L) L.length).2
theorem fix_bds{L:List Cl}(hv:vrB L=true)(h0:0<L.length):
 ((bndV L).1≤(bndV L).2.1∧(bndV L).2.2.1≤(bndV L).2.2.2∧(radF (L.map bxI) (cenV L) L.length).1≤(radF (L.map bxI) (cenV L) L.length).2∧ -90000000≤(bndV L).1∧ -90000000≤(bndV L).2.2.1∧ -90000000≤(radF (L.map bxI) (cenV L) L.length).1∧(bndV L).2.1≤90000000∧(bndV L).2.2.2≤90000000∧(radF (L.map bxI) (cenV L) L.length).2≤90000000)∧
 vptB (cenV L).1 (cenV L).2=true∧okP (cenV L)=true∧(-10800000≤(cenV L).1∧(cenV L).1≤10800000)∧(-10800000≤(cenV L).2∧(cenV L).2≤10800000):=by
 obtain⟨-,hV,-⟩:=(vrB_iff L).1 hv;have hb:=bnd_bd hV h0;have hp:=bnd_vp hV h0;have hc:=(cen_in hV h0).1;have ho:okP (cenV L)=true:=hc;have hr:=rad_bd (L.map bxI) (cenV L) L.length (by rw[List.length_map];exact Nat.le_refl _);have hl:=(rad_le (L.map bxI) (cenV L) L.length (by rw[List.length_map];exact Nat.le_refl _)).1;have hk:=okP_iff.1 ho;have hlat:(bndV L).1≤(bndV L).2.1:=hp.l1;exact⟨⟨hlat,hb.2.2.2.2.2.2.1,hl,om_,om_,om_,om_,om_,om_⟩,hc,ho,om_,om_⟩
theorem fFix_yes(A:Option Addr)(n c:Nat)(L:List Cl)(w:World)(hr:Reads w w.heap.size 3 A n (cvs L))(hn:n≤maxLen)(hv:vrB L=true)(h0:0<n)(ht:Tab w):
 Calls Tryz.prog 8 #[.slice A n c] w (RetLs (fixLs L) w):=by
 have RD: ∀W,Below w.heap.size w W→Reads W W.heap.size 3 A n (cvs L):=fun W hW=>(hr.below hW).more hW.size;have hll:L.length=n:=hr.len;obtain⟨b1,b2,b3,b4,b5⟩:=fix_bds hv om_;have hfew:n≤4000:=by rw[←hll];exact((vrB_iff L).1 hv).1
 have hpl:=parts_le L;unfold fixLs;rw[hll] at b1 hpl⊢;exact fFix_num A n c _ _ _ _ _ _ _ _ _ w hfew om_ ht (fun W hW=>fBounds_yes A n c L W (RD W hW) hn hv h0)
  (fun W hW=>by
    have h:=Parts_any A n c L W (RD W hW) hn;rw[hv] at h;simp only[if_true] at h;refine h.mono fun e w' ⟨v,vs,he,hR,hB⟩=>⟨?_,hB⟩;obtain⟨Q,cq,hq,-,-,-⟩:=own_form hR.row;exact⟨Q,cq,by rw[he,hq]⟩)
  (fun W hW=>fCenter_yes A n c L W (RD W hW) hn hv h0)
  (fun W hW=>Radius_yes A n c L (cenV L).1 (cenV L).2 W (RD W hW) hn hv b3 h0) b1 b2 b4 b5
theorem rFix_yes(A:Option Addr)(n c:Nat)(L:List Cl)(w:World)(hr:Reads w w.heap.size 3 A n (cvs L))(hn:n≤c)(hc:c≤maxLen)(hv:vrB L=true)(h0:0<n):
 Calls Tryz.prog 9 #[.slice A n c] w (RetLs (fixLs L) w):=by
 have RD: ∀W,Below w.heap.size w W→Reads W W.heap.size 3 A n (cvs L):=fun W hW=>(hr.below hW).more hW.size;have hll:L.length=n:=hr.len;have hnm:n≤maxLen:=Nat.le_trans hn hc;obtain⟨b1,b2,b3,b4,b5⟩:=fix_bds hv om_;obtain⟨hfew',hV,-⟩:=(vrB_iff L).1 hv;have hfew:n≤4000:=by rw[←hll];exact hfew'
 have hpl:=parts_le L;unfold fixLs;rw[hll] at b1 hpl⊢;exact rFix_num A n c _ _ _ _ _ _ _ _ _ w hfew h0 om_ (fun W hW=>by have h:=refVR_any A n c L W (RD W hW) hn hc;rw[rvrB_eq,hv] at h;exact h) (fun W hW=>rBounds_any A n c L W (RD W hW) hv h0)
  (fun W hW=>by
    refine(refParts_any A n c L W (RD W hW) hfew hV).mono fun e w' ⟨v,vs,he,hR,hB⟩=>⟨?_,hB⟩;obtain⟨Q,cq,hq,-,-,-⟩:=own_form hR.row;exact⟨Q,cq,by rw[he,hq]⟩)
  (fun W hW=>rCenter_any A n c L W (RD W hW) hv h0)
  (fun W hW=>rRadius_any A n c L (cenV L).1 (cenV L).2 W (RD W hW) hnm hv b3 h0) b1 b4 b5
theorem fFix_no(A:Option Addr)(n c:Nat)(L:List Cl)(E:Int)(w:World)(hr:Reads w w.heap.size 3 A n (cvs L))(hn:n≤maxLen)(hE:(vrB L=false∧E=1)∨(vrB L=true∧n=0∧E=14)):
 Calls Tryz.prog 8 #[.slice A n c] w fun e w'=>e=.returned (.tuple #[.slice none 0 0,vi vk E])∧Below w.heap.size w w':=by
 have KB:=hid (fBounds_no A n c L E w hr hn hE);have hne:(E != 0)=true:=by rcases hE with ⟨_,rfl⟩|⟨_,_,rfl⟩<;>rfl
 have hne2: ¬E=0:=by rcases hE with ⟨_,rfl⟩|⟨_,_,rfl⟩<;>decide
 clear hr hE;go_enter func8,ntmps8;go_wp2_with fail;(with_reducible refine(KB.out).mono ?_)
 rintro e1 w1 ⟨rfl,hb1⟩
 go_wp2;go_ret2
 exact⟨rfl,hb1.alloc hb1.size _⟩
theorem rFix_no(A:Option Addr)(n c:Nat)(L:List Cl)(E:Int)(w:World)(hr:Reads w w.heap.size 3 A n (cvs L))(hn:n≤c)(hc:c≤maxLen)(hE:(vrB L=false∧E=1)∨(vrB L=true∧n=0∧E=14)):
 Calls Tryz.prog 9 #[.slice A n c] w fun e w'=>e=.returned (.tuple #[.slice none 0 0,vi vk E])∧Below w.heap.size w w':=by
 have KV:=refVR_any A n c L w hr hn hc;rw[rvrB_eq] at KV;rcases hE with ⟨h,rfl⟩|⟨h,rfl,rfl⟩
 · rw[h] at KV
   replace KV:=hid KV
   clear hr h;go_enter func9,ntmps9;go_wp2_with fail;(with_reducible refine(KV.out).mono ?_)
   rintro e1 w1 ⟨rfl,hb1⟩
   go_wp2;go_ret2
   exact⟨rfl,hb1⟩
 · rw[h] at KV
   replace KV:=hid KV
   clear hr h;go_enter func9,ntmps9;go_wp2_with fail;(with_reducible refine(KV.out).mono ?_)
   rintro e1 w1 ⟨rfl,hb1⟩
   go_wp2;go_ret2
   exact⟨rfl,hb1⟩
end
section
open Go.Shelf Frm
open Lib (decDigits)
theorem dd_2{n:Nat}(h0: ¬n<10)(h1:n/10<10):decDigits n=[dB (n/10),dB (n%10)]:=by rw[dd_big h0,dd_small h1];rfl
theorem ex_t1:textL 2483400=[52,49,45,50,51,46,52]:=by
 show decDigits 41++45::(dgs 23 2++46::decDigits 4)=_
 rw[dgs_pad dc_,dd_2 (n:=41) dc_ dc_,dd_2 (n:=23) dc_ dc_,dd_small (n:=4) dc_];rfl
theorem ex_t2:textL (-1200)=[45,48,45,48,49,46,50]:=by
 show[45]++(decDigits 0++45::(dgs 1 2++46::decDigits 2))=_
 rw[dgs_pad dc_,dd_small (n:=0) dc_,dd_small (n:=1) dc_,dd_small (n:=2) dc_];rfl
theorem ex_t3:textL 300=[48,45,48,48,46,51]:=by
 show decDigits 0++45::(dgs 0 2++46::decDigits 3)=_
 rw[dgs_pad dc_,dd_small (n:=0) dc_,dd_small (n:=3) dc_];rfl
theorem ex_t4:textL 0=[48,45,48,48,46,48]:=by
 show decDigits 0++45::(dgs 0 2++46::decDigits 0)=_
 rw[dgs_pad dc_,dd_small (n:=0) dc_];rfl
theorem ex_t5:textL 5400000=[57,48,45,48,48,46,48]:=by
 show decDigits 90++45::(dgs 0 2++46::decDigits 0)=_
 rw[dgs_pad dc_,dd_2 (n:=90) dc_ dc_,dd_small (n:=0) dc_];rfl
abbrev lnObs:Bs:=[111,98,115,101,114,118,101,100,32,52,49,45,50,51,46,52]
abbrev lnInt:Bs:=[105,110,116,101,114,99,101,112,116,32,45,48,45,48,49,46,50,32,46,46,32,48,45,48,48,46,51]
abbrev wObs:Bs:=[111,98,115,101,114,118,101,100]
abbrev wInt:Bs:=[105,110,116,101,114,99,101,112,116]
theorem pr_one{lo hi:Int}(h:rnd lo=rnd hi)(h1: -1099511627676≤lo)(h2:hi≤1099511627676):(printL lo hi).1=textL (rnd lo):=by
 have n1:=rnd_near lo;have n2:=rnd_near hi;unfold printL;rw[if_neg om_,if_pos h]
theorem pr_two{lo hi:Int}(h:rnd lo≠rnd hi)(h1: -1099511627676≤lo)(h2:hi≤1099511627676):(printL lo hi).1=textL (rnd lo)++[32,46,46,32]++textL (rnd hi):=by
 have n1:=rnd_near lo;have n2:=rnd_near hi;unfold printL;rw[if_neg om_,if_neg h]
theorem ex_r1:readP lnObs=(wObs,(2483350,2483449),0):=by
 have h:=read_print (l:=wObs) dc_ (lo:=2483400) (hi:=2483400) dc_ dc_ dc_;rw[pr_one rfl dc_ dc_,show rnd 2483400=2483400 from by decide,ex_t1] at h;exact h
theorem ex_r2:readP lnInt=(wInt,(-1250,349),0):=by
 have h:=read_print (l:=wInt) dc_ (lo:= -1200) (hi:=300) dc_ dc_ dc_;rw[pr_two dc_ dc_ dc_,show rnd (-1200)= -1200 from by decide,show rnd 300=300 from by decide,ex_t2,ex_t3] at h;exact h
def c55:List Cl:=[(1,1,2)]
theorem c55_av:AllV c55:=fun x hx=>by
 simp only[c55,List.mem_cons,List.not_mem_nil,or_false] at hx;subst hx;rw[←vl_iff];decide+kernel
theorem c55_vr:vrB c55=true:=by
 rw[vrB_iff];refine⟨dc_,c55_av,(td_iff c55_av).1 ⟨c55_av,?_,?_⟩⟩
 · simp[c55]
 · intro h n pre suf e
   have:=congrArg List.length e;simp[Canon.kidsB,c55] at this;omega
theorem c55_lat:(bndV c55).1=0∧(bndV c55).2.1=5400000:=by
 have h:latF (c55.map bxI) 1=(0,5400000):=by decide+kernel
 unfold bndV;simp only[];rw[show c55.length=1 from rfl,h];exact⟨rfl,rfl⟩
theorem c55_parts:(partsL c55).length=1:=by decide+kernel
theorem ex_fix:(fixLs c55).take 3=[wCells++[32,49],wParts++[32,49],wLat++[32,48,45,48,48,46,48,32,46,46,32,57,48,45,48,48,46,48]]∧(fixLs c55).length=6:=by
 unfold fixLs fixN;rw[c55_parts,c55_lat.1,c55_lat.2,show c55.length=1 from rfl,dd_small (n:=1) dc_,pr_two dc_ dc_ dc_,show rnd 0=0 from by decide,show rnd 5400000=5400000 from by decide,ex_t4,ex_t5];exact⟨rfl,rfl⟩
theorem eqZ_any(g1 g2 c1 c2 n:Nat)(Z:List Bs)(w:World)(hz:n≤1000)(hn:Z.length=n)(h1: ∀j z,Z[j]? =some z→w.cell? ⟨g1,j,none⟩=some (tx z))(h2: ∀j z,Z[j]? =some z→w.cell? ⟨g2,j,none⟩=some (tx z)):
 Calls Tryz.prog 10 #[.slice (some ⟨g1,0,none⟩) n c1,.slice (some ⟨g2,0,none⟩) n c2] w fun e w'=>e=.returned (.bool true)∧Below w.heap.size w w':=by
 subst hn;refine(Any.slices_Equal_string Tryz.lays193 g1 0 Z.length c1 g2 0 Z.length c2 (Z.map fun l=>⟨l.toArray⟩) (Z.map fun l=>⟨l.toArray⟩) w (by simp) (by simp) om_ om_ (fun j hj=>?_) (fun j hj=>?_)).mono fun e w' ⟨he,q,hq⟩=>⟨by rw[he];simp,by rw[hq];exact bl_drewN (Below.refl _ _) q⟩
 · have hj':j<Z.length:=by simpa using hj
   rw[Nat.zero_add,h1 j _ (List.getElem?_eq_getElem hj')];simp[List.getD,hj']
 · have hj':j<Z.length:=by simpa using hj
   rw[Nat.zero_add,h2 j _ (List.getElem?_eq_getElem hj')];simp[List.getD,hj']
theorem eqNil_any(w:World):Calls Tryz.prog 10 #[.slice none 0 0,.slice none 0 0] w fun e w'=>e=.returned (.bool true)∧Below w.heap.size w w':=
 (Any.slices_Equal_string_empty Tryz.lays193 none none 0 0 0 w om_).mono fun _ _ ⟨he,hq⟩=>⟨by rw[he];rfl,hq▸Below.refl _ _⟩
end
section
open Go.Shelf Frm
open Lib (decDigits)
theorem awake55(w:World)(hm:Mx w)(ht:Tab w):Calls Tryz.prog 7 #[] w fun e w'=>e=.returned (.bool true)∧Below w.heap.size w w':=by
 have hq:=eqlArc;have k1:aeq 2483350 2483449 2483350 2483449=true:=by decide
 have k2:aeq (-1250) 349 (-1250) 349=true:=by decide
 have K1:=fun(W:World) (h:Below w.heap.size w W)=>read_any lnObs W dc_ (hm.stays h) (ht.stays h (Nat.le_refl _));have K2:=fun(W:World) (h:Below w.heap.size w W)=>read_any lnInt W dc_ (hm.stays h) (ht.stays h (Nat.le_refl _));rw[ex_r1] at K1;rw[ex_r2] at K2;replace K1:=hid K1
 replace K2:=hid K2
 have KF:=hid (fun(b:Nat) (W:World) (hr:Reads W W.heap.size 3 (some ⟨b,0,none⟩) 1 (cvs c55)) (h:Below w.heap.size w W)=>fFix_yes (some ⟨b,0,none⟩) 1 1 c55 W hr dc_ c55_vr dc_ (ht.stays h (Nat.le_refl _)));clear ht hm;go_enter func7,ntmps7;go_wp2_with fail;(with_reducible refine(K1.out _ (Below.refl _ _)).mono ?_)
 rintro e1 w1 ⟨rfl,hb1⟩
 have A1:=hid (Blk.new w1 33 #[vi vk 2483350,vi vk 2483449]);have B1:=hid (hb1.alloc hb1.size (.cells #[vi vk 2483350,vi vk 2483449] 33));clear hb1 K1;go_wp2_with fail;(with_reducible refine(K2.out _ B1.out).mono ?_)
 rintro e2 w2 ⟨rfl,hb2⟩
 have A2:=hid ((A1.out.below hb2 A1.out.lt).alloc (.cells #[vi vk (-1250),vi vk 349] 33));have C2:=hid (Blk.new w2 33 #[vi vk (-1250),vi vk 349]);have B2:=hid ((B1.out.trans (hb2.mono B1.out.size)).alloc (by have:=B1.out.size;have:=hb2.size;omega) (.cells #[vi vk (-1250),vi vk 349] 33));clear hb2 K2 B1 A1;generalize w1.heap.size=g1 at*;go_upto_region 3 with (fail)
 generalize w2.alloc (.cells #[vi vk (-1250),vi vk 349] 33)=w3 at A2 C2 B2⊢;generalize w2.heap.size=g2 at*;have A3:=hid (A2.out.alloc (.cells #[vi vk 1,vi vk 1,vi vk 2] 58));have C3:=hid (C2.out.alloc (.cells #[vi vk 1,vi vk 1,vi vk 2] 58));have B3:=hid (B2.out.alloc B2.out.size (.cells #[vi vk 1,vi vk 1,vi vk 2] 58));have R3:=hid (reads_new w3 1 1 2 58);clear A2 C2 B2;have K4:=hid (KF.out w3.heap.size (w3.alloc (.cells #[vi vk 1,vi vk 1,vi vk 2] 58)) (by have:=R3.out;simpa [cvs,cv,c55] using this) B3.out);clear KF R3;go_wp2_with fail;(with_reducible refine(K4.out).mono ?_)
 rintro e4 w4 ⟨sv,rfl,hown,hb4⟩
 rw[ex_fix.2] at hown;obtain⟨g4,c4,rfl,-,hg4⟩:=own_some hown dc_;have hc6:6≤c4:=by
  obtain⟨A,c,hsv,-,hc,-⟩:=own_form hown;injection hsv with _ _ h
  omega
 have hz3:=ex_fix.1;obtain⟨Z,hZ⟩: ∃Z,fixLs c55=Z:=⟨_,rfl⟩;rw[hZ] at hown hz3;have hcell: ∀j z,(Z.take 3)[j]? =some z→w4.cell? ⟨g4,j,none⟩=some (tx z):=fun j z h=>by
  refine(own_cell hown j (tx z) ?_).1;have h3:j<3:=by
   have:=(List.getElem?_eq_some_iff.1 h).1;rw[List.length_take] at this;omega
  rw[List.getElem?_take_of_lt h3] at h;unfold txs;rw[List.getElem?_map,h];rfl
 rw[hz3] at hcell;have b4:g4<w4.heap.size:=hg4;have KE:=hid (eqZ_any g4 w4.heap.size c4 3 3 [wCells++[32,49],wParts++[32,49],wLat++[32,48,45,48,48,46,48,32,46,46,32,57,48,45,48,48,46,48]]
  (w4.alloc (.cells #[tx [99,101,108,108,115,32,49],tx [112,97,114,116,115,32,49],tx [108,97,116,105,116,117,100,101,32,48,45,48,48,46,48,32,46,46,32,57,48,45,48,48,46,48]] 9)) dc_ rfl
  (fun j z h=>(World.cell?_alloc_lt w4 _ ⟨g4,j,none⟩ b4).trans (hcell j z h))
  (fun j z h=>by
    match j,h with
    |0,h=>simp at h;subst h;simp
    |1,h=>simp at h;subst h;simp
    |2,h=>simp at h;subst h;simp
    |j+3,h=>simp at h))
 have hb4':=hb4.size;have y0:=(A3.out.below hb4 A3.out.lt).cell 0;have y1:=(A3.out.below hb4 A3.out.lt).cell 1;have u0:=(C3.out.below hb4 C3.out.lt).cell 0;have u1:=(C3.out.below hb4 C3.out.lt).cell 1;have B4:=hid ((B3.out.trans (hb4.mono B3.out.size)).alloc (by have:=B3.out.size;omega) (.cells #[tx [99,101,108,108,115,32,49],tx [112,97,114,116,115,32,49],tx [108,97,116,105,116,117,100,101,32,48,45,48,48,46,48,32,46,46,32,57,48,45,48,48,46,48]] 9));clear hown hz3 hZ hcell hg4 A3 C3 B3 hb4 hb4' K4;go_wp2_with fail;(with_reducible refine(KE.out).mono ?_)
 rintro e5 w5 ⟨rfl,hb5⟩
 go_wp2;go_ret;exact⟨rfl,B4.out.trans (hb5.mono B4.out.size)⟩
end
section
open Go.Shelf Frm
open Lib (decDigits)
theorem ext_tx(s:Bs)(i j:Nat):(⟨s.toArray⟩:ByteArray).extract i j=⟨((s.drop i).take (j-i)).toArray⟩:=by
 apply ByteArray.ext;rw[ByteArray.data_extract];simp
theorem occ_take{s x:Bs}{k:Nat}:Lib.occAt s x k=((s.drop k).take x.length==x):=by
 unfold Lib.occAt;rw[Bool.eq_iff_iff,List.isPrefixOf_iff_prefix,List.prefix_iff_eq_take,beq_iff_eq];exact eq_comm
theorem occ_far{s x:Bs}{k:Nat}(h:s.length<k+x.length)(hx:0<x.length):Lib.occAt s x k=false:=by
 rw[occ_take];apply beq_eq_false_iff_ne.2;intro he;have:=congrArg List.length he;rw[List.length_take,List.length_drop] at this;omega
theorem rfind_any(s x:Bs)(w:World)(hs:s.length≤1000)(hx:x.length≤1000)(hx0:0<x.length):
 Calls Tryz.prog 40 #[tx s,tx x] w fun e w'=>e=.returned (vi vk (Lib.index s x))∧Below w.heap.size w w':=by
 have ss:=tx_size s;have sx:=tx_size x;have hsl:=hid (fun(k:Nat)=>ext_tx s k (k+x.length));obtain⟨n,hn⟩: ∃n,s.length=n:=⟨_,rfl⟩;obtain⟨m,hm⟩: ∃m,x.length=m:=⟨_,rfl⟩;have hfar: ∀j,n<j+m→Lib.occAt s x j=false:=fun j h=>occ_far om_ hx0;have hocc: ∀k,Lib.occAt s x k=((s.drop k).take m==x):=fun k=>by rw[occ_take,hm]
 have hnone:(∀j,j≤n→Lib.occAt s x j=false)→Lib.index s x= -1:=fun h=>Lib.index_none (by rw[hn];exact h);have hone: ∀k,k≤n→Lib.occAt s x k=true→(∀j,j<k→Lib.occAt s x j=false)→Lib.index s x=k:=fun k h h1 h2=>Lib.index_first (by rw[hn];exact h) h1 h2;rw[hm] at hsl;rw[hn] at ss hs;rw[hm] at sx hx hx0;clear hn hm;obtain⟨res,hres⟩: ∃r,Lib.index s x=r:=⟨_,rfl⟩;rw[hres] at hnone hone⊢;clear hres;have HF:=hid hfar;have HO:=hid hocc;have HN:=hid hnone;have H1:=hid hone;clear hfar hocc hnone hone;go_enter func40,ntmps40;go_wp2;go_loopg [5] (n+1) (fun gz s5 wr=> ∃k:Nat,s5=vi vk (k:Int)∧k+gz=n+1∧(∀j,j<k→Lib.occAt s x j=false)∧wr=w)
 case atStart=>exact⟨0,rfl,om_,fun j h=>by omega,rfl⟩
 case round=>
  obtain⟨k,rfl,hk,hno,rfl⟩:=hrel;have H:=hid hno;clear hno;have e1:wrap64 ((k:Int)+(m:Int))=((k+m:Nat):Int):=by rw[IntWalk.wrap64_in _ om_];omega
  have e2:wrap64 ((k:Int)+1)=((k+1:Nat):Int):=by rw[IntWalk.wrap64_in _ om_];omega
  by_cases hin:k+m≤n
  · have d0:decide ((k:Int)+(m:Int)≤(n:Int))=true:=decide_eq_true om_
    have d1:(k:Int)+(m:Int)≤(n:Int):=by omega
    have h3:=hsl.out k;rw[show k+m-k=m by omega] at h3;have ho:=HO.out k;generalize (s.drop k).take m=X at h3 ho;cases hb:(X==x) with
    |true=>
     rw[hb] at ho;obtain rfl:=H1.out k om_ ho H.out;clear ho H HF HO HN H1 hsl;go_wp2;go_ret;exact⟨rfl,Below.refl _ _⟩
    |false=>
     rw[hb] at ho;have hne: ¬X=x:=by simpa using hb
     have HH:Hid (∀j,j<k+1→Lib.occAt s x j=false):=hid (fun j hj=>by
      by_cases h:j<k
      · exact H.out j h
      · rw[show j=k by omega];exact ho)
     clear ho H HF HO HN H1 hsl;go_wp2;go_roundg (gk-1)
     case measure=>omega
     case rel=>exact⟨k+1,rfl,om_,HH.out,rfl⟩
  · have d0:decide ((k:Int)+(m:Int)≤(n:Int))=false:=decide_eq_false om_
    have d1: ¬(k:Int)+(m:Int)≤(n:Int):=by omega
    obtain rfl:=HN.out (fun j _=>by
     by_cases hj:j<k
     · exact H.out j hj
     · exact HF.out j om_)
    clear H HF HO HN H1 hsl hin;go_wp2;go_ret;exact⟨rfl,Below.refl _ _⟩
end
end Go.Proofs.YtdeiofgddhbdaaaGreatDoor
