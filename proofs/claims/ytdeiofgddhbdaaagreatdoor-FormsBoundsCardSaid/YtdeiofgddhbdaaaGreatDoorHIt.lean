/- What a tied row hands the walks of layer 55: the table of powers of ten, and that a variable of the library holds some number. -/
import Derived.Test.YtdeiofgddhbdaaaGreatDoorRows
import Derived.Below
import Derived.ProofKit
import Derived.Carry
import Derived.DataShut
import Derived.HandedShaped
import Derived.Lib.LaidTab
import Derived.Stop.LaidErr
import Derived.LaidMore
import Derived.MakeChecks
import Derived.Shelf.Vars
import Derived.Test.YtdeiofgddhbdaaaGreatDoorHIv
import Derived.Test.YtdeiofgddhbdaaaGreatDoorHIs
set_option linter.unusedSimpArgs false
set_option linter.unusedVariables false
set_option maxHeartbeats 4000000
set_option maxRecDepth 100000
open Go.ChangeShapes Go.WideShapes Go.ChangeAt Go.RowKit Go.Joins Go.Deep
open Go.Lib (hid)
open Go.Proofs.Tryz
open Go.Value renaming int→vi
open Go.IntKind renaming i64→vk
namespace Go.Proofs.YtdeiofgddhbdaaaGreatDoor
section
open Go.Shelf Frm
open Lib (decDigits)
theorem rtenths_any(s:Bs)(w:World)(hl:s.length≤1000):
 Calls Tryz.prog 41 #[tx s] w fun e w'=>e=.returned (.tuple #[vi vk (tenR s).1,.bool (tenR s).2])∧Below w.heap.size w w':=by
 have K0:=rparse_any s w hl;have hb:=parseR_bd s;have KT:=hid (fun(W:World)=>rtext_any (parseR s).1 W om_);obtain⟨q,hq⟩: ∃q,tenR s=q:=⟨_,rfl⟩;rw[hq];unfold tenR at hq;generalize textL (parseR s).1=T at KT hq;obtain⟨⟨n,e0⟩,hp⟩: ∃p,parseR s=p:=⟨_,rfl⟩;rw[hp] at K0 KT hq;simp only[] at K0 KT hq;clear hp hb hl;have t1:=tmod100 n;have K0:=hid K0;by_cases h0:e0=0
 · subst h0
   by_cases h1:n%100=0
   · have d1:n.tmod 100=0:=t1.2 h1
     have d3:((n.tmod 100)==0)=true:=by rw[d1];rfl
     simp only[h1,decide_true,Bool.true_and] at hq;subst hq;clear t1 h1;go_enter func41,ntmps41;go_wp2_with fail;(with_reducible refine K0.out.mono ?_)
     rintro e w1 ⟨rfl,hb1⟩
     have B1:=hid hb1;clear hb1 K0;go_wp2_with fail;(with_reducible refine(KT.out _).mono ?_)
     rintro e w2 ⟨rfl,hb2⟩
     have B2:=hid (B1.out.trans (hb2.mono B1.out.size));clear hb2 KT;go_wp2;go_ret2
     exact⟨by rw[←bs_beq];rfl,B2.out⟩
   · have d1: ¬n.tmod 100=0:=fun h=>h1 (t1.1 h)
     have d3:((n.tmod 100)==0)=false:=by simpa using d1
     have hq:q=(n,false):=by rw[←hq];simp[h1]
     subst hq;clear t1 h1;go_enter func41,ntmps41;go_wp2_with fail;(with_reducible refine K0.out.mono ?_)
     rintro e w1 ⟨rfl,hb1⟩
     go_wp2;go_ret2
     exact⟨rfl,hb1⟩
 · have d1:(e0==0)=false:=by simpa using h0
   have hq:q=(n,false):=by rw[←hq];simp[h0]
   subst hq;clear t1 h0;go_enter func41,ntmps41;go_wp2_with fail;(with_reducible refine K0.out.mono ?_)
   rintro e w1 ⟨rfl,hb1⟩
   go_wp2;go_ret2
   exact⟨rfl,hb1⟩
theorem rlabels_any(w:World):Calls Tryz.prog 14 #[] w fun e w'=>e=.returned (.slice (some ⟨w.heap.size,0,none⟩) 17 17)∧LabIn w' w.heap.size∧Below w.heap.size w w':=by
 go_enter func14,ntmps14;go_wp2;go_ret;refine⟨rfl,⟨by simp,fun j hj=>?_⟩,bl_alloc _ _⟩;have:j=0∨j=1∨j=2∨j=3∨j=4∨j=5∨j=6∨j=7∨j=8∨j=9∨j=10∨j=11∨j=12∨j=13∨j=14∨j=15∨j=16:=by omega
 rcases this with rfl|rfl|rfl|rfl|rfl|rfl|rfl|rfl|rfl|rfl|rfl|rfl|rfl|rfl|rfl|rfl|rfl
 all_goals (simp[labL];done)
theorem tenR_nil:(tenR []).2=false:=by decide
theorem idx_cases(s x:Bs)(_hx:0<x.length):(∃k:Nat,Lib.index s x=k∧k+x.length≤s.length∧Lib.cut s x=(s.take k,s.drop (k+x.length),true))∨(Lib.index s x= -1∧Lib.cut s x=(s,[],false)):=by
 rcases Int.lt_or_le (Lib.index s x) 0 with h|h
 · have h1:=Lib.index_ge s x
   refine .inr ⟨om_,?_⟩;unfold Lib.cut;rw[if_neg om_]
 · obtain⟨k,hk⟩: ∃k:Nat,Lib.index s x=k:=⟨(Lib.index s x).toNat,om_⟩
   refine .inl ⟨k,hk,?_,?_⟩
   · have:=Lib.index_room s x h
     omega
   · unfold Lib.cut
     rw[if_pos h,hk];rfl
theorem ext_to(s:Bs)(k:Nat):(⟨s.toArray⟩:ByteArray).extract 0 k=⟨(s.take k).toArray⟩:=by
 rw[ext_tx];simp
theorem ext_from{s:Bs}{n:Nat}(hn:s.length=n)(k:Nat):(⟨s.toArray⟩:ByteArray).extract k n=⟨(s.drop k).toArray⟩:=by
 rw[ext_tx,←hn,List.take_of_length_le (by rw[List.length_drop];exact Nat.le_refl _)]
theorem readP_R(s:Bs):readP s=
 if (Lib.cut s [32]).1∈labL then
  (if (Lib.cut (Lib.cut s [32]).2.1 dots).2.2=true then
    (if (tenR (Lib.cut (Lib.cut s [32]).2.1 dots).1).2=true∧(tenR (Lib.cut (Lib.cut s [32]).2.1 dots).2.1).2=true∧(tenR (Lib.cut (Lib.cut s [32]).2.1 dots).1).1<(tenR (Lib.cut (Lib.cut s [32]).2.1 dots).2.1).1 then
      ((Lib.cut s [32]).1,((tenR (Lib.cut (Lib.cut s [32]).2.1 dots).1).1-50,(tenR (Lib.cut (Lib.cut s [32]).2.1 dots).2.1).1+49),0)
    else([],(0,0),7))
  else(if (tenR (Lib.cut (Lib.cut s [32]).2.1 dots).1).2=true then
   ((Lib.cut s [32]).1,((tenR (Lib.cut (Lib.cut s [32]).2.1 dots).1).1-50,(tenR (Lib.cut (Lib.cut s [32]).2.1 dots).1).1+49),0)
   else([],(0,0),7)))
 else([],(0,0),9):=by
 unfold readP;obtain⟨a1,a2⟩:=ten_same (Lib.cut (Lib.cut s [32]).2.1 dots).1;obtain⟨b1,b2⟩:=ten_same (Lib.cut (Lib.cut s [32]).2.1 dots).2.1;generalize (Lib.cut (Lib.cut s [32]).2.1 dots).1=x at*;generalize (Lib.cut (Lib.cut s [32]).2.1 dots).2.1=y at*;cases hx:(tenP x).2 with
 |false=>
  rw[hx] at a1;rw[←a1];simp
 |true=>
  have hxr:(tenR x).2=true:=by rw[←a1];exact hx
  rw[a2 hx];cases hy:(tenP y).2 with
  |false=>
   rw[hy] at b1;rw[←b1];simp[hxr]
  |true=>
   have hyr:(tenR y).2=true:=by rw[←b1];exact hy
   rw[b2 hy];simp[hxr,hyr]
theorem lab_succ(lab:Bs){j:Nat}(h:j<17):decide (lab∈labL.take (j+1))=(decide (lab∈labL.take j)||(labL.getD j []==lab)):=by
 have hj:j<labL.length:=h;rw[List.take_succ_eq_append_getElem hj,bs_beq];have e:labL.getD j []=labL[j]:=by simp[List.getD,hj]
 rw[e,Bool.eq_iff_iff,decide_eq_true_eq,List.mem_append,List.mem_singleton,Bool.or_eq_true,decide_eq_true_eq,decide_eq_true_eq];exact or_congr Iff.rfl eq_comm
theorem rread_any(s:Bs)(w:World)(hl:s.length≤1000):Calls Tryz.prog 12 #[tx s] w (RetRead (readP s) w):=by
 have K0:=hid (fun(W:World)=>rfind_any s [32] W hl dc_ dc_);obtain⟨r,hr⟩: ∃r,readP s=r:=⟨_,rfl⟩;rw[hr];rw[readP_R] at hr;have hi0:=idx_cases s [32] dc_;obtain⟨⟨lab,rest,sp⟩,hc1⟩: ∃x,Lib.cut s [32]=x:=⟨_,rfl⟩;rw[hc1] at hr hi0;obtain⟨I0,hI0⟩: ∃i,Lib.index s [32]=i:=⟨_,rfl⟩;rw[hI0] at K0 hi0;have lrest:rest.length≤1000:=by
  rcases hi0 with ⟨k,_,h,e⟩|⟨_,e⟩
  · have:=(Prod.mk.inj (Prod.mk.inj e).2).1
    rw[this,List.length_drop];omega
  · have:=(Prod.mk.inj (Prod.mk.inj e).2).1
    rw[this];simp
 have K1:=hid (fun(W:World)=>rfind_any rest [32,46,46,32] W lrest dc_ dc_);rw[dots_eq] at hr;have hi1:=idx_cases rest [32,46,46,32] dc_;simp only[] at hr;obtain⟨⟨fi,la,two⟩,hc2⟩: ∃x,Lib.cut rest [32,46,46,32]=x:=⟨_,rfl⟩;rw[hc2] at hr hi1;obtain⟨I1,hI1⟩: ∃i,Lib.index rest [32,46,46,32]=i:=⟨_,rfl⟩;rw[hI1] at K1 hi1;simp only[] at hr;have lfi:fi.length≤1000:=by
  rcases hi1 with ⟨k,_,h,e⟩|⟨_,e⟩
  · rw[(Prod.mk.inj e).1,List.length_take];omega
  · rw[(Prod.mk.inj e).1];exact lrest
 have lla:la.length≤1000:=by
  rcases hi1 with ⟨k,_,h,e⟩|⟨_,e⟩
  · rw[(Prod.mk.inj (Prod.mk.inj e).2).1,List.length_drop];omega
  · rw[(Prod.mk.inj (Prod.mk.inj e).2).1];simp
 obtain⟨sec,hsec⟩: ∃sec:Bs,(if two=true then la else fi)=sec:=⟨_,rfl⟩;have lsec:sec.length≤1000:=by rw[←hsec];split<;>assumption
 have KF:=hid (fun W=>rtenths_any fi W lfi);have KL:=hid (fun W=>rtenths_any sec W lsec);have bF:=parseR_bd fi;have bL:=parseR_bd sec;have pF:(tenR fi).1=(parseR fi).1:=rfl;have pL:(tenR sec).1=(parseR sec).1:=rfl;rw[←pF] at bF;rw[←pL] at bL;have hsp:sp=false→two=false∧fi=[]:=fun h=>by
  rcases hi0 with ⟨k,_,_,e⟩|⟨_,e⟩
  · have:=(Prod.mk.inj (Prod.mk.inj e).2).2
    rw[h] at this;cases this
  · have h2:=(Prod.mk.inj (Prod.mk.inj e).2).1
    subst h2;have:Lib.cut [] [32,46,46,32]=([],[],false):=by decide
    rw[this] at hc2;have:=Prod.mk.inj hc2;exact⟨(Prod.mk.inj this.2).2.symm,this.1.symm⟩
 have hnil:fi=[]→(tenR fi).2=false:=fun h=>by rw[h];exact tenR_nil
 have hsame:two=false→sec=fi:=fun h=>by rw[←hsec,h];rfl
 have hlast:two=true→sec=la:=fun h=>by rw[←hsec,h];rfl
 have hr2:(if lab∈labL then(if (tenR fi).2=true∧(tenR sec).2=true∧(two=true→(tenR fi).1<(tenR sec).1) then(lab,((tenR fi).1-50,(tenR sec).1+49),0) else([],(0,0),7)) else([],(0,0),9))=r:=by
  rw[←hr];split
  · cases two with
    |true=>rw[hlast rfl];simp
    |false=>rw[hsame rfl];simp
  · rfl
 have HSAME:=hid hsame;have HLAST:=hid hlast;have HSP:=hid (fun h=>(hnil (hsp h).2));have LR:=hid lrest;have HI0:=hid hi0;have HI1:=hid hi1;obtain⟨⟨x,xo⟩,hx⟩: ∃p,tenR fi=p:=⟨_,rfl⟩;obtain⟨⟨y,yo⟩,hy⟩: ∃p,tenR sec=p:=⟨_,rfl⟩;have HXS:Hid (sp=false→xo=false):=hid (fun h=>by have:=HSP.out h;rw[hx] at this;exact this);rw[hx] at KF hr2 bF;rw[hy] at KL hr2 bL;simp only[] at KF KL hr2 bF bL;have HR:=hid hr2;clear hr hsec lsec lfi lla pF pL hsp hnil hsame hlast hc1 hc2 hI0 hI1 hi0 hi1 hx hy hr2 HSP lrest;have e1:wrap64 (x-50)=x-50:=IntWalk.wrap64_in _ om_;have e4:wrap64 (y+50)=y+50:=IntWalk.wrap64_in _ om_;have e5:wrap64 (y+50-1)=y+49:=by rw[IntWalk.wrap64_in _ om_];omega
 have KS:=hid (fun W=>rlabels_any W);have G0:=hid (Blk.new w 33 #[vi vk 0,vi vk 0]);have B0:=hid (bl_alloc w (.cells #[vi vk 0,vi vk 0] 33));have E1:=hid e1;have E4:=hid e4;have E5:=hid e5;clear e1 e4 e5 bF bL;have ss:=tx_size s;obtain⟨n,hn⟩: ∃n,s.length=n:=⟨_,rfl⟩;rw[hn] at ss hl;have HN:=hid hn;clear hn;go_enter func12,ntmps12;go_upto_region 1 with (fail)
 generalize w.alloc (.cells #[vi vk 0,vi vk 0] 33)=w0 at G0 B0⊢;go_wp2_with fail;(with_reducible refine((K0.out _)).mono ?_)
 rintro e w1 ⟨rfl,hb1⟩
 have B1:=hid (B0.out.trans (hb1.mono B0.out.size));have G1:=hid (G0.out.below hb1 G0.out.lt);clear hb1 K0 B0 G0;go_upto_if 21 with (fail)
 go_cut [6,7] from 19 to 28 (fun s6 s7 wx=>s6=tx lab∧s7=tx rest∧wx=w1)
 case first=>
  rcases HI0.out with ⟨k,rfl,hk,e⟩|⟨rfl,e⟩
  · obtain⟨rfl,e2⟩:=Prod.mk.inj e
    obtain⟨rfl,rfl⟩:=Prod.mk.inj e2;have x1:=ext_to s k;have x2:=ext_from HN.out (k+1);have hkn:k+1≤n:=by rw[←HN.out];exact hk
    have d0:decide ((0:Int)≤(k:Int))=true:=decide_eq_true om_;have p0:k≤n:=by omega
    have p1:(k:Int)+1≤(n:Int):=by omega
    have w5:wrap64 ((k:Int)+1)=(k:Int)+1:=IntWalk.wrap64_in _ om_;clear HI0 HI1 HR HSAME HLAST HXS KF KL K1 hk e e2;go_wp2;go_meet
    case rel=>exact⟨rfl,rfl,rfl⟩
  · obtain⟨rfl,e2⟩:=Prod.mk.inj e
    obtain⟨rfl,rfl⟩:=Prod.mk.inj e2;clear HI0 HI1 HR HSAME HLAST HXS KF KL K1 e e2;go_wp2;go_meet
    case rel=>exact⟨rfl,rfl,rfl⟩
 case rest=>
 obtain⟨rfl,rfl,rfl⟩:=hcut;go_wp2_with fail;(with_reducible refine((KS.out _)).mono ?_)
 rintro e w2 ⟨rfl,hL,hb2⟩
 have B2:=hid (B1.out.trans (hb2.mono B1.out.size));have G2:=hid (G1.out.below hb2 G1.out.lt);clear hb2 KS B1 G1;have HLC:=hid hL;clear hL;go_wp2_with fail;go_loopg [8,10] 18 (fun gz s8 s10 wr=> ∃j:Nat,s10=vi vk (j:Int)∧s8=.bool (decide (lab∈labL.take j))∧j+gz=18∧j≤17∧wr=w2)
 case atStart=>exact⟨0,rfl,rfl,rfl,om_,rfl⟩
 case round=>
  obtain⟨j,rfl,rfl,hj,hj17,rfl⟩:=hrel;have w9:wrap64 ((j:Int)+1)=((j+1:Nat):Int):=by rw[IntWalk.wrap64_in _ om_];omega
  by_cases hlt:j<17
  · have d0:decide ((j:Int)<17)=true:=decide_eq_true om_
    have y0:=HLC.out.2 j hlt;have hs:=lab_succ lab hlt;generalize labL.getD j []=lj at y0 hs;generalize decide (lab∈labL.take j)=b0 at hs⊢;have HS:=hid hs;have hlt2:j+1≤17:=hlt;clear hs HR HSAME HLAST HXS KF KL K1 HI1 HI0 HLC;cases b0 with
    |true=>
     go_wp2;go_roundg (gk-1)
     case measure=>omega
     case rel=>exact⟨j+1,rfl,by rw[HS.out];rfl,om_,hlt2,rfl⟩
    |false=>
     go_wp2;go_roundg (gk-1)
     case measure=>omega
     case rel=>exact⟨j+1,rfl,by rw[HS.out];rfl,om_,hlt2,rfl⟩
  · obtain rfl:j=17:=by omega
    have d0:decide (((17:Nat):Int)<17)=false:=by decide
    have e17:labL.take 17=labL:=rfl;rw[e17];have HRO:=HR.out;clear HLC hlt hj hj17 w9 e17;by_cases hlab:lab∈labL
    · rw[if_pos hlab] at HRO
      have dlab:decide (lab∈labL)=true:=decide_eq_true hlab;rw[dlab];clear hlab dlab HR;go_upto_region 16 with (fail)
      go_wp2_with fail;(with_reducible refine((K1.out _)).mono ?_)
      rintro e w3 ⟨rfl,hb3⟩
      have B3:=hid (B2.out.trans (hb3.mono B2.out.size));have G3:=hid (G2.out.below hb3 G2.out.lt);clear hb3 K1 B2 G2;go_upto_if 52 with (fail)
      go_cut [7,11] from 30 to 59 (fun s7 s11 wx=>s7=tx fi∧s11=tx sec∧wx=w3)
      case first=>
       rcases HI1.out with ⟨k,rfl,hk,e⟩|⟨rfl,e⟩
       · obtain⟨rfl,e2⟩:=Prod.mk.inj e
         obtain⟨rfl,rfl⟩:=Prod.mk.inj e2;obtain rfl:=HLAST.out rfl;have sr:=tx_size rest;obtain⟨nr,hnr⟩: ∃nr,rest.length=nr:=⟨_,rfl⟩;rw[hnr] at sr;have x1:=ext_to rest k;have x2:=ext_from hnr (k+4);have hkn:k+4≤nr:=by rw[←hnr];exact hk
         have d0:decide ((0:Int)≤(k:Int))=true:=decide_eq_true om_;have p0:k≤nr:=by omega
         have p1:(k:Int)+4≤(nr:Int):=by omega
         have w5:wrap64 ((k:Int)+4)=(k:Int)+4:=IntWalk.wrap64_in _ (by have:nr≤1000:=by rw[←hnr];exact LR.out
                                                                       omega)
         have X2:=hid x2;clear HI0 HI1 HRO HSAME HLAST HXS KF KL hk e e2 hnr x2;go_wp2;go_meet
         case rel=>exact⟨rfl,by rw[X2.out];rfl,rfl⟩
       · obtain⟨rfl,e2⟩:=Prod.mk.inj e
         obtain⟨rfl,rfl⟩:=Prod.mk.inj e2;obtain rfl:=HSAME.out rfl;clear HI0 HI1 HRO HSAME HLAST HXS KF KL e e2;go_wp2;go_meet
         case rel=>exact⟨rfl,rfl,rfl⟩
      case rest=>
      obtain⟨rfl,rfl,rfl⟩:=hcut;have HTW:Hid (two=true↔0≤I1):=hid (by
       rcases HI1.out with ⟨k,rfl,_,e⟩|⟨rfl,e⟩
       · have:=(Prod.mk.inj (Prod.mk.inj e).2).2
         rw[this];simp
       · have:=(Prod.mk.inj (Prod.mk.inj e).2).2
         rw[this];simp)
      have HSI:Hid (sp=true↔0≤I0):=hid (by
       rcases HI0.out with ⟨k,rfl,_,e⟩|⟨rfl,e⟩
       · have:=(Prod.mk.inj (Prod.mk.inj e).2).2
         rw[this];simp
       · have:=(Prod.mk.inj (Prod.mk.inj e).2).2
         rw[this];simp)
      clear HI0 HI1 HSAME HLAST;go_wp2_with fail;(with_reducible refine((KF.out _)).mono ?_)
      rintro e w4 ⟨rfl,hb4⟩
      have B4:=hid (B3.out.trans (hb4.mono B3.out.size));have G4:=hid (G3.out.below hb4 G3.out.lt);clear hb4 KF B3 G3;go_wp2_with fail;(with_reducible refine((KL.out _)).mono ?_)
      rintro e w5 ⟨rfl,hb5⟩
      have B5:=hid (B4.out.trans (hb5.mono B4.out.size));have G5:=hid (G4.out.below hb5 G4.out.lt);clear hb5 KL B4 G4;have y0:w5.cell? ⟨w.heap.size,0,none⟩=some (vi vk 0):=G5.out.cell 0;have y1:w5.cell? ⟨w.heap.size,1,none⟩=some (vi vk 0):=G5.out.cell 1;have z0:w5.frozen? ⟨w.heap.size,0,none⟩=false:=G5.out.frozen 0;have z1:w5.frozen? ⟨w.heap.size,1,none⟩=false:=G5.out.frozen 1;obtain⟨bad,hbad⟩: ∃bad:Bool,(bad=true↔(sp=false∨xo=false∨yo=false∨(two=true∧y≤x))):=⟨decide (sp=false∨xo=false∨yo=false∨(two=true∧y≤x)),decide_eq_true_iff⟩;have HBD:=hid hbad;clear hbad;go_upto_region 22 with (fail)
      go_cut [88] from 70 to 88 (fun c wx=>c=.bool bad∧wx=w5)
      case first=>
       clear HRO;by_cases h1:0≤I0
       · have d1:decide (I0<0)=false:=decide_eq_false om_
         obtain rfl:sp=true:=HSI.out.2 h1;cases xo with
         |false=>
          obtain rfl:bad=true:=HBD.out.2 (by simp);clear HBD HSI HTW h1 HXS;go_wp2;go_meet
          case rel=>exact⟨rfl,rfl⟩
         |true=>
         cases yo with
         |false=>
          obtain rfl:bad=true:=HBD.out.2 (by simp);clear HBD HSI HTW h1 HXS;go_wp2;go_meet
          case rel=>exact⟨rfl,rfl⟩
         |true=>
         by_cases h2:0≤I1
         · have d2:decide (0≤I1)=true:=decide_eq_true h2
           obtain rfl:two=true:=HTW.out.2 h2;have d3:decide (y≤x)=bad:=by
            have:=HBD.out;rw[Bool.eq_iff_iff,decide_eq_true_eq,this];simp
           clear HBD HSI HTW h1 HXS;go_wp2;go_meet
           case rel=>exact⟨by first|rfl|exact congrArg Value.bool d3,rfl⟩
         · have d2:decide (0≤I1)=false:=decide_eq_false h2
           obtain rfl:two=false:=by cases two with|false=>rfl|true=>exact absurd (HTW.out.1 rfl) h2
           obtain rfl:bad=false:=by cases bad with|false=>rfl|true=>exact absurd (HBD.out.1 rfl) (by simp)
           clear HBD HSI HTW h1 HXS;go_wp2;go_meet
           case rel=>exact⟨rfl,rfl⟩
       · have d1:decide (I0<0)=true:=decide_eq_true om_
         obtain rfl:sp=false:=by cases sp with|false=>rfl|true=>exact absurd (HSI.out.1 rfl) h1
         obtain rfl:bad=true:=HBD.out.2 (by simp);clear HBD HSI HTW h1 HXS;go_wp2;go_meet
         case rel=>exact⟨rfl,rfl⟩
      case rest=>
      obtain⟨rfl,rfl⟩:=hcut;have hgood:bad=false→(xo=true∧yo=true∧(two=true→x<y)):=fun h=>by
       have hn: ¬(sp=false∨xo=false∨yo=false∨(two=true∧y≤x)):=fun hh=>by rw[HBD.out.2 hh] at h;cases h
       refine⟨?_,?_,fun ht=>?_⟩
       · cases xo with|true=>rfl|false=>exact absurd (.inr (.inl rfl)) hn
       · cases yo with|true=>rfl|false=>exact absurd (.inr (.inr (.inl rfl))) hn
       · rcases Int.lt_or_le x y with q|q
         · exact q
         · exact absurd (.inr (.inr (.inr ⟨ht,q⟩))) hn
      have hbadd:bad=true→ ¬(xo=true∧yo=true∧(two=true→x<y)):=fun h hh=>by
       rcases HBD.out.1 h with q|q|q|⟨q,q2⟩
       · have:=HXS.out q;rw[hh.1] at this;cases this
       · rw[hh.1] at q;cases q
       · rw[hh.2.1] at q;cases q
       · have:=hh.2.2 q;omega
      cases bad with
      |true=>
       rw[if_neg (hbadd rfl)] at HRO;subst HRO;clear hgood hbadd HBD HTW HSI HXS;go_wp2;have cc:=(G5.out.set_ 0 (vi vk 0)).set_ 1 (vi vk 0);have c0:=cc.cell 0;have c1:=cc.cell 1;refine bodyPost_ret (v:=.tuple #[tx [],.agg #[vi vk 0,vi vk 0],vi vk 7]) (by simp[results,results12,go_sem,c0,c1];done) rfl ?_;exact⟨rfl,(B5.out.setCell (by simp) _).setCell (by simp) _⟩
      |false=>
       rw[if_pos (hgood rfl)] at HRO;subst HRO;clear hgood hbadd HBD HTW HSI HXS;have e1:=E1.out;have e4:=E4.out;have e5:=E5.out;go_wp2;have cc:=(G5.out.set_ 0 (vi vk (x-50))).set_ 1 (vi vk (y+49));have c0:=cc.cell 0;have c1:=cc.cell 1;refine bodyPost_ret (v:=.tuple #[tx lab,.agg #[vi vk (x-50),vi vk (y+49)],vi vk 0]) (by simp[results,results12,go_sem,c0,c1];done) rfl ?_;exact⟨rfl,(B5.out.setCell (by simp) _).setCell (by simp) _⟩
    · rw[if_neg hlab] at HRO
      have dlab:decide (lab∈labL)=false:=decide_eq_false hlab;rw[dlab];subst HRO;have y0:wr.cell? ⟨w.heap.size,0,none⟩=some (vi vk 0):=G2.out.cell 0;have y1:wr.cell? ⟨w.heap.size,1,none⟩=some (vi vk 0):=G2.out.cell 1;have z0:wr.frozen? ⟨w.heap.size,0,none⟩=false:=G2.out.frozen 0;have z1:wr.frozen? ⟨w.heap.size,1,none⟩=false:=G2.out.frozen 1;clear hlab dlab HR HSAME HLAST HXS KF KL K1 HI1 HI0;go_wp2;have cc:=(G2.out.set_ 0 (vi vk 0)).set_ 1 (vi vk 0);have c0:=cc.cell 0;have c1:=cc.cell 1;refine bodyPost_ret (v:=.tuple #[tx [],.agg #[vi vk 0,vi vk 0],vi vk 9]) (by simp[results,results12,go_sem,c0,c1];done) rfl ?_;exact⟨rfl,(B2.out.setCell (by simp) _).setCell (by simp) _⟩
end
section
open Go.Shelf Frm
open Lib (decDigits)
theorem formsReads_any(s:Bs)(w:World)(hm:Mx w)(ht:Tab w):Calls Tryz.prog 4 #[tx s] w fun e w'=>e=.returned (.bool true)∧Below w.heap.size w w':=by
 have hq:=eqlArc;have KA:=hid (awake55 w hm ht);have ss:=tx_size s;by_cases hl:s.length≤200
 · have K1:=hid (fun(W:World) (h:Below w.heap.size w W)=>read_any s W om_ (hm.stays h) (ht.stays h (Nat.le_refl _)))
   have K2:=hid (fun(W:World)=>rread_any s W om_);obtain⟨⟨lb,⟨x,y⟩,E⟩,hr⟩: ∃r,readP s=r:=⟨_,rfl⟩;rw[hr] at K1 K2;have k1:aeq x y x y=true:=by simp[aeq]
   obtain⟨n,hn⟩: ∃n,s.length=n:=⟨_,rfl⟩;rw[hn] at ss hl;have d0:decide ((200:Int)<(n:Int))=false:=decide_eq_false om_;have d1: ¬200<n:=by omega
   have d2:decide (200<n)=false:=decide_eq_false d1;clear hr hn ht hm;go_enter func4,ntmps4;go_wp2_with fail;(with_reducible refine(KA.out).mono ?_)
   rintro e1 w1 ⟨rfl,hb1⟩
   have B1:=hid hb1;clear hb1 KA;go_wp2_with fail;(with_reducible refine(K1.out _ B1.out).mono ?_)
   rintro e2 w2 ⟨rfl,hb2⟩
   have A2:=hid (Blk.new w2 33 #[vi vk x,vi vk y]);have B2:=hid ((B1.out.trans (hb2.mono B1.out.size)).alloc (by have:=B1.out.size;have:=hb2.size;omega) (.cells #[vi vk x,vi vk y] 33));clear hb2 K1 B1;go_wp2_with fail;(with_reducible refine(K2.out _).mono ?_)
   rintro e3 w3 ⟨rfl,hb3⟩
   have A3:=(A2.out.below hb3 A2.out.lt);have B3:=hid ((B2.out.trans (hb3.mono B2.out.size)).alloc (by have:=B2.out.size;have:=hb3.size;omega) (.cells #[vi vk x,vi vk y] 33));have y0:=A3.cell 0;have y1:=A3.cell 1;have lt3:=A3.lt;clear A2 B2 hb3 K2 A3;go_wp2;go_ret;exact⟨by simp,B3.out⟩
 · obtain⟨n,hn⟩: ∃n,s.length=n:=⟨_,rfl⟩
   rw[hn] at ss hl;have d0:decide ((200:Int)<(n:Int))=true:=decide_eq_true om_;have d1:200<n:=by omega
   have d2:decide (200<n)=true:=decide_eq_true d1;clear hn ht hm;go_enter func4,ntmps4;go_wp2_with fail;(with_reducible refine(KA.out).mono ?_)
   rintro e1 w1 ⟨rfl,hb1⟩
   go_wp2;go_ret;exact⟨rfl,hb1⟩
theorem formsFixes_any(A:Option Addr)(n ca:Nat)(L:List Cl)(w:World)(hr:Reads w w.heap.size 3 A n (cvs L))(hn:n≤ca)(hca:ca≤maxLen)(hm:Mx w)(ht:Tab w):
 Calls Tryz.prog 3 #[.slice A n ca] w fun e w'=>e=.returned (.bool true)∧Below w.heap.size w w':=by
 have KA:=hid (awake55 w hm ht);have hnm:n≤maxLen:=Nat.le_trans hn hca;by_cases h40:n≤40
 · have RD: ∀W,Below w.heap.size w W→Reads W W.heap.size 3 A n (cvs L):=fun W hW=>(hr.below hW).more hW.size
   have d0:decide ((40:Int)<(n:Int))=false:=decide_eq_false om_;have d1: ¬40<n:=by omega
   have d2:decide (40<n)=false:=decide_eq_false d1;by_cases hE:vrB L=true∧0<n
   · have K1:=hid (fun(W:World) (h:Below w.heap.size w W)=>fFix_yes A n ca L W (RD W h) hnm hE.1 hE.2 (ht.stays h (Nat.le_refl _)))
     have K2:=hid (fun(W:World) (h:Below w.heap.size w W)=>rFix_yes A n ca L W (RD W h) hn hca hE.1 hE.2);have hz6:(fixLs L).length=6:=rfl;generalize fixLs L=Z at*;clear hE RD hr hm ht;go_enter func3,ntmps3;go_wp2_with fail;(with_reducible refine(KA.out).mono ?_)
     rintro e1 w1 ⟨rfl,hb1⟩
     have B1:=hid hb1;clear hb1 KA;go_wp2_with fail;(with_reducible refine(K1.out _ B1.out).mono ?_)
     rintro e2 w2 ⟨s1,rfl,o1,hb2⟩
     have B2:=hid (B1.out.trans (hb2.mono B1.out.size));rw[hz6] at o1;obtain⟨g1,c1,rfl,-,l1⟩:=own_some o1 dc_;have O1:=hid o1;clear hb2 K1 B1 o1;go_wp2_with fail;(with_reducible refine(K2.out _ B2.out).mono ?_)
     rintro e3 w3 ⟨s2,rfl,o2,hb3⟩
     have B3:=hid (B2.out.trans (hb3.mono B2.out.size));rw[hz6] at o2;obtain⟨g2,c2,rfl,-,l2⟩:=own_some o2 dc_;have hc1: ∀j z,Z[j]? =some z→w3.cell? ⟨g1,j,none⟩=some (tx z):=fun j z h=>(hb3.cell (p:=⟨g1,j,none⟩) l1).trans (own_cell O1.out j (tx z) (by unfold txs;rw[List.getElem?_map,h];rfl)).1;have hc2: ∀j z,Z[j]? =some z→w3.cell? ⟨g2,j,none⟩=some (tx z):=fun j z h=>(own_cell o2 j (tx z) (by unfold txs;rw[List.getElem?_map,h];rfl)).1;have KE:=hid (eqZ_any g1 g2 c1 c2 6 Z w3 dc_ hz6 hc1 hc2);clear hb3 K2 B2 O1 o2 hc1 hc2 l1 l2;go_wp2_with fail;(with_reducible refine(KE.out).mono ?_)
     rintro e5 w5 ⟨rfl,hb5⟩
     go_wp2;go_ret;exact⟨rfl,B3.out.trans (hb5.mono B3.out.size)⟩
   · obtain⟨E,hEE⟩: ∃E:Int,(vrB L=false∧E=1)∨(vrB L=true∧n=0∧E=14):=by
      cases hv:vrB L with
      |false=>exact⟨1,.inl ⟨rfl,rfl⟩⟩
      |true=>exact⟨14,.inr ⟨rfl,(Nat.eq_zero_or_pos n).resolve_right (fun h=>hE ⟨hv,h⟩),rfl⟩⟩
     have K1:=hid (fun(W:World) (h:Below w.heap.size w W)=>fFix_no A n ca L E W (RD W h) hnm hEE);have K2:=hid (fun(W:World) (h:Below w.heap.size w W)=>rFix_no A n ca L E W (RD W h) hn hca hEE);have KE:=hid eqNil_any;clear hE hEE RD hr hm ht;go_enter func3,ntmps3;go_wp2_with fail;(with_reducible refine(KA.out).mono ?_)
     rintro e1 w1 ⟨rfl,hb1⟩
     have B1:=hid hb1;clear hb1 KA;go_wp2_with fail;(with_reducible refine(K1.out _ B1.out).mono ?_)
     rintro e2 w2 ⟨rfl,hb2⟩
     have B2:=hid (B1.out.trans (hb2.mono B1.out.size));clear hb2 K1 B1;go_wp2_with fail;(with_reducible refine(K2.out _ B2.out).mono ?_)
     rintro e3 w3 ⟨rfl,hb3⟩
     have B3:=hid (B2.out.trans (hb3.mono B2.out.size));clear hb3 K2 B2;go_wp2_with fail;(with_reducible refine(KE.out _).mono ?_)
     rintro e5 w5 ⟨rfl,hb5⟩
     go_wp2;go_ret;exact⟨by simp,B3.out.trans (hb5.mono B3.out.size)⟩
 · have d0:decide ((40:Int)<(n:Int))=true:=decide_eq_true om_
   have d1:40<n:=by omega
   have d2:decide (40<n)=true:=decide_eq_true d1;clear hr ht hm;go_enter func3,ntmps3;go_wp2_with fail;(with_reducible refine(KA.out).mono ?_)
   rintro e1 w1 ⟨rfl,hb1⟩
   go_wp2;go_ret;exact⟨rfl,hb1⟩
end
section
theorem Tryz.own:ownKnob Tryz.prog.godebug=none:=by kernel_rfl
section
variable {H:Type} {enc:TypeId×Value→H} {P:Program}
theorem post_of_below{f:Func}{s:ChangeSpec}{apart fresh handsOn again:Bool}{W W':World}{args:Array Value}{v:Value}{ds gs:List (DataW H)}{before pa pv:List MemPlace}
 (hW:DataW.Whole enc P f.params.toList s.vars apart W args.toList ds gs before)
 (hres: ∀(b:Nat) (sp:Nat→Bool) (hd:Bool),DataW.TrodAll enc P W' b sp hd f.resultTypes.toList (v.resultList f.resultTypes.size) (s.fn H (ds++gs)).results [])
 (hargs: ∀sp:Nat→Bool,(∀p∈before,sp p.block=true)→DataW.TrodAll enc P W' 0 sp true f.params.toList args.toList (s.fn H (ds++gs)).args pa)
 (hvars: ∀sp:Nat→Bool,(∀p∈before,sp p.block=true)→DataW.TrodVars enc P W' sp s.vars (s.fn H (ds++gs)).vars pv)
 (hps:before=pa++pv) (hb:Below W.heap.size W W')
 (hok: ∀(j:Nat) (t:TypeId) (r:Value),f.resultTypes[j]? =some t→(v.resultList f.resultTypes.size)[j]? =some r→Value.okWide P W' .any 0 t r):
 s.post enc P f apart fresh handsOn again W args v W':=by
 have hlt: ∀p∈before,p.block<W.heap.size:=fun p hp=>hW.lt p hp;have hold: ∀p∈before,(fun b=>decide (b<W.heap.size)) p.block=true:=fun p hp=>by simpa using hlt p hp
 refine⟨ds,gs,before,[],pa,pv,hW,hres _ _ _,hargs _ hold,hvars _ hold,World.keptBut_mono (fun p hp=>⟨hp,?_⟩) (hb.frame (· ∈before)),fun _=>?_⟩
 · rw[hps,List.mem_append] at hp
   exact Or.inr hp
 · obtain⟨_,_,_,_,_,hz,hn⟩:=hW
   refine⟨hok,_,_,([]++pa)++pv,⟨[]++pa,pv,trodAll_append (hargs _ (fun _ _=>rfl)) (hres _ _ _),hvars _ (fun _ _=>rfl),rfl,?_,?_⟩,?_⟩
   · intro b off hp
     have hin:MemPlace.cell b off∈before:=by rw[hps];simpa using hp
     rw[hb.frozen (hlt _ hin)];exact hz b off hin
   · intro ha
     have:=hn ha;rw[hps] at this;simpa using this
   · intro p hp _
     rw[hps];simpa using hp
end
end
section
section
variable {H:Type} {enc:TypeId×Value→H}
theorem handed_and_shaped{a:Assume}{C:Checked}{os:Os}{f:FuncId}{fn:Func}{s:ChangeSpec}{conds:List PathCond}{apart fresh handsOn again:Bool}{X:World→Array Value→Prop}
 (hX: ∀(w w':World) (args:Array Value),w.heap=w'.heap→X w args→X w' args)
 (own:ownKnob C.prog.godebug=none) (started:os.Started) (noInit:C.prog.inits.idxOf? f=none) (hfn:C.prog.funcs[f]? =some fn)
 (witness: ∃(w:World) (tape:Tape) (i:Input),w.os=os∧(w.forCall tape i).Shaped C.prog∧i.vars=[]∧Input.okWide C.prog (w.forCall tape i) .any w.heap.size f i∧
   ((s.pre enc C.prog fn conds apart (w.forCall tape i).memory i.args∧X (w.forCall tape i).memory i.args)∧sizedMet enc C.prog fn (OpenSpec.ofChange s) apart (w.forCall tape i).memory i.args)∧a.holds C.prog (lone (Frame.enter C.prog f i.args .normal) [] (w.forCall tape i)))
 (contract: ∀(W:World) (base:Nat) (args:Array Value) (ds gs:List (DataW H)) (before:List MemPlace),
   (∀(j:Nat) t v,fn.params[j]? =some t→args[j]? =some v→Value.okWide C.prog W .any base t v)→
   DataW.Whole enc C.prog fn.params.toList s.vars apart W args.toList ds gs before→
   X W args→W.ShapedOpen C.prog→
   Calls C.prog f args W fun e W'=> ∃v,e=.returned v∧s.post enc C.prog fn apart fresh handsOn again W args v W'):
 ReturnsInHanded a C os f .any (fun w args=>(s.pre enc C.prog fn conds apart w args∧X w args)∧sizedMet enc C.prog fn (OpenSpec.ofChange s) apart w args) (s.post enc C.prog fn apart fresh handsOn again):=by
 refine returnsInHanded_of_calls own started noInit witness ?_;intro w tape i _ hsh _ hok hpre _;obtain⟨_,_,_,fn',hfn',_,_,_,_,hval⟩:=hok;have e:fn'=fn:=Option.some.inj (hfn'.symm.trans hfn);subst e;obtain⟨⟨⟨ds,gs,before,hw,hc⟩,hx⟩,hz⟩:=hpre;have hw':=DataW.Whole.of_heap (w':=w.forCall tape i) (by rfl) hw;refine(contract (w.forCall tape i) w.heap.size i.args ds gs before hval hw' (hX _ _ _ (by rfl) hx) hsh).mono fun e W' ⟨v,he,hp⟩=>?_;subst he;exact ChangeSpec.post_blind hp
end
abbrev laid55:List (String×DataW Unit):=[("math/bits.deBruijn32tab",Rows.laid_math_bits_deBruijn32tab),("math/bits.deBruijn64tab",Rows.laid_math_bits_deBruijn64tab),("internal/strconv.uint64pow10",Rows.laid_internal_strconv_uint64pow10)]
theorem pow10_laid:(Rows.laid_internal_strconv_uint64pow10:DataW Unit)=Lib.tabData .u64 Lib.pow10Tab:=rfl
theorem tab_of_laid{W:World}(h:laidMetH Tryz.prog laid55 W):Tab W:=by
 rw[MakeChecks.laidMetH_plain _ _ _ (by kernel_rfl)] at h;have h3:=h.tail.tail;rw[pow10_laid] at h3;exact Lib.tabIs_of_head pow10_global (by kernel_rfl) underlying205 underlying170 (by kernel_rfl) (by kernel_rfl) h3
theorem mx_of_shaped{W:World}(h:W.ShapedOpen Tryz.prog):Mx W:=
 cell_of_shapedOpen_int (zero:=#[vi vk 0]) h (of_decide_eq_true (by kernel_rfl)) (by kernel_rfl) rfl (by kernel_rfl) (by kernel_rfl) underlying3
theorem door55(os:Os)(args:Array Value):laidMetH Tryz.prog laid55 ((World.doorLaid Tryz.prog 4000 os).forCall (fun _ _=>0) ⟨#[],args,[]⟩).memory:=
 laidMetH_of_parts3 (fuel:=8) (laidMet_of_run' 8 (by kernel_rfl) (by kernel_rfl)) (by kernel_rfl) (by kernel_rfl)
end
end Go.Proofs.YtdeiofgddhbdaaaGreatDoor
