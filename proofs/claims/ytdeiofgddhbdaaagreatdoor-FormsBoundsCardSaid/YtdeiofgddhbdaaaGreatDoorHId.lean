/- angle.Text and forms.tenths: the text of a multiple of a tenth is read as that number, and as nothing else. -/
import Derived.Lib.ConvBytes
import Derived.Deep.Cut
import Derived.Deep.CutRange
import Derived.Test.YtdeiofgddhbdaaaGreatDoorHIB
set_option linter.unusedSimpArgs false
set_option linter.unusedVariables false
set_option maxHeartbeats 4000000
set_option maxRecDepth 100000
open Go.RowKit
open Go.Lib (hid)
open Go.Proofs.Tryz
open Go.Value renaming int→vi
open Go.IntKind renaming i64→vk
namespace Go.Proofs.YtdeiofgddhbdaaaGreatDoor
section
open Go.Shelf Frm
open Lib (decDigits)
theorem tx_size(l:Bs):(⟨l.toArray⟩:ByteArray).size=l.length:=by show l.toArray.size=_;simp
theorem tx_add(x y:Bs)(hx:x.length≤1000000)(hy:y.length≤1000000): ∀W,(Op.stringOp .add ⟨x.toArray⟩ ⟨y.toArray⟩).run Tryz.prog W=.ok (tx (x++y)) W:=fun W=>run_string_add_lists W x y om_ om_
theorem padded_any(n:Nat)(k:Nat)(w:World)(h1:n<100000000)(hk:0<k)(hk1:k≤8)(ht:Tab w):
 Calls Tryz.prog 78 #[vi vk (n:Int),vi vk (k:Int)] w fun e w'=>e=.returned (tx (dgs n k))∧Below w.heap.size w w':=by
 have K1:=itoa_any (n:Int) w om_ om_ ht;rw[itoa_nat] at K1;have hl:=dd_len 7 n (by simpa using h1);have hd:=dgs_pad (n:=n) hk;generalize decDigits n=D at K1 hl hd;have hsz:=tx_size D;obtain⟨d,hd0⟩: ∃d,D.length=d:=⟨_,rfl⟩;rw[hd0] at hsz hd hl;have hs1:wrap64 ((k:Int)-(d:Int))=(k:Int)-(d:Int):=IntWalk.wrap64_in _ om_;have hmx:max 0 ((k:Int)-(d:Int))=((k-d:Nat):Int):=by omega
 have K2:=hid (fun W=>repeat_any ⟨#[48]⟩ (k-d) W om_ (by show 1*(k-d)≤_;omega));have hrp:Lib.repeatL (⟨#[48]⟩:ByteArray).data.toList (k-d)=List.replicate (k-d) 48:=rep48 _;rw[hrp] at K2;have ha:=tx_add (List.replicate (k-d) 48) D (by simp;omega) om_;rw[←hd] at ha;have K1:=hid K1;generalize List.replicate (k-d) (48:UInt8)=R at K2 ha;clear ht hd hrp hd0;go_enter func78,ntmps78;go_wp2_with fail;(with_reducible refine(K1.out).mono ?_)
 rintro e w1 ⟨rfl,hb1⟩
 have B1:=hid hb1;clear hb1 K1;go_wp2_with fail;(with_reducible refine(K2.out _).mono ?_)
 rintro e w2 ⟨rfl,hb2⟩
 have B2:=hid (B1.out.trans (hb2.mono B1.out.size));clear hb2 K2;go_wp2;go_ret;exact⟨rfl,B2.out⟩
theorem text_any(n:Int)(w:World)(hn:n.natAbs≤1099511627776)(ht:Tab w):
 Calls Tryz.prog 45 #[vi vk n] w fun e w'=>e=.returned (tx (textL n))∧Below w.heap.size w w':=by
 have hI0:IsB w.heap.size w.heap.size [] (w.alloc (.cells #[.pointer none,.slice none 0 0] 117)):=Lib.fresh_isBuilder 117 5 w;have I0:=hid hI0;have B0:=hid (bl_alloc w (.cells #[.pointer none,.slice none 0 0] 117));obtain⟨m,hm⟩: ∃m,n.natAbs=m:=⟨_,rfl⟩;have htx:textL n=(if n<0 then[45] else[])++(decDigits (m/60000)++45::(dgs (m%60000/1000) 2++46::(if m%1000%100=0 then decDigits (m%1000/100) else dgs (m%1000) 3))):=by rw[←hm];rfl
 have KI:=hid (fun(k:Nat) (W:World) (hk:k<100000000) (h:Below w.heap.size w W)=>itoa_any (k:Int) W om_ om_ (ht.stays h (Nat.le_refl _)));have KP:=hid (fun(k j:Nat) (W:World) (hk:k<100000000) (hj:0<j) (hj1:j≤8) (h:Below w.heap.size w W)=>padded_any k j W hk hj hj1 (ht.stays h (Nat.le_refl _)));have l1:=dd_len 7 (m/60000) om_;have l2:(dgs (m%60000/1000) 2).length=2:=dgs_len 2 _ om_;have l3:=dd_len 7 (m%1000/100) om_;have l4:(dgs (m%1000) 3).length=3:=dgs_len 3 _ om_;obtain⟨d1,hd1⟩: ∃d,m/60000=d:=⟨_,rfl⟩;obtain⟨d2,hd2⟩: ∃d,m%60000=d:=⟨_,rfl⟩;obtain⟨d3,hd3⟩: ∃d,d2/1000=d:=⟨_,rfl⟩;obtain⟨d4,hd4⟩: ∃d,m%1000=d:=⟨_,rfl⟩;obtain⟨d5,hd5⟩: ∃d,d4/100=d:=⟨_,rfl⟩;obtain⟨d6,hd6⟩: ∃d,d4%100=d:=⟨_,rfl⟩;have q1:((m:Int)).tdiv 60000=(d1:Int):=by rw[Int.tdiv_eq_ediv_of_nonneg om_];omega
 have q2:((m:Int)).tmod 60000=(d2:Int):=by rw[Int.tmod_eq_emod_of_nonneg om_];omega
 have q3:((d2:Int)).tdiv 1000=(d3:Int):=by rw[Int.tdiv_eq_ediv_of_nonneg om_];omega
 have q4:((m:Int)).tmod 1000=(d4:Int):=by rw[Int.tmod_eq_emod_of_nonneg om_];omega
 have q5:((d4:Int)).tmod 100=(d6:Int):=by rw[Int.tmod_eq_emod_of_nonneg om_];omega
 have q6:((d4:Int)).tdiv 100=(d5:Int):=by rw[Int.tdiv_eq_ediv_of_nonneg om_];omega
 have hb1:d1<100000000:=by omega
 have hb2:d3<100000000:=by omega
 have hb3:d5<100000000:=by omega
 have hb4:d4<100000000:=by omega
 have hok:m≤1099511627776:=by omega
 rw[hd1] at l1;rw[hd2,hd3] at l2;rw[hd4,hd5] at l3;rw[hd4] at l4;rw[hd1,hd2,hd3,hd4,hd5,hd6] at htx;clear hd1 hd2 hd3 hd4 hd5 hd6;have HM:=hid hm;have HTX:=hid htx;clear hI0 ht htx hm;go_enter func45,ntmps45;go_upto_region 2 with (fail)
 generalize w.alloc (.cells #[.pointer none,.slice none 0 0] 117)=w1 at I0 B0⊢;obtain⟨l0,hl0⟩: ∃l0:Bs,(if n<0 then[45] else[])=l0:=⟨_,rfl⟩;have hfin:textL n=l0++(decDigits (d1)++[45]++dgs (d3) 2++[46])++(if d6=0 then decDigits (d5) else dgs (d4) 3):=by
  rw[HTX.out,hl0];simp
 have HF:=hid hfin;clear hfin HTX;rcases Int.lt_or_le n 0 with hneg|hpos
 case' inl=>
  obtain rfl:n= -(m:Int):=by have:=HM.out;omega
  have dn:decide (-(m:Int)<0)=true:=decide_eq_true hneg;rw[if_pos hneg] at hl0;have KW:=hid (writeMinus_any w.heap.size w.heap.size [] w1 I0.out (by simp) B0.out.size);go_wp2_with fail;(with_reducible refine(KW.out).mono ?_)
  rintro e w2 ⟨rfl,hI2,hb2'⟩
  have I2:Hid (IsB w.heap.size w.heap.size l0 w2):=hid (by rw[←hl0];exact hI2);have B2:=hid (B0.out.trans hb2');have L0:l0.length≤1:=by rw[←hl0];simp
  have hng:wrap64 (m:Int)=(m:Int):=IntWalk.wrap64_in _ om_;clear hI2 hb2' KW I0 B0 dn hneg hl0;go_upto_region 5 with (fail)
 case' inr=>
  obtain rfl:n=(m:Int):=by have:=HM.out;omega
  have dn:decide ((m:Int)<0)=false:=decide_eq_false om_;rw[if_neg om_] at hl0;have I2:Hid (IsB w.heap.size w.heap.size l0 w1):=hid (by rw[←hl0];exact I0.out);have L0:l0.length≤1:=by rw[←hl0];simp
  have B2:=B0;go_upto_region 5 with (fail)
  clear I0 B0 dn hl0 hpos;rename World=>w2
 all_goals
  have KI1:=KI.out (d1) w2 hb1 B2.out;rw[itoa_nat] at KI1;have KP2:=fun(W:World) (h:Below w.heap.size w W)=>KP.out (d3) 2 W hb2 dc_ dc_ h;rw[show((2:Nat):Int)=2 from rfl] at KP2;generalize decDigits (d1)=D at KI1 HF l1;generalize dgs (d3) 2=G2 at KP2 HF l2;have KI1:=hid KI1;have KP2:=hid KP2;have ha1:=tx_add D [45] om_ (by simp);have ha2:=tx_add (D++[45]) G2 (by simp;omega) om_;have ha3:=tx_add (D++[45]++G2) [46] (by simp;omega) (by simp);have L3:(D++[45]++G2++[46]).length≤20:=by simp;omega
  generalize D++[45]=E1 at ha1 ha2 ha3 HF L3;generalize E1++G2=E2 at ha2 ha3 HF L3;generalize E2++[46]=E3 at ha3 HF L3;go_wp2_with fail;(with_reducible refine(KI1.out).mono ?_)
  rintro e w3 ⟨rfl,hb3⟩
  have B3:=hid (B2.out.trans (hb3.mono B2.out.size));have I3:=hid (I2.out.bl hb3);have KP3:=hid (KP2.out w3 B3.out);clear hb3 KI1 I2 B2 KP2;go_wp2_with fail;(with_reducible refine(KP3.out).mono ?_)
  rintro e w4 ⟨rfl,hb4⟩
  have B4:=hid (B3.out.trans (hb4.mono B3.out.size));have I4:=hid (I3.out.bl hb4);have KS:=hid (writeString_any w.heap.size w.heap.size l0 E3 w4 I4.out om_ om_ B4.out.size);clear hb4 KP3 I3 B3;go_wp2_with fail;(with_reducible refine(KS.out).mono ?_)
  rintro e w5 ⟨⟨k5,rfl⟩,hI5,hb5⟩
  have I5:=hid hI5;have B5:=hid (B4.out.trans hb5);clear hI5 hb5 KS I4 B4 ha1 ha2 ha3;have L5:(l0++E3).length≤100:=by rw[List.length_append];omega
  generalize l0++E3=l5 at I5 HF L5;by_cases h0:d6=0
  · have hbe:((d6:Int)==0)=true:=by rw[h0];rfl
    have KI2:=KI.out (d5) w5 hb3 B5.out;rw[itoa_nat] at KI2;rw[if_pos h0] at HF;generalize decDigits (d5)=T at KI2 HF l3;have KI2:=hid KI2;clear KI KP h0;go_wp2_with fail;(with_reducible refine(KI2.out).mono ?_)
    rintro e w6 ⟨rfl,hb6⟩
    have B6:=hid (B5.out.trans (hb6.mono B5.out.size));have I6:=hid (I5.out.bl hb6);have KS:=hid (writeString_any w.heap.size w.heap.size l5 T w6 I6.out om_ om_ B6.out.size);clear hb6 KI2 I5 B5;go_wp2_with fail;(with_reducible refine(KS.out).mono ?_)
    rintro e w7 ⟨⟨k7,rfl⟩,hI7,hb7⟩
    rw[←HF.out] at hI7;have B7:=hid (B6.out.trans hb7);have KT:=hid (bString_any w.heap.size w.heap.size _ w7 hI7 B7.out.size);clear hI7 hb7 KS I6 B6 HF;go_wp2_with fail;(with_reducible refine(KT.out).mono ?_)
    rintro e w8 ⟨rfl,hb8⟩
    have B8:=hid (B7.out.trans hb8);clear hb8 KT B7;go_wp2;go_ret;exact⟨rfl,B8.out⟩
  · have hbe:((d6:Int)==0)=false:=by simpa using h0
    have KI2:=KP.out (d4) 3 w5 hb4 dc_ dc_ B5.out;rw[show((3:Nat):Int)=3 from rfl] at KI2;rw[if_neg h0] at HF;generalize dgs (d4) 3=T at KI2 HF l4;have KI2:=hid KI2;clear KI KP h0;go_wp2_with fail;(with_reducible refine(KI2.out).mono ?_)
    rintro e w6 ⟨rfl,hb6⟩
    have B6:=hid (B5.out.trans (hb6.mono B5.out.size));have I6:=hid (I5.out.bl hb6);have KS:=hid (writeString_any w.heap.size w.heap.size l5 T w6 I6.out om_ om_ B6.out.size);clear hb6 KI2 I5 B5;go_wp2_with fail;(with_reducible refine(KS.out).mono ?_)
    rintro e w7 ⟨⟨k7,rfl⟩,hI7,hb7⟩
    rw[←HF.out] at hI7;have B7:=hid (B6.out.trans hb7);have KT:=hid (bString_any w.heap.size w.heap.size _ w7 hI7 B7.out.size);clear hI7 hb7 KS I6 B6 HF;go_wp2_with fail;(with_reducible refine(KT.out).mono ?_)
    rintro e w8 ⟨rfl,hb8⟩
    have B8:=hid (B7.out.trans hb8);clear hb8 KT B7;go_wp2;go_ret;exact⟨rfl,B8.out⟩
end
section
open Go.Shelf Frm
open Lib (decDigits)
theorem getD_take(l:Bs){k:Nat}(h:k<l.length):l.take (k+1)=l.take k++[l.getD k 0]:=by
 rw[List.take_succ_eq_append_getElem h];congr 2
 rw[List.getD_eq_getElem?_getD,List.getElem?_eq_getElem h];rfl
theorem dig_bad{l:Bs}{k:Nat}(h:k<l.length)(hb:isD (l.getD k 0)=false):digP l=(0,false):=by
 unfold digP;rw[if_neg];intro ha;rw[List.all_eq_true] at ha;have hm:l.getD k 0∈l:=by rw[List.getD_eq_getElem?_getD,List.getElem?_eq_getElem h];exact List.getElem_mem h
 rw[ha _ hm] at hb;cases hb
theorem bytes_below(w:World)(e:TypeId)(s:ByteArray):Below w.heap.size w (Lib.bytesWorld w e s):=
 ⟨rfl,rfl,rfl,by rw[Lib.bytesWorld_size];omega,fun k hk=>Lib.bytesWorld_at_old w e s k hk⟩
theorem digits_any(l:Bs)(w:World)(hl:l.length≤1000):
 Calls Tryz.prog 102 #[tx l] w fun e w'=>e=.returned (.tuple #[vi vk ((digP l).1:Int),.bool (digP l).2])∧Below w.heap.size w w':=by
 have hcv:=Lib.run_convert_string_bytes (P:=Tryz.prog) w 9 115 5 ⟨l.toArray⟩ (u:=.string) underlying9 underlying115 underlying5;have hb:=bytes_below w 5 ⟨l.toArray⟩;have hc: ∀j,j<l.length→(Lib.bytesWorld w 5 ⟨l.toArray⟩).cell? ⟨w.heap.size,j,none⟩=some (.int .u8 (l.getD j 0).toNat):=fun j hj=>Lib.bytesWorld_cell w _ ⟨l.toArray⟩ j (by rw[tx_size];exact hj);have hsz:=tx_size l;rw[hsz] at hcv;have hcap:l.length≤grownCap w l.length 0 5:=by
  exact grownCap_ge _ _ _ _
 generalize Lib.bytesWorld w 5 ⟨l.toArray⟩=w1 at hcv hb hc;generalize grownCap w l.length 0 5=cp at hcv hcap;obtain⟨n,hn⟩: ∃n,l.length=n:=⟨_,rfl⟩;have HC:=hid hc;have HN:=hid hn;rw[hn] at hcv hcap hl;clear hc hn hsz;go_enter func102,ntmps102;go_wp2;go_loopg [4,10] n (fun gz s4 s10 wr=> ∃k:Nat,k≤n∧n-k≤gz∧s10=vi vk (k:Int)∧s4=vi vk ((numV (l.take k):Nat):Int)∧(∀c∈l.take k,isD c=true)∧wr=w1)
 case atStart=>exact⟨0,Nat.zero_le _,om_,rfl,rfl,fun c hc=>by simp at hc,rfl⟩
 case round=>
  obtain⟨k,hk,hg,rfl,rfl,hall,rfl⟩:=hrel;have HA:=hid hall;have hv:=numV_le (l.take k);clear hall;by_cases hlt:k<n
  · have x:=HC.out k (by rw[HN.out];exact hlt)
    have ht:=getD_take l (k:=k) (by rw[HN.out];exact hlt);have hbad:=dig_bad (l:=l) (k:=k) (by rw[HN.out];exact hlt);have hnx:=numV_app (l.take k) (l.getD k 0);rw[←ht] at hnx;have HT:=hid ht;obtain⟨c,hc⟩: ∃c,l.getD k 0=c:=⟨_,rfl⟩;rw[hc] at x hbad hnx HT;have hc2:c.toNat<256:=c.toNat_lt;obtain⟨z,hz⟩: ∃z,c.toNat=z:=⟨_,rfl⟩;rw[hz] at x hnx hc2;generalize numV (l.take k)=v at hv hnx⊢;have HX:=hid hnx;clear ht hnx;by_cases hd:48≤z∧z≤57
    · have hdc:isD c=true:=by unfold isD;rw[hz];simp;omega
      have d0:decide ((z:Int)<48)=false:=decide_eq_false om_;have d1:decide ((57:Int)<(z:Int))=false:=decide_eq_false om_;have HD:=hid hdc;clear hbad hdc;go_wp2;go_roundg (n-(k+1))
      case measure=>omega
      case rel=>
       refine⟨k+1,om_,om_,by go_num,congrArg (Value.int .i64) (by rw[HX.out];omega),fun x hx=>?_,rfl⟩;rw[HT.out] at hx;rcases List.mem_append.1 hx with h|h
       · exact HA.out x h
       · simp at h;subst h;exact HD.out
    · have hdc:isD c=false:=by unfold isD;rw[hz];simp;omega
      have hr:=hbad hdc;rcases Nat.lt_or_ge z 48 with h1|h1
      · have d0:decide ((z:Int)<48)=true:=decide_eq_true om_
        clear hbad hdc hd;go_wp2;go_ret2
        exact⟨by rw[hr];rfl,hb⟩
      · have d0:decide ((z:Int)<48)=false:=decide_eq_false om_
        have d1:decide ((57:Int)<(z:Int))=true:=decide_eq_true om_;clear hbad hdc hd;go_wp2;go_ret2
        exact⟨by rw[hr];rfl,hb⟩
  · obtain rfl:k=n:=by omega
    have hall:l.all isD=true:=by
     have:=HA.out;rw[List.take_of_length_le (by rw[HN.out];exact Nat.le_refl _)] at this;exact List.all_eq_true.2 this
    have hr:digP l=(numV l, !l.isEmpty):=by unfold digP;rw[if_pos hall]
    have HR:=hid hr;clear hr hall;have hlk:l.take k=l:=List.take_of_length_le (by rw[HN.out];exact Nat.le_refl _);rw[hlk];go_wp2;go_ret2
    exact⟨by simp[HR.out],hb⟩
theorem cutPrefix_tx(s p:Bs)(w:World):
 Calls Tryz.prog 101 #[tx s,tx p] w fun e w'=>e=.returned (.tuple #[tx (Lib.trimPrefix s p),.bool (Lib.hasPrefix s p)])∧w'=w:=cutPrefix_any ⟨s.toArray⟩ ⟨p.toArray⟩ w
theorem cut_tx(s p:Bs)(w:World)(hs:s.length<4294967281)(hm:Mx w):
 Calls Tryz.prog 36 #[tx s,tx p] w fun e w'=>e=.returned (.tuple #[tx (Lib.cut s p).1,tx (Lib.cut s p).2.1,.bool (Lib.cut s p).2.2])∧Below w.heap.size w w':=cut_any ⟨s.toArray⟩ ⟨p.toArray⟩ w (by rw[tx_size];exact hs) hm
theorem trim_len(s p:Bs):(Lib.trimPrefix s p).length≤s.length:=by
 unfold Lib.trimPrefix;split
 · rw[List.length_drop];omega
 · exact Nat.le_refl _
theorem cut_len(s p:Bs):(Lib.cut s p).1.length≤s.length∧(Lib.cut s p).2.1.length≤s.length:=by
 unfold Lib.cut;split
 · exact⟨by rw[List.length_take];omega,by rw[List.length_drop];omega⟩
 · simp
theorem Mx.stays{w w':World}(h:Mx w)(hb:Below w.heap.size w w'):Mx w':=by
 obtain⟨m,hm⟩:=h;have hlt:=World.block_lt_of_cell? w _ hm;exact⟨m,(hb.cell (p:=⟨0,0,none⟩) hlt).trans hm⟩
theorem getB{s:Bs}{k:Nat}{c:UInt8}(h:s[k]? =some c): ∀(hh:k<(⟨s.toArray⟩:ByteArray).size),(⟨s.toArray⟩:ByteArray)[k]'hh=c:=by
 obtain⟨hk,rfl⟩:=List.getElem?_eq_some_iff.1 h;intro hh;rfl
end
section
open Go.Shelf Frm
open Lib (decDigits)
def fitB(n:Int):Bool:=decide (-1099511627776≤n∧n≤1099511627776)
theorem fitsI_any(n:Int)(w:World):Calls Tryz.prog 44 #[vi vk n] w fun e w'=>e=.returned (.bool (fitB n))∧w'=w:=by
 unfold fitB;by_cases h0: -1099511627776≤n
 · have d0:decide (-1099511627776≤n)=true:=decide_eq_true h0
   go_enter func44,ntmps44;go_wp2;go_ret;exact⟨by simp[h0],rfl⟩
 · have d0:decide (-1099511627776≤n)=false:=decide_eq_false h0
   go_enter func44,ntmps44;go_wp2;go_ret;exact⟨by simp,rfl⟩
theorem endP_eq(neg:Bool)(d m t:Nat)(hd:d≤1099511627776):endP neg d m t=if fitB ((d*60000+m*1000+t:Nat):Int)=true then(if neg=true then-((d*60000+m*1000+t:Nat):Int) else((d*60000+m*1000+t:Nat):Int),0) else(0,5):=by
 unfold endP fitB;rw[if_neg om_];generalize d*60000+m*1000+t=z;by_cases h:1099511627776<z
 · have hd2: ¬decide (-1099511627776≤(z:Int)∧(z:Int)≤1099511627776)=true:=by rw[decide_eq_true_eq];omega
   rw[if_pos h,if_neg hd2]
 · have hd2:decide (-1099511627776≤(z:Int)∧(z:Int)≤1099511627776)=true:=decide_eq_true om_
   rw[if_neg h,if_pos hd2]
structure PrsOk(s D M P:Bs)(ok pt:Bool)(neg:Bool):Prop where
 lD:D.length≤1000
 lM:M.length≤1000
 lP:P.length≤1000
 val:parseP s=if pt=true∧((digP P).2=false∨3<P.length) then(0,7)
  else if ok=false∨(digP D).2=false∨(digP M).2=false∨(1<D.length∧D.head?=some 48)∨M.length≠2∨60≤(digP M).1 then(0,7)
  else endP neg (digP D).1 (digP M).1 (if pt=true then(digP P).1*10^(3-P.length) else 0)
theorem parse_any(s:Bs)(w:World)(hl:s.length≤1000)(hm:Mx w):
 Calls Tryz.prog 72 #[tx s] w fun e w'=>e=.returned (.tuple #[vi vk (parseP s).1,vi vk (parseP s).2])∧Below w.heap.size w w':=by
 have K0:=cutPrefix_tx s [45] w;have h0:=trim_len s [45];have hPO: ∀D R M P ok pt,Lib.cut (Lib.trimPrefix s [45]) [45]=(D,R,ok)→Lib.cut R [46]=(M,P,pt)→PrsOk s D M P ok pt (Lib.hasPrefix s [45]):=fun D R M P ok pt e1 e2=>by
  have a1:=cut_len (Lib.trimPrefix s [45]) [45];have a2:=cut_len R [46];rw[e1] at a1;rw[e2] at a2;simp only[] at a1 a2;refine⟨om_,om_,om_,?_⟩;unfold parseP;simp only[e1,e2]
 generalize Lib.trimPrefix s [45]=b at K0 h0 hPO;generalize Lib.hasPrefix s [45]=neg at K0 hPO;have hlb:b.length≤1000:=by omega
 have K1:=cut_tx b [45] w om_ hm;have a1:=cut_len b [45];obtain⟨⟨D,R,ok⟩,hc1⟩: ∃x,Lib.cut b [45]=x:=⟨_,rfl⟩;rw[hc1] at K1 a1;simp only[] at K1 a1;have K2:=hid (fun(W:World) (h:Below w.heap.size w W)=>cut_tx R [46] W om_ (hm.stays h));obtain⟨⟨M,P,pt⟩,hc2⟩: ∃x,Lib.cut R [46]=x:=⟨_,rfl⟩;rw[hc2] at K2;simp only[] at K2;have PO:=hid (hPO D R M P ok pt hc1 hc2);replace K0:=hid K0
 replace K1:=hid K1
 have KD:=hid (fun W=>digits_any D W PO.out.lD);have KM:=hid (fun W=>digits_any M W PO.out.lM);have KP:=hid (fun W=>digits_any P W PO.out.lP);have lD:=PO.out.lD;have lM:=PO.out.lM;have lP:=PO.out.lP;have VV:=hid PO.out.val;have bD:=digP_le D;have bM:=digP_le M;have bP:=digP_le P;have sD:=tx_size D;have sM:=tx_size M;have sP:=tx_size P;clear hPO hc1 hc2 hm a1 h0 hlb hl PO;obtain⟨⟨d,da⟩,hd⟩: ∃x,digP D=x:=⟨_,rfl⟩;obtain⟨⟨m,mb⟩,hmm⟩: ∃x,digP M=x:=⟨_,rfl⟩;obtain⟨⟨t,tc⟩,ht⟩: ∃x,digP P=x:=⟨_,rfl⟩;rw[hd] at KD VV bD;rw[hmm] at KM VV bM;rw[ht] at KP VV bP;simp only[] at KD KM KP bD bM bP VV;clear hd hmm ht;generalize parseP s=res at VV⊢;go_enter func72,ntmps72;clear bD bM sD sM sP;go_wp2_with fail;(with_reducible refine(K0.out).mono ?_)
 rintro e w1 ⟨rfl,rfl⟩
 go_wp2_with fail;(with_reducible refine(K1.out).mono ?_)
 rintro e w2 ⟨rfl,hb2⟩
 have B2:=hid hb2;have K3:=hid (K2.out w2 hb2);clear hb2 K0 K1 K2;go_wp2_with fail;(with_reducible refine(K3.out).mono ?_)
 rintro e w3 ⟨rfl,hb3⟩
 have B3:=hid (B2.out.trans (hb3.mono B2.out.size));clear hb3 K3 B2;go_wp2_with fail;(with_reducible refine(KD.out _).mono ?_)
 rintro e w4 ⟨rfl,hb4⟩
 have B4:=hid (B3.out.trans (hb4.mono B3.out.size));clear hb4 KD B3;go_wp2_with fail;(with_reducible refine(KM.out _).mono ?_)
 rintro e w5 ⟨rfl,hb5⟩
 have B5:=hid (B4.out.trans (hb5.mono B4.out.size));clear hb5 KM B4;obtain⟨T,hT⟩: ∃T:Nat,(if pt=true then t*10^(3-P.length) else 0)=T:=⟨_,rfl⟩;have VT:=VV.out;rw[hT] at VT;have VV:=hid VT;clear VT;go_upto_if 46 with (fail)
 go_cut [16] from 46 to 111 (fun s16 wx=>s16=vi vk (T:Int)∧Below w1.heap.size w1 wx∧ ¬(pt=true∧(tc=false∨3<P.length)))
 case first=>
  cases pt with
  |true=>
   go_wp2_with fail;(with_reducible refine(KP.out _).mono ?_)
   rintro e w6 ⟨rfl,hb6⟩
   have B6:=hid (B5.out.trans (hb6.mono B5.out.size));clear hb6 KP B5;cases tc with
   |false=>
    obtain rfl:res=(0,7):=by have:=VV.out;simpa using this
    clear VV hT;go_wp2;go_ret2
    exact⟨rfl,B6.out⟩
   |true=>
   by_cases h3:3<P.length
   · obtain rfl:res=(0,7):=by have:=VV.out;simpa [h3] using this
     have d3:decide ((3:Int)<(P.length:Int))=true:=decide_eq_true om_;clear VV hT;go_wp2;go_ret2
     exact⟨rfl,B6.out⟩
   have d3:decide ((3:Int)<(P.length:Int))=false:=decide_eq_false om_;obtain⟨r,hr⟩: ∃r:Nat,3-P.length=r:=⟨_,rfl⟩;have hr2:(3:Int)-(P.length:Int)=(r:Int):=by omega
   have r3:r≤3:=by omega
   have hT2:t*10^r=T:=by rw[←hT];simp[hr]
   have HT2:=hid hT2;have H3:=hid h3;clear hT hT2 hr h3;go_wp2;go_loopg [16,62] r (fun gz s16 s62 wr=> ∃j:Nat,j≤r∧r-j≤gz∧s62=vi vk (j:Int)∧s16=vi vk ((t*10^j:Nat):Int)∧wr=w6)
   case atStart=>exact⟨0,Nat.zero_le _,om_,rfl,by simp,rfl⟩
   case round=>
    obtain⟨j,hj,hg,rfl,rfl,rfl⟩:=hrel;have hpw:10^j≤10^3:=Nat.pow_le_pow_right dc_ om_;have hub:t*10^j≤1125899906842624*1000:=Nat.mul_le_mul bP hpw;obtain⟨u,hu⟩: ∃u,t*10^j=u:=⟨_,rfl⟩;rw[hu] at hub⊢;by_cases hlt:j<r
    · have dj:decide ((j:Int)<(r:Int))=true:=decide_eq_true om_
      have hnx:((u:Int))*10=((t*10^(j+1):Nat):Int):=by rw[Nat.pow_succ,←Nat.mul_assoc,hu];omega
      have HNX:=hid hnx;have hpw2:10^j≤10^2:=Nat.pow_le_pow_right dc_ om_;have hub2:t*10^j≤1125899906842624*100:=Nat.mul_le_mul bP hpw2;rw[hu] at hub2;have hw9:wrap64 ((u:Int)*10)=(u:Int)*10:=IntWalk.wrap64_in _ om_;clear hnx;go_wp2;go_roundg (r-(j+1))
      case measure=>omega
      case rel=>exact⟨j+1,om_,om_,by go_num,congrArg (Value.int .i64) HNX.out,rfl⟩
    · obtain rfl:j=r:=by omega
      have dj:decide ((j:Int)<(j:Int))=false:=decide_eq_false om_;have HU:=hid hu;clear hu hpw;go_wp2_with fail;go_meet
      case rel=>exact⟨congrArg (fun n:Nat=>vi vk (n:Int)) (HU.out.symm.trans HT2.out),B6.out,fun h=>h.2.elim (fun q=>by cases q) (fun q=>H3.out q)⟩
  |false=>
   go_wp2_with fail;go_meet
   case rel=>exact⟨by rw[←hT];rfl,B5.out,fun h=>by cases h.1⟩
 case rest=>
 obtain⟨rfl,hbc,hnp⟩:=hcut;have BC:=hid hbc;have VT:=VV.out;rw[if_neg hnp] at VT;have tT:T≤1125899906842624*1000:=by
  rw[←hT];split
  · exact Nat.mul_le_mul bP (Nat.pow_le_pow_right dc_ om_:10^(3-P.length)≤10^3)
  · omega
 have bD:=digP_le D;have VV:=hid VT;clear hbc hnp hT VT KP B5 lP bP;obtain⟨bad,hbad⟩: ∃bad:Bool,(bad=true↔(ok=false∨da=false∨mb=false∨(1<D.length∧D.head?=some 48)∨M.length≠2∨60≤m)):=⟨decide (ok=false∨da=false∨mb=false∨(1<D.length∧D.head?=some 48)∨M.length≠2∨60≤m),decide_eq_true_iff⟩;have HB:=hid hbad;clear hbad;go_upto_region 16 with (fail)
 go_cut [95] from 67 to 111 (fun c wx=>c=.bool bad∧wx=wc)
 case first=>
  clear VV BC;cases ok with
  |false=>
   obtain rfl:bad=true:=HB.out.2 (by simp);clear HB;go_wp2_with fail;go_meet
   case rel=>exact⟨rfl,rfl⟩
  |true=>
  cases da with
  |false=>
   obtain rfl:bad=true:=HB.out.2 (by simp);clear HB;go_wp2_with fail;go_meet
   case rel=>exact⟨rfl,rfl⟩
  |true=>
  cases mb with
  |false=>
   obtain rfl:bad=true:=HB.out.2 (by simp);clear HB;go_wp2_with fail;go_meet
   case rel=>exact⟨rfl,rfl⟩
  |true=>
  cases D with
  |nil=>
   have dl:decide ((1:Int)<0)=false:=by decide
   by_cases hM:M.length=2
   · have hM1:((M.length:Int) != 2)=false:=by rw[hM];rfl
     by_cases h60:60≤m
     · have d6:decide ((60:Int)≤(m:Int))=true:=decide_eq_true om_
       obtain rfl:bad=true:=HB.out.2 (by simp[h60]);clear HB hM h60;go_wp2_with fail;go_meet
       case rel=>exact⟨rfl,rfl⟩
     · have d6:decide ((60:Int)≤(m:Int))=false:=decide_eq_false om_
       obtain rfl:bad=false:=by cases bad with|false=>rfl|true=>(have:=HB.out.1 rfl;simp at this;omega)
       clear HB hM h60;go_wp2_with fail;go_meet
       case rel=>exact⟨rfl,rfl⟩
   · have hM1:((M.length:Int) != 2)=true:=by simp;omega
     obtain rfl:bad=true:=HB.out.2 (by simp[hM]);clear HB hM;go_wp2_with fail;go_meet
     case rel=>exact⟨rfl,rfl⟩
  |cons x D'=>
   have hl2:(x::D').length=D'.length+1:=rfl;have g0:=getB (s:=x::D') (k:=0) (c:=x) rfl;by_cases hl1:1<(x::D').length
   · have dl:decide ((1:Int)<(D'.length:Int)+1)=true:=decide_eq_true om_
     by_cases hc:x=48
     · subst hc
       clear hl2;obtain rfl:bad=true:=HB.out.2 (.inr (.inr (.inr (.inl ⟨hl1,rfl⟩))));clear HB hl1;go_wp2_with fail;go_meet
       case rel=>exact⟨rfl,rfl⟩
     · have hcn:x.toNat≠48:=fun h=>hc (UInt8.toNat_inj.1 h)
       have hc2:((x.toNat:Int)==48)=false:=by simp;omega
       by_cases hM:M.length=2
       · have hM1:((M.length:Int) != 2)=false:=by rw[hM];rfl
         by_cases h60:60≤m
         · have d6:decide ((60:Int)≤(m:Int))=true:=decide_eq_true om_
           obtain rfl:bad=true:=HB.out.2 (by simp[h60]);clear HB hM h60 hl1 hl2 hc hcn;go_wp2_with fail;go_meet
           case rel=>exact⟨rfl,rfl⟩
         · have d6:decide ((60:Int)≤(m:Int))=false:=decide_eq_false om_
           obtain rfl:bad=false:=by cases bad with|false=>rfl|true=>(have:=HB.out.1 rfl;simp[hc] at this;omega)
           clear HB hM h60 hl1 hl2 hc hcn;go_wp2_with fail;go_meet
           case rel=>exact⟨rfl,rfl⟩
       · have hM1:((M.length:Int) != 2)=true:=by simp;omega
         obtain rfl:bad=true:=HB.out.2 (by simp[hM]);clear HB hM hl1 hl2 hc hcn;go_wp2_with fail;go_meet
         case rel=>exact⟨rfl,rfl⟩
   · have dl:decide ((1:Int)<(D'.length:Int)+1)=false:=decide_eq_false om_
     by_cases hM:M.length=2
     · have hM1:((M.length:Int) != 2)=false:=by rw[hM];rfl
       by_cases h60:60≤m
       · have d6:decide ((60:Int)≤(m:Int))=true:=decide_eq_true om_
         obtain rfl:bad=true:=HB.out.2 (by simp[h60]);clear HB hM h60 hl1 hl2;go_wp2_with fail;go_meet
         case rel=>exact⟨rfl,rfl⟩
       · have d6:decide ((60:Int)≤(m:Int))=false:=decide_eq_false om_
         obtain rfl:bad=false:=by cases bad with|false=>rfl|true=>(rcases HB.out.1 rfl with h|h|h|⟨h,_⟩|h|h;cases h;cases h;cases h;exact absurd h hl1;exact absurd hM h;omega)
         clear HB hM h60 hl1 hl2;go_wp2_with fail;go_meet
         case rel=>exact⟨rfl,rfl⟩
     · have hM1:((M.length:Int) != 2)=true:=by simp;omega
       obtain rfl:bad=true:=HB.out.2 (by simp[hM]);clear HB hM hl1 hl2;go_wp2_with fail;go_meet
       case rel=>exact⟨rfl,rfl⟩
 case rest=>
 obtain⟨rfl,rfl⟩:=hcut;have hcond:(ok=false∨da=false∨mb=false∨(1<D.length∧D.head?=some 48)∨M.length≠2∨60≤m)↔bad=true:=HB.out.symm;have VT:=VV.out;clear VV HB;cases bad with
 |true=>
  rw[if_pos (hcond.2 rfl)] at VT;subst VT;clear hcond;go_wp2;go_ret2
  exact⟨rfl,BC.out⟩
 |false=>
 have hm60:m<60:=by
  rcases Nat.lt_or_ge m 60 with h|h
  · exact h
  · exact absurd (hcond.1 (.inr (.inr (.inr (.inr (.inr h)))))) (by simp)
 rw[if_neg (fun h=>by simpa using hcond.1 h)] at VT;clear hcond;by_cases hd:d≤1099511627776
 · have d7:decide ((1099511627776:Int)<(d:Int))=false:=decide_eq_false om_
   rw[endP_eq _ _ _ _ hd] at VT;have hz1:wrap64 ((d:Int)*60000)=(d:Int)*60000:=IntWalk.wrap64_in _ om_;have hz2:wrap64 ((m:Int)*1000)=(m:Int)*1000:=IntWalk.wrap64_in _ om_;have hz3:wrap64 ((d:Int)*60000+(m:Int)*1000)=(d:Int)*60000+(m:Int)*1000:=IntWalk.wrap64_in _ om_;have hz4:wrap64 ((d:Int)*60000+(m:Int)*1000+(T:Int))=(d:Int)*60000+(m:Int)*1000+(T:Int):=IntWalk.wrap64_in _ om_;have hzc:((d*60000+m*1000+T:Nat):Int)=(d:Int)*60000+(m:Int)*1000+(T:Int):=by omega
   rw[hzc] at VT;have hzb:0≤(d:Int)*60000+(m:Int)*1000+(T:Int)∧(d:Int)*60000+(m:Int)*1000+(T:Int)≤9000000000000000000:=by omega
   have w2':wrap64 (-((d:Int)*60000+(m:Int)*1000+(T:Int)))= -((d:Int)*60000+(m:Int)*1000+(T:Int)):=IntWalk.wrap64_in _ om_;have KZ:=fun W=>fitsI_any ((d:Int)*60000+(m:Int)*1000+(T:Int)) W;clear hzc;cases hf:fitB ((d:Int)*60000+(m:Int)*1000+(T:Int)) with
   |false=>
    rw[hf] at KZ VT;simp only[Bool.false_eq_true,if_false] at VT;subst VT;replace KZ:=hid KZ
    clear hf;go_wp2_with fail;(with_reducible refine(KZ.out _).mono ?_)
    rintro e w9 ⟨rfl,rfl⟩
    go_wp2;go_ret2
    exact⟨rfl,BC.out⟩
   |true=>
    rw[hf] at KZ VT;simp only[if_true] at VT;replace KZ:=hid KZ
    clear hf;cases neg with
    |true=>
     simp only[if_true] at VT;subst VT;go_wp2_with fail;(with_reducible refine(KZ.out _).mono ?_)
     rintro e w9 ⟨rfl,rfl⟩
     go_wp2;go_ret2
     exact⟨rfl,BC.out⟩
    |false=>
     simp only[Bool.false_eq_true,if_false] at VT;subst VT;go_wp2_with fail;(with_reducible refine(KZ.out _).mono ?_)
     rintro e w9 ⟨rfl,rfl⟩
     go_wp2;go_ret2
     exact⟨rfl,BC.out⟩
 · have d7:decide ((1099511627776:Int)<(d:Int))=true:=decide_eq_true om_
   have VU:(0,5)=res:=by rw[VT];unfold endP;rw[if_pos om_]
   clear VT;subst VU;go_wp2;go_ret2
   exact⟨rfl,BC.out⟩
end
section
open Go.Shelf Frm
open Lib (decDigits)
theorem aText_any(n:Int)(w:World)(hn:n.natAbs≤1099511627776)(ht:Tab w):
 Calls Tryz.prog 73 #[vi vk n] w fun e w'=>e=.returned (.tuple #[tx (textL n),vi vk 0])∧Below w.heap.size w w':=by
 have KZ:=fitsI_any n w;rw[show fitB n=true from decide_eq_true om_] at KZ;have KT:=hid (text_any n w hn ht);have KZ:=hid KZ;clear ht;go_enter func73,ntmps73;go_wp2_with fail;(with_reducible refine KZ.out.mono ?_)
 rintro e w1 ⟨rfl,rfl⟩
 go_wp2_with fail;(with_reducible refine KT.out.mono ?_)
 rintro e w2 ⟨rfl,hb⟩
 go_wp2;go_ret2
 exact⟨rfl,hb⟩
theorem bs_beq(a b:Bs):(a==b)=decide (a=b):=by
 by_cases h:a=b
 · subst h
   simp
 · simp[h]
theorem tmod100(n:Int):(n.tmod 100=0)↔n%100=0:=by
 rcases Int.lt_or_le n 0 with h|h
 · obtain⟨b,rfl⟩: ∃b:Int,n= -b:=⟨-n,om_⟩
   rw[Int.neg_tmod,Int.tmod_eq_emod_of_nonneg om_];omega
 · rw[Int.tmod_eq_emod_of_nonneg h]
def RetTen(n:Int)(ok:Bool)(w:World)(e:Ending)(w':World):Prop:= ∃x:Int,e=.returned (.tuple #[vi vk x,.bool ok])∧(ok=true→x=n)∧Below w.heap.size w w'
theorem tenths_any(s:Bs)(w:World)(hl:s.length≤1000)(hm:Mx w)(ht:Tab w):
 Calls Tryz.prog 39 #[tx s] w (RetTen (tenP s).1 (tenP s).2 w):=by
 have K0:=parse_any s w hl hm;have hb:=parseP_bd s;have KT:=hid (fun(W:World) (h:Below w.heap.size w W)=>aText_any (parseP s).1 W om_ (ht.stays h (Nat.le_refl _)));obtain⟨q,hq⟩: ∃q,tenP s=q:=⟨_,rfl⟩;rw[hq];unfold tenP at hq;generalize textL (parseP s).1=T at KT hq;obtain⟨⟨n,e0⟩,hp⟩: ∃p,parseP s=p:=⟨_,rfl⟩;rw[hp] at K0 KT hq;simp only[] at K0 KT hq;clear hp hm ht hb hl;have t1:=tmod100 n;have K0:=hid K0;by_cases h0:e0=0
 · subst h0
   by_cases h1:n%100=0
   · have d1:n.tmod 100=0:=t1.2 h1
     have d2:((n.tmod 100) != 0)=false:=by rw[d1];rfl
     have d3:((n.tmod 100)==0)=true:=by rw[d1];rfl
     simp only[h1,decide_true,Bool.true_and] at hq;subst hq;clear t1 h1;go_enter func39,ntmps39;go_wp2_with fail;(with_reducible refine K0.out.mono ?_)
     rintro e w1 ⟨rfl,hb1⟩
     have B1:=hid hb1;have KT1:=hid (KT.out _ hb1);clear hb1 K0 KT;go_wp2_with fail;(with_reducible refine KT1.out.mono ?_)
     rintro e w2 ⟨rfl,hb2⟩
     have B2:=hid (B1.out.trans (hb2.mono B1.out.size));clear hb2 KT1;go_wp2;go_ret2
     exact⟨n,by rw[←bs_beq];rfl,fun _=>rfl,B2.out⟩
   · have d1: ¬n.tmod 100=0:=fun h=>h1 (t1.1 h)
     have d2:((n.tmod 100) != 0)=true:=by simpa using d1
     have d3:((n.tmod 100)==0)=false:=by simpa using d1
     have hq:q=(n,false):=by rw[←hq];simp[h1]
     subst hq;clear t1 h1;go_enter func39,ntmps39;go_wp2_with fail;(with_reducible refine K0.out.mono ?_)
     rintro e w1 ⟨rfl,hb1⟩
     go_wp2;go_ret2
     exact⟨0,rfl,fun h=>by simp at h,hb1⟩
 · have d0:(e0 != 0)=true:=by simpa using h0
   have d1:(e0==0)=false:=by simpa using h0
   have hq:q=(n,false):=by rw[←hq];simp[h0]
   subst hq;clear t1 h0;go_enter func39,ntmps39;go_wp2_with fail;(with_reducible refine K0.out.mono ?_)
   rintro e w1 ⟨rfl,hb1⟩
   go_wp2;go_ret2
   exact⟨0,rfl,fun h=>by simp at h,hb1⟩
end
end Go.Proofs.YtdeiofgddhbdaaaGreatDoor
