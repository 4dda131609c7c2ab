/- The calendar: Valid, dayOfYear, Number. -/
import Derived.Test.YtbpnacacnncopaaGreatDoorHSi
set_option linter.unusedSimpArgs false
set_option linter.unusedVariables false
set_option maxHeartbeats 4000000
set_option maxRecDepth 100000
open Go.RowKit
open Go.Lib (hid)
open Go.Proofs.Tryz
open Go.Value renaming int→vi
open Go.IntKind renaming i64→vk
namespace Go.Proofs.YtbpnacacnncopaaGreatDoor
section
open Go.Shelf Frm
open Lib (decDigits)
theorem one_bytes(W:World)(c:UInt8)(x:Int)(hx:x=(c.toNat:Int)):(convert 106 9 (.slice (some ⟨W.heap.size,0,none⟩) 1 1)).run Tryz.prog (W.alloc (.cells #[.int .u8 x] 5))=.ok (tx [c]) (W.alloc (.cells #[.int .u8 x] 5)):=by
 subst hx;exact run_convert_bytes_back (P:=Tryz.prog) (W.alloc (.cells #[.int .u8 c.toNat] 5)) 106 9 5 ⟨W.heap.size,0,none⟩ 1 [c] underlying106 underlying5 underlying9 (fun j hj=>by
  obtain rfl:j=0:=by simpa using hj
  simp[Addr.add])
theorem dB_nat{n:Nat}(h:n<10):(48+(n:Int))=((dB n).toNat:Int):=by
 have: ∀n:Fin 10,(48+((n:Nat):Int))=((dB n).toNat:Int):=by decide
 exact this ⟨n,h⟩
theorem rdigits_any(n k:Nat)(w:World)(h:n<100000000)(hk:k≤8):
 Calls Tryz.prog 79 #[vi vk (n:Int),vi vk (k:Int)] w fun e w'=>e=.returned (tx (dgs n k))∧Below w.heap.size w w':=by
 have hlen:=dgs_len_le n k om_ hk;go_enter func79,ntmps79;go_wp2;go_loopg [0,1,5] (n+k) (fun gz s0 s1 s5 wr=> ∃(m j:Nat) (q:Int) (acc:Bs),s0=vi vk (m:Int)∧s1=vi vk q∧s5=tx acc∧q.toNat=j∧dgs m j++acc=dgs n k∧m+j≤gz∧m≤n∧ -(n:Int)≤q-m∧q≤8∧Below w.heap.size w wr)
 case atStart=>exact⟨n,k,k,[],rfl,rfl,rfl,by simp,by simp,Nat.le_refl _,Nat.le_refl _,om_,om_,Below.refl _ _⟩
 case round=>
  obtain⟨m,j,q,acc,rfl,rfl,rfl,hqj,hacc,hg,hmn,hq,hq8,hbr⟩:=hrel;have BR:=hid hbr;have HA:=hid hacc;have HL:acc.length≤16:=by rw[←hacc,List.length_append] at hlen;omega
  clear hbr hacc;by_cases hgo:0<m∨0<j
  · have hstep:=dgs_step (n:=m) (k:=j) hgo
    obtain⟨r,hr⟩: ∃r,m%10=r:=⟨_,rfl⟩;obtain⟨v,hv⟩: ∃v,m/10=v:=⟨_,rfl⟩;rw[hr,hv] at hstep;have hr0:((m:Int)).tmod 10=(r:Int):=by rw[Int.tmod_eq_emod_of_nonneg om_];omega
    have hr1:((m:Int)).tdiv 10=(v:Int):=by rw[Int.tdiv_eq_ediv_of_nonneg om_];omega
    have r10:r<10:=by omega
    have v10:10*v≤m∧m<10*v+10:=by omega
    have hd:=dB_nat (n:=r) r10;have hcb:=one_bytes wr (dB r) (48+(r:Int)) hd;have hba:=(bl_alloc wr (.cells #[.int .u8 (48+(r:Int))] 5));have B2:=hid (BR.out.trans (hba.mono BR.out.size));have hadd:=tx_add [dB r] acc (by simp) om_;have w1:wrap64 (q-1)=q-1:=IntWalk.wrap64_in _ om_;have HS:=hid hstep;clear hba hstep hd hr hv;rcases Nat.lt_or_ge 0 m with hm|hm
    · have d0:decide ((0:Int)<(m:Int))=true:=decide_eq_true om_
      clear hgo;go_wp2;go_roundg (v+(j-1))
      case measure=>omega
      case rel=>exact⟨v,j-1,q-1,[dB r]++acc,rfl,rfl,rfl,om_,by rw[←HA.out,HS.out];simp,Nat.le_refl _,om_,om_,om_,B2.out⟩
    · have d0:decide ((0:Int)<(m:Int))=false:=decide_eq_false om_
      have d1:decide ((0:Int)<q)=true:=decide_eq_true om_;have hj:0<j:=by omega
      clear hgo;go_wp2;go_roundg (v+(j-1))
      case measure=>omega
      case rel=>exact⟨v,j-1,q-1,[dB r]++acc,rfl,rfl,rfl,om_,by rw[←HA.out,HS.out];simp,Nat.le_refl _,om_,om_,om_,B2.out⟩
  · have d0:decide ((0:Int)<(m:Int))=false:=decide_eq_false om_
    have d1:decide ((0:Int)<q)=false:=decide_eq_false om_;have hz:acc=dgs n k:=by
     have:=HA.out;rw[show m=0 by omega,show j=0 by omega] at this;simpa [dgs_zero] using this
    obtain rfl:m=0:=by omega
    subst hz;clear HA hgo;go_wp2;go_ret;exact⟨rfl,BR.out⟩
theorem rtext_any(n:Int)(w:World)(hn:n.natAbs≤1099511627776):
 Calls Tryz.prog 33 #[vi vk n] w fun e w'=>e=.returned (tx (textL n))∧Below w.heap.size w w':=by
 obtain⟨m,hm⟩: ∃m,n.natAbs=m:=⟨_,rfl⟩;have htx:textL n=(if n<0 then[45] else[])++(decDigits (m/60000)++45::(dgs (m%60000/1000) 2++46::(if m%1000%100=0 then decDigits (m%1000/100) else dgs (m%1000) 3))):=by rw[←hm];rfl
 have KD:=hid (fun(k j:Nat) (W:World) (hk:k<100000000) (hj1:j≤8)=>rdigits_any k j W hk hj1);have l1:=dd_len 7 (m/60000) om_;have l2:(dgs (m%60000/1000) 2).length=2:=dgs_len 2 _ om_;have l3:=dd_len 7 (m%1000/100) om_;have l4:(dgs (m%1000) 3).length=3:=dgs_len 3 _ om_;obtain⟨d1,hd1⟩: ∃d,m/60000=d:=⟨_,rfl⟩;obtain⟨d2,hd2⟩: ∃d,m%60000=d:=⟨_,rfl⟩;obtain⟨d3,hd3⟩: ∃d,d2/1000=d:=⟨_,rfl⟩;obtain⟨d4,hd4⟩: ∃d,m%1000=d:=⟨_,rfl⟩;obtain⟨d5,hd5⟩: ∃d,d4/100=d:=⟨_,rfl⟩;obtain⟨d6,hd6⟩: ∃d,d4%100=d:=⟨_,rfl⟩;have q1:((m:Int)).tdiv 60000=(d1:Int):=by rw[Int.tdiv_eq_ediv_of_nonneg om_];omega
 have q2:((m:Int)).tmod 60000=(d2:Int):=by rw[Int.tmod_eq_emod_of_nonneg om_];omega
 have q3:((d2:Int)).tdiv 1000=(d3:Int):=by rw[Int.tdiv_eq_ediv_of_nonneg om_];omega
 have q4:((m:Int)).tmod 1000=(d4:Int):=by rw[Int.tmod_eq_emod_of_nonneg om_];omega
 have q5:((d4:Int)).tmod 100=(d6:Int):=by rw[Int.tmod_eq_emod_of_nonneg om_];omega
 have q6:((d4:Int)).tdiv 100=(d5:Int):=by rw[Int.tdiv_eq_ediv_of_nonneg om_];omega
 have hb1:d1<100000000:=by omega
 have hb2:d3<100000000:=by omega
 have hb3:d5<100000000:=by omega
 have hb4:d4<100000000:=by omega
 have hok:m≤1099511627776:=by omega
 rw[hd1] at l1;rw[hd2,hd3] at l2;rw[hd4,hd5] at l3;rw[hd4] at l4;rw[hd1,hd2,hd3,hd4,hd5,hd6] at htx;clear hd1 hd2 hd3 hd4 hd5 hd6;have HM:=hid hm;obtain⟨l0,hl0⟩: ∃l0:Bs,(if n<0 then[45] else[])=l0:=⟨_,rfl⟩;have hfin:textL n=(l0++decDigits (d1)++[45]++dgs (d3) 2++[46])++(if d6=0 then decDigits (d5) else dgs (d4) 3):=by
  rw[htx,hl0];simp
 have HF:=hid hfin;have L0:l0.length≤1:=by rw[←hl0];split<;>simp
 clear hfin htx hm;go_enter func33,ntmps33;rcases Int.lt_or_le n 0 with hneg|hpos
 · obtain rfl:n= -(m:Int):=by have:=HM.out;omega
   have dn:decide (-(m:Int)<0)=true:=decide_eq_true hneg;have hm0:0<m:=by omega
   have dn2:decide (0<m)=true:=decide_eq_true hm0;have hng:wrap64 (m:Int)=(m:Int):=IntWalk.wrap64_in _ om_;have hn2:(0:Int)- -(m:Int)=(m:Int):=by omega
   rw[if_pos hneg] at hl0;subst hl0;go_upto_region 5 with (fail)
   clear dn dn2 hneg;have KD1:=KD.out d1 1 w hb1 dc_;rw[dgs_one,show((1:Nat):Int)=1 from rfl] at KD1;have KD2:=fun W=>KD.out d3 2 W hb2 dc_;rw[show((2:Nat):Int)=2 from rfl] at KD2;generalize decDigits d1=D at KD1 HF l1;generalize dgs d3 2=G2 at KD2 HF l2;have KD1:=hid KD1;have KD2:=hid KD2;have ha0:=tx_add [45] D (by simp) om_;have ha1:=tx_add ([45]++D) [45] (by simp;omega) (by simp);have ha2:=tx_add ([45]++D++[45]) G2 (by simp;omega) om_;have ha3:=tx_add ([45]++D++[45]++G2) [46] (by simp;omega) (by simp);have L3:([45]++D++[45]++G2++[46]).length≤20:=by simp;omega
   generalize [45]++D=E0 at ha0 ha1 ha2 ha3 HF L3;generalize E0++[45]=E1 at ha1 ha2 ha3 HF L3;generalize E1++G2=E2 at ha2 ha3 HF L3;generalize E2++[46]=E3 at ha3 HF L3;go_wp2_with fail;(with_reducible refine(KD1.out).mono ?_)
   rintro e w3 ⟨rfl,hb3'⟩
   have B3:=hid hb3';clear hb3' KD1;go_wp2_with fail;(with_reducible refine(KD2.out _).mono ?_)
   rintro e w4 ⟨rfl,hb4'⟩
   have B4:=hid (B3.out.trans (hb4'.mono B3.out.size));clear hb4' KD2 B3;by_cases h0:d6=0
   · have hbe:((d6:Int)==0)=true:=by rw[h0];rfl
     have KD3:=fun W=>KD.out d5 1 W hb3 dc_;simp only[dgs_one,show((1:Nat):Int)=1 from rfl] at KD3;rw[if_pos h0] at HF;generalize decDigits d5=T at KD3 HF l3;have KD3:=hid KD3;have ha4:=tx_add E3 T om_ om_;rw[←HF.out] at ha4;clear KD h0 HF;go_wp2_with fail;(with_reducible refine(KD3.out _).mono ?_)
     rintro e w6 ⟨rfl,hb6⟩
     have B6:=hid (B4.out.trans (hb6.mono B4.out.size));clear hb6 KD3;go_wp2;go_ret;exact⟨rfl,B6.out⟩
   · have hbe:((d6:Int)==0)=false:=by simpa using h0
     have KD3:=fun W=>KD.out d4 3 W hb4 dc_;simp only[show((3:Nat):Int)=3 from rfl] at KD3;rw[if_neg h0] at HF;generalize dgs d4 3=T at KD3 HF l4;have KD3:=hid KD3;have ha4:=tx_add E3 T om_ om_;rw[←HF.out] at ha4;clear KD h0 HF;go_wp2_with fail;(with_reducible refine(KD3.out _).mono ?_)
     rintro e w6 ⟨rfl,hb6⟩
     have B6:=hid (B4.out.trans (hb6.mono B4.out.size));clear hb6 KD3;go_wp2;go_ret;exact⟨rfl,B6.out⟩
 · obtain rfl:n=(m:Int):=by have:=HM.out;omega
   have dn:decide ((m:Int)<0)=false:=decide_eq_false om_;rw[if_neg om_] at hl0;subst hl0;go_upto_region 5 with (fail)
   clear dn hpos;have KD1:=KD.out d1 1 w hb1 dc_;rw[dgs_one,show((1:Nat):Int)=1 from rfl] at KD1;have KD2:=fun W=>KD.out d3 2 W hb2 dc_;rw[show((2:Nat):Int)=2 from rfl] at KD2;generalize decDigits d1=D at KD1 HF l1;generalize dgs d3 2=G2 at KD2 HF l2;have KD1:=hid KD1;have KD2:=hid KD2;have ha0:=tx_add ([]:Bs) D (by simp) om_;have ha1:=tx_add (([]:Bs)++D) [45] (by simp;omega) (by simp);have ha2:=tx_add (([]:Bs)++D++[45]) G2 (by simp;omega) om_;have ha3:=tx_add (([]:Bs)++D++[45]++G2) [46] (by simp;omega) (by simp);have L3:(([]:Bs)++D++[45]++G2++[46]).length≤20:=by simp;omega
   generalize ([]:Bs)++D=E0 at ha0 ha1 ha2 ha3 HF L3;generalize E0++[45]=E1 at ha1 ha2 ha3 HF L3;generalize E1++G2=E2 at ha2 ha3 HF L3;generalize E2++[46]=E3 at ha3 HF L3;go_wp2_with fail;(with_reducible refine(KD1.out).mono ?_)
   rintro e w3 ⟨rfl,hb3'⟩
   have B3:=hid hb3';clear hb3' KD1;go_wp2_with fail;(with_reducible refine(KD2.out _).mono ?_)
   rintro e w4 ⟨rfl,hb4'⟩
   have B4:=hid (B3.out.trans (hb4'.mono B3.out.size));clear hb4' KD2 B3;by_cases h0:d6=0
   · have hbe:((d6:Int)==0)=true:=by rw[h0];rfl
     have KD3:=fun W=>KD.out d5 1 W hb3 dc_;simp only[dgs_one,show((1:Nat):Int)=1 from rfl] at KD3;rw[if_pos h0] at HF;generalize decDigits d5=T at KD3 HF l3;have KD3:=hid KD3;have ha4:=tx_add E3 T om_ om_;rw[←HF.out] at ha4;clear KD h0 HF;go_wp2_with fail;(with_reducible refine(KD3.out _).mono ?_)
     rintro e w6 ⟨rfl,hb6⟩
     have B6:=hid (B4.out.trans (hb6.mono B4.out.size));clear hb6 KD3;go_wp2;go_ret;exact⟨rfl,B6.out⟩
   · have hbe:((d6:Int)==0)=false:=by simpa using h0
     have KD3:=fun W=>KD.out d4 3 W hb4 dc_;simp only[show((3:Nat):Int)=3 from rfl] at KD3;rw[if_neg h0] at HF;generalize dgs d4 3=T at KD3 HF l4;have KD3:=hid KD3;have ha4:=tx_add E3 T om_ om_;rw[←HF.out] at ha4;clear KD h0 HF;go_wp2_with fail;(with_reducible refine(KD3.out _).mono ?_)
     rintro e w6 ⟨rfl,hb6⟩
     have B6:=hid (B4.out.trans (hb6.mono B4.out.size));clear hb6 KD3;go_wp2;go_ret;exact⟨rfl,B6.out⟩
end
section
open Go.Shelf Frm
open Lib (decDigits)
theorem cdigits_any(n k:Nat)(w:World)(h:n<100000000)(hk:k≤8):
 Calls Tryz.prog 78 #[vi vk (n:Int),vi vk (k:Int)] w fun e w'=>e=.returned (tx (dgs n k))∧Below w.heap.size w w':=by
 have hlen:=dgs_len_le n k om_ hk;go_enter func78,ntmps78;go_wp2;go_loopg [0,5] (n+k) (fun gz s0 s5 wr=> ∃(m:Nat) (acc:Bs),s0=vi vk (m:Int)∧s5=tx acc∧dgs m (k-acc.length)++acc=dgs n k∧m+(k-acc.length)≤gz∧m≤n∧Below w.heap.size w wr)
 case atStart=>exact⟨n,[],rfl,rfl,by simp,by simp,Nat.le_refl _,Below.refl _ _⟩
 case round=>
  obtain⟨m,acc,rfl,rfl,hacc,hg,hmn,hbr⟩:=hrel;have BR:=hid hbr;have HA:=hid hacc;have HL:acc.length≤16:=by rw[←hacc,List.length_append] at hlen;omega
  have hz:=tx_size acc;clear hbr hacc;by_cases hgo:0<m∨0<k-acc.length
  · have hstep:=dgs_step (n:=m) (k:=k-acc.length) hgo
    obtain⟨r,hr⟩: ∃r,m%10=r:=⟨_,rfl⟩;obtain⟨v,hv⟩: ∃v,m/10=v:=⟨_,rfl⟩;rw[hr,hv] at hstep;have hr0:((m:Int)).tmod 10=(r:Int):=by rw[Int.tmod_eq_emod_of_nonneg om_];omega
    have hr1:((m:Int)).tdiv 10=(v:Int):=by rw[Int.tdiv_eq_ediv_of_nonneg om_];omega
    have r10:r<10:=by omega
    have v10:10*v≤m∧m<10*v+10:=by omega
    have hd:=dB_nat (n:=r) r10;have hcb:=one_bytes wr (dB r) (48+(r:Int)) hd;have hba:=(bl_alloc wr (.cells #[.int .u8 (48+(r:Int))] 5));have B2:=hid (BR.out.trans (hba.mono BR.out.size));have hadd:=tx_add [dB r] acc (by simp) om_;have HR:Hid (∃(m':Nat) (acc':Bs),vi vk (v:Int)=vi vk (m':Int)∧tx ([dB r]++acc)=tx acc'∧dgs m' (k-acc'.length)++acc'=dgs n k∧m'+(k-acc'.length)≤v+(k-(acc.length+1))∧m'≤n):=hid ⟨v,[dB r]++acc,rfl,rfl,by
     rw[←HA.out,hstep];rw[show k-([dB r]++acc).length=k-acc.length-1 by simp;omega];simp,by simp,om_⟩
    have HM:Hid (v+(k-(acc.length+1))<gk):=hid om_;clear hba hstep hd hr hv;rcases Nat.lt_or_ge 0 m with hm|hm
    · have d0:decide (0<m)=true:=decide_eq_true om_
      clear hgo HA;go_wp2;go_roundg (v+(k-(acc.length+1)))
      case measure=>exact HM.out
      case rel=>
       obtain⟨m',acc',e1,e2,e3,e4,e5⟩:=HR.out;exact⟨m',acc',e1,e2,e3,e4,e5,B2.out⟩
    · have d0:decide (0<m)=false:=decide_eq_false om_
      have d1:decide (acc.length<k)=true:=decide_eq_true om_;clear hgo HA;go_wp2;go_roundg (v+(k-(acc.length+1)))
      case measure=>exact HM.out
      case rel=>
       obtain⟨m',acc',e1,e2,e3,e4,e5⟩:=HR.out;exact⟨m',acc',e1,e2,e3,e4,e5,B2.out⟩
  · have d0:decide (0<m)=false:=decide_eq_false om_
    have d1:decide (acc.length<k)=false:=decide_eq_false om_;have hz2:acc=dgs n k:=by
     have:=HA.out;rw[show m=0 by omega,show k-acc.length=0 by omega] at this;simpa [dgs_zero] using this
    have HZ:=hid hz2;obtain rfl:m=0:=by omega
    clear HA hgo hz2;go_wp2;go_ret;exact⟨by show Ending.returned (tx acc)=_;rw[HZ.out],BR.out⟩
end
section
open Go.Shelf Frm
open Lib (decDigits)
theorem tx_beq(acc:Bs):acc.isEmpty=decide (acc.length=0):=by cases acc<;>simp
theorem decN_any(n:Nat)(w:World)(h:n<1000000000000000):
 Calls Tryz.prog 35 #[vi vk (n:Int)] w fun e w'=>e=.returned (tx (decDigits n))∧Below w.heap.size w w':=by
 have hlen:(dgs n 1).length≤16:=by
  rw[dgs_one];have:=dd_len 14 n (by simpa using h);omega
 have hdd:=dgs_one n;have dn:decide ((n:Int)<0)=false:=decide_eq_false om_;rw[←hdd];clear hdd;go_enter func35,ntmps35;go_wp2;go_loopg [0,3] (n+1) (fun gz s0 s3 wr=> ∃(m:Nat) (acc:Bs),s0=vi vk (m:Int)∧s3=tx acc∧dgs m (1-acc.length)++acc=dgs n 1∧m+(1-acc.length)≤gz∧m≤n∧Below w.heap.size w wr)
 case atStart=>exact⟨n,[],rfl,rfl,by simp,by simp,Nat.le_refl _,Below.refl _ _⟩
 case round=>
  obtain⟨m,acc,rfl,rfl,hacc,hg,hmn,hbr⟩:=hrel;have BR:=hid hbr;have HA:=hid hacc;have HL:acc.length≤16:=by rw[←hacc,List.length_append] at hlen;omega
  have hz:=tx_size acc;have hq:=tx_beq acc;clear hbr hacc;by_cases hgo:0<m∨0<1-acc.length
  · have hstep:=dgs_step (n:=m) (k:=1-acc.length) hgo
    obtain⟨r,hr⟩: ∃r,m%10=r:=⟨_,rfl⟩;obtain⟨v,hv⟩: ∃v,m/10=v:=⟨_,rfl⟩;rw[hr,hv] at hstep;have hr0:((m:Int)).tmod 10=(r:Int):=by rw[Int.tmod_eq_emod_of_nonneg om_];omega
    have hr1:((m:Int)).tdiv 10=(v:Int):=by rw[Int.tdiv_eq_ediv_of_nonneg om_];omega
    have r10:r<10:=by omega
    have v10:10*v≤m∧m<10*v+10:=by omega
    have hd:=dB_nat (n:=r) r10;have hcb:=one_bytes wr (dB r) (48+(r:Int)) hd;have hba:=(bl_alloc wr (.cells #[.int .u8 (48+(r:Int))] 5));have B2:=hid (BR.out.trans (hba.mono BR.out.size));have hadd:=tx_add [dB r] acc (by simp) om_;have HR:Hid (∃(m':Nat) (acc':Bs),vi vk (v:Int)=vi vk (m':Int)∧tx ([dB r]++acc)=tx acc'∧dgs m' (1-acc'.length)++acc'=dgs n 1∧m'+(1-acc'.length)≤v+(1-(acc.length+1))∧m'≤n):=hid ⟨v,[dB r]++acc,rfl,rfl,by
     rw[←HA.out,hstep];rw[show 1-([dB r]++acc).length=1-acc.length-1 by simp];simp,by simp,om_⟩
    have HM:Hid (v+(1-(acc.length+1))<gk):=hid om_;clear hba hstep hd hr hv;rcases Nat.lt_or_ge 0 m with hm|hm
    · have d0:decide (0<m)=true:=decide_eq_true om_
      clear hgo HA;go_wp2;go_roundg (v+(1-(acc.length+1)))
      case measure=>exact HM.out
      case rel=>
       obtain⟨m',acc',e1,e2,e3,e4,e5⟩:=HR.out;exact⟨m',acc',e1,e2,e3,e4,e5,B2.out⟩
    · have d0:decide (0<m)=false:=decide_eq_false om_
      rw[decide_eq_true (by omega:acc.length=0)] at hq;clear hgo HA;go_wp2;go_roundg (v+(1-(acc.length+1)))
      case measure=>exact HM.out
      case rel=>
       obtain⟨m',acc',e1,e2,e3,e4,e5⟩:=HR.out;exact⟨m',acc',e1,e2,e3,e4,e5,B2.out⟩
  · have d0:decide (0<m)=false:=decide_eq_false om_
    rw[decide_eq_false (by omega: ¬acc.length=0)] at hq;have hz2:acc=dgs n 1:=by
     have:=HA.out;rw[show m=0 by omega,show 1-acc.length=0 by omega] at this;simpa [dgs_zero] using this
    have HZ:=hid hz2;obtain rfl:m=0:=by omega
    clear HA hgo hz2;go_wp2;go_ret;exact⟨by show Ending.returned (tx acc)=_;rw[HZ.out],BR.out⟩
theorem dec_any(n:Int)(w:World)(h:n.natAbs<1000000000000000):
 Calls Tryz.prog 35 #[vi vk n] w fun e w'=>e=.returned (tx (Lib.itoa n))∧Below w.heap.size w w':=by
 obtain⟨m,hm⟩: ∃m,n.natAbs=m:=⟨_,rfl⟩;by_cases h0:n<0
 · have KN:=hid (fun W=>decN_any m W om_)
   have hi:Lib.itoa n=[45]++decDigits m:=by unfold Lib.itoa;rw[if_pos h0,←hm];rfl
   have hw:wrap64 (0-n)=(m:Int):=by rw[IntWalk.wrap64_in _ om_];omega
   have hw2:wrap64 (-n)=(m:Int):=by rw[IntWalk.wrap64_in _ om_];omega
   have hl:(decDigits m).length≤15:=dd_len 14 m (by simpa using(by omega:m<1000000000000000));have hadd:=tx_add [45] (decDigits m) (by simp) om_;have d0:decide (n<0)=true:=decide_eq_true h0;rw[hi];clear hi hm h h0 hl;go_enter func35,ntmps35;go_wp2_with (go_at_call 35;(with_reducible refine(KN.out _).mono ?_);rintro e w1 ⟨rfl,hb⟩);go_ret;exact⟨rfl,hb⟩
 · have hn:n=(m:Int):=by omega
   subst hn;have hi:Lib.itoa (m:Int)=decDigits m:=itoa_nat m;rw[hi];exact decN_any m w om_
end
section
open Go.Shelf Frm
open Lib (decDigits)
def rN(s:Bs)(n:Nat):Nat×Bool:=if s.length=n∧s.all isD=true then(numU s,true) else(0,false)
theorem numU_take{s:Bs}{k:Nat}{c:UInt8}(h:s[k]? =some c):numU (s.take (k+1))=10*numU (s.take k)+(c.toNat-48):=by
 obtain⟨hk,rfl⟩:=List.getElem?_eq_some_iff.1 h;unfold numU;rw[List.take_succ_eq_append_getElem hk,List.foldl_append];rfl
theorem numU_lt(s:Bs): ∀(k:Nat),k≤s.length→(∀j c,j<k→s[j]? =some c→isD c=true)→numU (s.take k)<10^k
 |0,_,_=>by simp[numU]
 |k+1,hk,hd=>by
  obtain⟨c,hc⟩: ∃c,s[k]? =some c:=⟨_,List.getElem?_eq_getElem om_⟩;have h1:=numU_lt s k om_ (fun j d hj h=>hd j d om_ h);have h2:=hd k c om_ hc;have hc2:c.toNat-48≤9:=by unfold isD at h2;simp at h2;omega
  rw[numU_take hc,Nat.pow_succ];omega
theorem rnumber_any(s:Bs)(n:Nat)(w:World)(hn:n≤8)(hl:s.length≤100000):
 Calls Tryz.prog 88 #[tx s,vi vk (n:Int)] w fun e w'=>e=.returned (.tuple #[vi vk ((rN s n).1:Int),.bool (rN s n).2])∧w'=w:=by
 have hz:=tx_size s;by_cases he:s.length=n
 · have HN:=hid he
   have hne:((n:Int) != (n:Int))=false:=by simp
   have hy:s.all isD=true→rN s n=(numU s,true):=fun h=>if_pos ⟨he,h⟩;have hno: ∀k c,s[k]? =some c→isD c=false→rN s n=(0,false):=fun k c hc hb=>if_neg fun h=>by
    have:=List.all_eq_true.1 h.2 c (List.mem_of_getElem? hc);rw[hb] at this;cases this
   have HY:=hid hy;have HO:=hid hno;rw[he] at hz;clear he hy hno hl;generalize rN s n=R at*;go_enter func88,ntmps88;go_wp2;go_loopg [6,7] n (fun gz s6 s7 wr=> ∃(k v:Nat),k≤n∧n-k≤gz∧s6=vi vk (v:Int)∧s7=vi vk (k:Int)∧v=numU (s.take k)∧(∀j c,j<k→s[j]? =some c→isD c=true)∧wr=w)
   case atStart=>exact⟨0,0,Nat.zero_le _,om_,rfl,rfl,by simp[numU],fun j c h=>by omega,rfl⟩
   case round=>
    obtain⟨k,v,hk,hg,rfl,rfl,hv,hall,rfl⟩:=hrel;have HV:=hid hv;have HA:=hid hall;have hvb:v<100000000:=by
     rw[hv];refine Nat.lt_of_lt_of_le (numU_lt s k (by rw[HN.out];exact hk) hall) ?_;exact Nat.le_trans (Nat.pow_le_pow_right om_ (show k≤8 by omega)) dc_
    clear hall hv;by_cases hlt:k<n
    · have dl:decide (k<n)=true:=decide_eq_true hlt
      obtain⟨c,hc⟩: ∃c,s[k]? =some c:=⟨_,List.getElem?_eq_getElem (by rw[HN.out];exact hlt)⟩;have g0:=getBL hc;have HC:=hid hc;have hc3:c.toNat<256:=c.toNat_lt;clear hc;by_cases h0:c.toNat<48
      · have d0:decide (c.toNat<48)=true:=decide_eq_true h0
        have hR:=HO.out k c HC.out (by unfold isD;simp;omega);subst hR;clear HY HO;go_wp2;go_ret2
        exact⟨rfl,rfl⟩
      · have d0:decide (c.toNat<48)=false:=decide_eq_false h0
        by_cases h1:57<c.toNat
        · have d1:decide (57<c.toNat)=true:=decide_eq_true h1
          have hR:=HO.out k c HC.out (by unfold isD;simp;omega);subst hR;clear HY HO;go_wp2;go_ret2
          exact⟨rfl,rfl⟩
        · have d1:decide (57<c.toNat)=false:=decide_eq_false h1
          obtain⟨x,hx⟩: ∃x,c.toNat-48=x:=⟨_,rfl⟩;have hxi:(c.toNat:Int)-48=(x:Int):=by omega
          have hw8:IntKind.u8.wrap ((c.toNat:Int)-48)=(x:Int):=by rw[hxi];exact IntWalk.u8_in _ om_
          have x9:x≤9:=by omega
          have HX:=hid hx;have hw:wrap64 (10*(v:Int)+(x:Int))=((10*v+x:Nat):Int):=by rw[IntWalk.wrap64_in _ om_];omega
          clear hx hxi;go_wp2;go_roundg (n-(k+1))
          case measure=>omega
          case rel=>
           refine⟨k+1,10*v+x,om_,om_,by go_num,by go_num,by rw[numU_take HC.out,←HV.out,HX.out],fun j d hj hd=>?_,rfl⟩;rcases Nat.lt_or_ge j k with h|h
           · exact HA.out j d h hd
           · obtain rfl:j=k:=by omega
             obtain rfl:c=d:=Option.some.inj (HC.out.symm.trans hd);unfold isD;simp;omega
    · have dl:decide (k<n)=false:=decide_eq_false hlt
      obtain rfl:k=n:=by omega
      have hall:s.all isD=true:=List.all_eq_true.2 fun c hc=>by
       obtain⟨j,hj⟩:=List.mem_iff_getElem?.1 hc;exact HA.out j c (by have:=(List.getElem?_eq_some_iff.1 hj).1;rw[HN.out] at this;exact this) hj
      have hR:=HY.out hall;have hv2:v=numU s:=by rw[HV.out,←HN.out,List.take_length]
      have hR2:R=(v,true):=by rw[hR,hv2]
      subst hR2;clear HY HO hR hv2 hall;go_wp2;go_ret2
      exact⟨rfl,rfl⟩
 · have hne:((s.length:Int) != (n:Int))=true:=by simp;omega
   have hR:rN s n=(0,false):=if_neg fun h=>he h.1;rw[hR];clear hR he;go_enter func88,ntmps88;go_wp2;go_ret2
   exact⟨rfl,rfl⟩
end
section
structure BQ(w0:World) where
 w:World
 hb:Below w0.heap.size w0 w
instance bqSome (w0:World):Nonempty (BQ w0):=⟨⟨w0,Below.refl _ _⟩⟩
theorem wp_region_bq{P:Program}{id:Nat}{Q:Exit→Act→World→Prop}{a:Act}{w:World}{l:List Oper}(w0:World)(hm:P.follows .mixedOrders=true)(hB:Region.lexB .any l.toArray=true)(h0:Below w0.heap.size w0 w)
 (h:wpQuiet P l.toArray (fun w'=> ∃s:BQ w0,w'=s.w) (fun a'=> ∀w9,Below w0.heap.size w0 w9→Q .normal a' w9) l a):(Code.region id l.toArray true).wp P Q a w:=by
 have e:(fun a'=> ∀w9,Below w0.heap.size w0 w9→Q .normal a' w9)=(fun a':Act=> ∀w',(∃s:BQ w0,w'=s.w)→Q .normal a' w'):=
  funext fun a'=>propext ⟨fun h w' ⟨s,hs⟩=>hs▸h s.w s.hb,fun h w9 hb=>h w9 ⟨⟨w9,hb⟩,rfl⟩⟩
 rw[e] at h;exact wp_region_quiet (C:=fun w'=> ∃s:BQ w0,w'=s.w) hm hB ⟨⟨_,bl_drew h0⟩,rfl⟩ (by simpa using h)
theorem quiet_bq{P:Program}{f:FuncId}{args:Array Value}{w0:World}{s:BQ w0}{v:Value}(h:Calls P f args s.w fun e w'=>e=.returned v∧Below s.w.heap.size s.w w'):
 Calls P f args s.w fun e w''=>e=.returned v∧ ∃s':BQ w0,w''=s'.w:=
 h.mono fun _ w' ⟨he,hb⟩=>⟨he,⟨w',s.hb.trans (hb.mono s.hb.size)⟩,rfl⟩
theorem quiet_bq0{P:Program}{f:FuncId}{args:Array Value}{w0:World}{s:BQ w0}{v:Value}(h:Calls P f args s.w fun e w'=>e=.returned v∧w'=s.w):
 Calls P f args s.w fun e w''=>e=.returned v∧ ∃s':BQ w0,w''=s'.w:=
 h.mono fun _ w' ⟨he,hb⟩=>⟨he,s,hb⟩
end
theorem ret_bo{a b:Bool}(h:a=b):Ending.returned (.bool a)=.returned (.bool b):=by rw[h]
theorem ret_in{a b:Int}(h:a=b):Ending.returned (vi vk a)=.returned (vi vk b):=by rw[h]
theorem Leap_any(y:Int)(w:World)(h:0≤y):Calls Tryz.prog 196 #[vi vk y] w fun e w'=>e=.returned (.bool (CA.leap y))∧w'=w:=by
 unfold CA.leap;go_enter func196,ntmps196;go_wp2;all_goals
  go_ret;exact⟨ret_bo (by by_cases k4:y%4=0<;>by_cases k1:y%100=0<;>by_cases k0:y%400=0<;>simp_all),rfl⟩
theorem right_any(y m:Int)(w:World):Calls Tryz.prog 159 #[vi vk y,vi vk m] w fun e w'=>e=.returned (.bool (decide (1≤y∧y≤9999∧1≤m∧m≤12)))∧w'=w:=by
 go_enter func159,ntmps159;go_wp2;all_goals
  go_ret;exact⟨ret_bo (by first|rfl|(simp_all;done)|(simp_all;omega)),rfl⟩
theorem lengths_any(w:World):Calls Tryz.prog 197 #[] w fun e w'=>e=.returned (.agg #[vi vk 31,vi vk 28,vi vk 31,vi vk 30,vi vk 31,vi vk 30,vi vk 31,vi vk 31,vi vk 30,vi vk 31,vi vk 30,vi vk 31])∧Below w.heap.size w w':=by
 go_enter func197,ntmps197;go_wp2;refine bodyPost_ret (v:=.agg #[vi vk 31,vi vk 28,vi vk 31,vi vk 30,vi vk 31,vi vk 30,vi vk 31,vi vk 31,vi vk 30,vi vk 31,vi vk 30,vi vk 31]) (by simp[results,results197,go_sem, *];done) rfl ⟨rfl,?_⟩;exact bl_
theorem before_any(y:Int)(w:World)(h:1≤y)(h1:y≤1000000):Calls Tryz.prog 155 #[vi vk y] w fun e w'=>e=.returned (vi vk (CA.bef y))∧w'=w:=by
 have e4:(y-1).tdiv 4=(y-1)/4:=Int.tdiv_eq_ediv_of_nonneg om_;have e1:(y-1).tdiv 100=(y-1)/100:=Int.tdiv_eq_ediv_of_nonneg om_;have e0:(y-1).tdiv 400=(y-1)/400:=Int.tdiv_eq_ediv_of_nonneg om_;go_enter func155,ntmps155;go_wp2;go_ret;exact⟨ret_in (by unfold CA.bef;first|rfl|(simp_all;done)|(simp_all;omega)|omega),rfl⟩
theorem feb_len{y:Int}(h:CA.leap y=true):CA.dm y 2=29:=by unfold CA.dm;simp[h]
theorem days_any(y:Int)(m:Nat)(w:World)(h:0≤y)(m1:1≤m)(m2:m≤12):Calls Tryz.prog 158 #[vi vk y,vi vk (m:Int)] w fun e w'=>e=.returned (vi vk (CA.dm y m))∧Below w.heap.size w w':=by
 have KL:=hid (fun W=>Leap_any y W h);have KN:=hid lengths_any;have ix0: ∀w,(Instr.index 200 (.agg #[vi vk 31,vi vk 28,vi vk 31,vi vk 30,vi vk 31,vi vk 30,vi vk 31,vi vk 31,vi vk 30,vi vk 31,vi vk 30,vi vk 31]) (vi vk 0)).run Tryz.prog w=.ok (vi vk 31) w:=fun _=>by kernel_rfl
 have ix1: ∀w,(Instr.index 200 (.agg #[vi vk 31,vi vk 28,vi vk 31,vi vk 30,vi vk 31,vi vk 30,vi vk 31,vi vk 31,vi vk 30,vi vk 31,vi vk 30,vi vk 31]) (vi vk 1)).run Tryz.prog w=.ok (vi vk 28) w:=fun _=>by kernel_rfl
 have ix2: ∀w,(Instr.index 200 (.agg #[vi vk 31,vi vk 28,vi vk 31,vi vk 30,vi vk 31,vi vk 30,vi vk 31,vi vk 31,vi vk 30,vi vk 31,vi vk 30,vi vk 31]) (vi vk 2)).run Tryz.prog w=.ok (vi vk 31) w:=fun _=>by kernel_rfl
 have ix3: ∀w,(Instr.index 200 (.agg #[vi vk 31,vi vk 28,vi vk 31,vi vk 30,vi vk 31,vi vk 30,vi vk 31,vi vk 31,vi vk 30,vi vk 31,vi vk 30,vi vk 31]) (vi vk 3)).run Tryz.prog w=.ok (vi vk 30) w:=fun _=>by kernel_rfl
 have ix4: ∀w,(Instr.index 200 (.agg #[vi vk 31,vi vk 28,vi vk 31,vi vk 30,vi vk 31,vi vk 30,vi vk 31,vi vk 31,vi vk 30,vi vk 31,vi vk 30,vi vk 31]) (vi vk 4)).run Tryz.prog w=.ok (vi vk 31) w:=fun _=>by kernel_rfl
 have ix5: ∀w,(Instr.index 200 (.agg #[vi vk 31,vi vk 28,vi vk 31,vi vk 30,vi vk 31,vi vk 30,vi vk 31,vi vk 31,vi vk 30,vi vk 31,vi vk 30,vi vk 31]) (vi vk 5)).run Tryz.prog w=.ok (vi vk 30) w:=fun _=>by kernel_rfl
 have ix6: ∀w,(Instr.index 200 (.agg #[vi vk 31,vi vk 28,vi vk 31,vi vk 30,vi vk 31,vi vk 30,vi vk 31,vi vk 31,vi vk 30,vi vk 31,vi vk 30,vi vk 31]) (vi vk 6)).run Tryz.prog w=.ok (vi vk 31) w:=fun _=>by kernel_rfl
 have ix7: ∀w,(Instr.index 200 (.agg #[vi vk 31,vi vk 28,vi vk 31,vi vk 30,vi vk 31,vi vk 30,vi vk 31,vi vk 31,vi vk 30,vi vk 31,vi vk 30,vi vk 31]) (vi vk 7)).run Tryz.prog w=.ok (vi vk 31) w:=fun _=>by kernel_rfl
 have ix8: ∀w,(Instr.index 200 (.agg #[vi vk 31,vi vk 28,vi vk 31,vi vk 30,vi vk 31,vi vk 30,vi vk 31,vi vk 31,vi vk 30,vi vk 31,vi vk 30,vi vk 31]) (vi vk 8)).run Tryz.prog w=.ok (vi vk 30) w:=fun _=>by kernel_rfl
 have ix9: ∀w,(Instr.index 200 (.agg #[vi vk 31,vi vk 28,vi vk 31,vi vk 30,vi vk 31,vi vk 30,vi vk 31,vi vk 31,vi vk 30,vi vk 31,vi vk 30,vi vk 31]) (vi vk 9)).run Tryz.prog w=.ok (vi vk 31) w:=fun _=>by kernel_rfl
 have ix10: ∀w,(Instr.index 200 (.agg #[vi vk 31,vi vk 28,vi vk 31,vi vk 30,vi vk 31,vi vk 30,vi vk 31,vi vk 31,vi vk 30,vi vk 31,vi vk 30,vi vk 31]) (vi vk 10)).run Tryz.prog w=.ok (vi vk 30) w:=fun _=>by kernel_rfl
 have ix11: ∀w,(Instr.index 200 (.agg #[vi vk 31,vi vk 28,vi vk 31,vi vk 30,vi vk 31,vi vk 30,vi vk 31,vi vk 31,vi vk 30,vi vk 31,vi vk 30,vi vk 31]) (vi vk 11)).run Tryz.prog w=.ok (vi vk 31) w:=fun _=>by kernel_rfl
 by_cases h2:m=2∧CA.leap y=true
 · obtain⟨rfl,hl⟩:=h2
   rw[hl] at KL;rw[feb_len hl];go_enter func158,ntmps158;go_wp2_with (go_at_call 196;(with_reducible refine(KL.out _).mono ?_);rintro e w1 ⟨rfl,rfl⟩);go_ret;exact⟨rfl,Below.refl _ _⟩
 · have hm:m=1∨m=2∨m=3∨m=4∨m=5∨m=6∨m=7∨m=8∨m=9∨m=10∨m=11∨m=12:=by omega
   rcases hm with rfl|rfl|rfl|rfl|rfl|rfl|rfl|rfl|rfl|rfl|rfl|rfl
   case inr.inl=>
    have hl:CA.leap y=false:=by simpa using h2
    rw[hl] at KL;rw[show CA.dm y 2=28 by unfold CA.dm;simp[hl]];clear h2 hl;go_enter func158,ntmps158;go_wp2_with (first|(go_at_call 196;(with_reducible refine(KL.out _).mono ?_);rintro e w1 ⟨rfl,rfl⟩)|(go_at_call 197;(with_reducible refine(KN.out _).mono ?_);rintro e w1 ⟨rfl,hb⟩));go_ret;exact⟨rfl,hb⟩
   all_goals
    clear h2;go_enter func158,ntmps158;go_wp2_with (go_at_call 197;(with_reducible refine(KN.out _).mono ?_);rintro e w1 ⟨rfl,hb⟩);go_ret;exact⟨rfl,hb⟩
def dtv(y m d:Int):Array Value:=#[vi vk y,vi vk m,vi vk d]
def vdB(y m d:Int):Bool:=decide (1≤y∧y≤9999∧1≤m∧m≤12)&&(decide (1≤d)&&decide (d≤CA.dm y m.toNat))
theorem dValid_any(y m d:Int)(w:World):Calls Tryz.prog 106 #[.agg (dtv y m d)] w fun e w'=>e=.returned (.bool (vdB y m d))∧Below w.heap.size w w':=by
 have KR:=hid (fun W=>right_any y m W);have b0:=bl_alloc w (.cells (dtv y m d) 100);have G0:=Blk.new w 100 (dtv y m d);unfold vdB;by_cases hr:1≤y∧y≤9999∧1≤m∧m≤12
 · obtain⟨k,hk⟩: ∃k:Nat,m=k:=⟨m.toNat,om_⟩
   have KD:=hid (fun W=>days_any y k W om_ om_ om_);rw[←hk] at KD;rw[decide_eq_true hr] at KR⊢;rw[show m.toNat=k by omega];clear hr hk;generalize CA.dm y k=D at*;by_cases h1:1≤d
   · have d1:decide (1≤d)=true:=decide_eq_true h1
     rw[d1];clear h1;go_enter func106,ntmps106;go_upto_region 1 with fail
     generalize w.alloc (.cells (dtv y m d) 100)=w0 at*;have y0: ∀s:BQ w0,s.w.cell? ⟨w.heap.size,0,none⟩=some (vi vk y):=fun s=>(G0.below s.hb G0.lt).cell 0;have y1: ∀s:BQ w0,s.w.cell? ⟨w.heap.size,1,none⟩=some (vi vk m):=fun s=>(G0.below s.hb G0.lt).cell 1;have y2: ∀s:BQ w0,s.w.cell? ⟨w.heap.size,2,none⟩=some (vi vk d):=fun s=>(G0.below s.hb G0.lt).cell 2;refine wp_region_bq w0 (by kernel_rfl) (by kernel_rfl) (Below.refl _ _) ?_;repeat (go_big_quiet_step (first|(go_at_call 159;with_reducible exact quiet_bq0 (KR.out _))|(go_at_call 158;with_reducible exact quiet_bq (KD.out _))|fail))
     refine wpQuiet_nil ?_;intro w9 hb9;go_wp2;go_ret;exact⟨ret_bo (by simp),b0.trans (hb9.mono b0.size)⟩
   · have d1:decide (1≤d)=false:=decide_eq_false h1
     rw[d1];clear h1;go_enter func106,ntmps106;go_upto_region 1 with fail
     generalize w.alloc (.cells (dtv y m d) 100)=w0 at*;have y0: ∀s:BQ w0,s.w.cell? ⟨w.heap.size,0,none⟩=some (vi vk y):=fun s=>(G0.below s.hb G0.lt).cell 0;have y1: ∀s:BQ w0,s.w.cell? ⟨w.heap.size,1,none⟩=some (vi vk m):=fun s=>(G0.below s.hb G0.lt).cell 1;have y2: ∀s:BQ w0,s.w.cell? ⟨w.heap.size,2,none⟩=some (vi vk d):=fun s=>(G0.below s.hb G0.lt).cell 2;refine wp_region_bq w0 (by kernel_rfl) (by kernel_rfl) (Below.refl _ _) ?_;repeat (go_big_quiet_step (first|(go_at_call 159;with_reducible exact quiet_bq0 (KR.out _))|fail))
     refine wpQuiet_nil ?_;intro w9 hb9;go_wp2;go_ret;exact⟨ret_bo (by simp),b0.trans (hb9.mono b0.size)⟩
 · rw[decide_eq_false hr] at KR⊢
   clear hr;go_enter func106,ntmps106;go_upto_region 1 with fail
   generalize w.alloc (.cells (dtv y m d) 100)=w0 at*;have y0: ∀s:BQ w0,s.w.cell? ⟨w.heap.size,0,none⟩=some (vi vk y):=fun s=>(G0.below s.hb G0.lt).cell 0;have y1: ∀s:BQ w0,s.w.cell? ⟨w.heap.size,1,none⟩=some (vi vk m):=fun s=>(G0.below s.hb G0.lt).cell 1;refine wp_region_bq w0 (by kernel_rfl) (by kernel_rfl) (Below.refl _ _) ?_;repeat (go_big_quiet_step (first|(go_at_call 159;with_reducible exact quiet_bq0 (KR.out _))|fail))
   refine wpQuiet_nil ?_;intro w9 hb9;go_wp2;go_ret;exact⟨ret_bo (by simp),b0.trans (hb9.mono b0.size)⟩
theorem dayOf_any(y d:Int)(m:Nat)(w:World)(h:0≤y)(m1:1≤m)(m2:m≤12)(d0:0≤d)(d1:d≤100):Calls Tryz.prog 233 #[.agg (dtv y m d)] w fun e w'=>e=.returned (vi vk (CA.cum y m+d))∧Below w.heap.size w w':=by
 have KD:=hid (fun(k:Nat) (W:World) (k1:1≤k) (k2:k≤12)=>days_any y k W h k1 k2);have G0:=hid (Blk.new w 100 (dtv y m d));have b0:=hid (bl_alloc w (.cells (dtv y m d) 100));go_enter func233,ntmps233;go_upto_region 1 with fail
 generalize w.alloc (.cells (dtv y m d) 100)=w0 at*;have y2:w0.cell? ⟨w.heap.size,2,none⟩=some (vi vk d):=G0.out.cell 2;go_wp2_with fail;go_loopw [3,4] (fun s3 s4 wr=> ∃k:Nat,1≤k∧k≤m∧s4=vi vk k∧s3=vi vk (CA.cum y k+d)∧Blk wr w.heap.size 100 (dtv y m d)∧Below w.heap.size w wr) (fun _ s4 _=>m-(intOf s4).toNat)
 case atStart=>exact⟨1,Nat.le_refl _,m1,rfl,by show vi vk d=vi vk (0+d);rw[Int.zero_add],G0.out,b0.out⟩
 case round=>
  obtain⟨k,k1,k2,rfl,rfl,hG,hB⟩:=hrel;have y0:wr.cell? ⟨w.heap.size,0,none⟩=some (vi vk y):=hG.cell 0;have y1:wr.cell? ⟨w.heap.size,1,none⟩=some (vi vk (m:Int)):=hG.cell 1;have GG:=hid hG;have BB:=hid hB;clear hG hB y2;by_cases hk:k<m
  · have dk:decide ((k:Int)<(m:Int))=true:=decide_eq_true om_
    have K:=hid (KD.out k wr k1 om_);have hc:=CA.cum_succ y k1;have hb:=CA.cum_bd y k;have hd:=CA.dm_pos y k;go_wp2_with fail;(with_reducible refine(K.out).mono ?_)
    rintro e w1 ⟨rfl,hb1⟩
    have G1:=hid (GG.out.below hb1 GG.out.lt);have B1:=hid (BB.out.trans (hb1.mono BB.out.size));clear hb1 GG BB y0 y1;go_wp2;go_roundw
    case rel=>exact⟨k+1,om_,om_,by go_num,by rw[hc];go_num,G1.out,B1.out⟩
    case measure=>simp[intOf];omega
  · have dk:decide ((k:Int)<(m:Int))=false:=decide_eq_false om_
    obtain rfl:k=m:=by omega
    go_wp2;go_ret;exact⟨rfl,BB.out⟩
end Go.Proofs.YtbpnacacnncopaaGreatDoor
