/- The reference's Round and Print, the text of a point, an int in decimal. -/
import Derived.Test.YtdeiofgddhbdaaaGreatDoorHIm
set_option linter.unusedSimpArgs false
set_option linter.unusedVariables false
set_option maxHeartbeats 4000000
set_option maxRecDepth 100000
open Go.RowKit
open Go.Lib (hid)
open Go.Proofs.Tryz
open Go.Value renaming int→vi
open Go.IntKind renaming i64→vk
namespace Go.Proofs.YtdeiofgddhbdaaaGreatDoor
section
open Go.Shelf Frm
open Lib (decDigits)
theorem one_bytes(W:World)(c:UInt8)(x:Int)(hx:x=(c.toNat:Int)):(convert 115 9 (.slice (some ⟨W.heap.size,0,none⟩) 1 1)).run Tryz.prog (W.alloc (.cells #[.int .u8 x] 5))=.ok (tx [c]) (W.alloc (.cells #[.int .u8 x] 5)):=by
 subst hx;exact run_convert_bytes_back (P:=Tryz.prog) (W.alloc (.cells #[.int .u8 c.toNat] 5)) 115 9 5 ⟨W.heap.size,0,none⟩ 1 [c] underlying115 underlying5 underlying9 (fun j hj=>by
  obtain rfl:j=0:=by simpa using hj
  simp[Addr.add])
theorem dB_nat{n:Nat}(h:n<10):(48+(n:Int))=((dB n).toNat:Int):=by
 have: ∀n:Fin 10,(48+((n:Nat):Int))=((dB n).toNat:Int):=by decide
 exact this ⟨n,h⟩
theorem rdigits_any(n k:Nat)(w:World)(h:n<100000000)(hk:k≤8):
 Calls Tryz.prog 104 #[vi vk (n:Int),vi vk (k:Int)] w fun e w'=>e=.returned (tx (dgs n k))∧Below w.heap.size w w':=by
 have hlen:=dgs_len_le n k om_ hk;go_enter func104,ntmps104;go_wp2;go_loopg [0,1,5] (n+k) (fun gz s0 s1 s5 wr=> ∃(m j:Nat) (q:Int) (acc:Bs),s0=vi vk (m:Int)∧s1=vi vk q∧s5=tx acc∧q.toNat=j∧dgs m j++acc=dgs n k∧m+j≤gz∧m≤n∧ -(n:Int)≤q-m∧q≤8∧Below w.heap.size w wr)
 case atStart=>exact⟨n,k,k,[],rfl,rfl,rfl,by simp,by simp,Nat.le_refl _,Nat.le_refl _,om_,om_,Below.refl _ _⟩
 case round=>
  obtain⟨m,j,q,acc,rfl,rfl,rfl,hqj,hacc,hg,hmn,hq,hq8,hbr⟩:=hrel;have BR:=hid hbr;have HA:=hid hacc;have HL:acc.length≤16:=by rw[←hacc,List.length_append] at hlen;omega
  clear hbr hacc;by_cases hgo:0<m∨0<j
  · have hstep:=dgs_step (n:=m) (k:=j) hgo
    obtain⟨r,hr⟩: ∃r,m%10=r:=⟨_,rfl⟩;obtain⟨v,hv⟩: ∃v,m/10=v:=⟨_,rfl⟩;rw[hr,hv] at hstep;have hr0:((m:Int)).tmod 10=(r:Int):=by rw[Int.tmod_eq_emod_of_nonneg om_];omega
    have hr1:((m:Int)).tdiv 10=(v:Int):=by rw[Int.tdiv_eq_ediv_of_nonneg om_];omega
    have r10:r<10:=by omega
    have v10:10*v≤m∧m<10*v+10:=by omega
    have hd:=dB_nat (n:=r) r10;have hcb:=one_bytes wr (dB r) (48+(r:Int)) hd;have hba:=(bl_alloc wr (.cells #[.int .u8 (48+(r:Int))] 5));have B2:=hid (BR.out.trans (hba.mono BR.out.size));have hadd:=tx_add [dB r] acc (by simp) om_;have w1:wrap64 (q-1)=q-1:=IntWalk.wrap64_in _ om_;have HS:=hid hstep;clear hba hstep hd hr hv;rcases Nat.lt_or_ge 0 m with hm|hm
    · have d0:decide ((0:Int)<(m:Int))=true:=decide_eq_true om_
      clear hgo;go_wp2;go_roundg (v+(j-1))
      case measure=>omega
      case rel=>exact⟨v,j-1,q-1,[dB r]++acc,rfl,rfl,rfl,om_,by rw[←HA.out,HS.out];simp,Nat.le_refl _,om_,om_,om_,B2.out⟩
    · have d0:decide ((0:Int)<(m:Int))=false:=decide_eq_false om_
      have d1:decide ((0:Int)<q)=true:=decide_eq_true om_;have hj:0<j:=by omega
      clear hgo;go_wp2;go_roundg (v+(j-1))
      case measure=>omega
      case rel=>exact⟨v,j-1,q-1,[dB r]++acc,rfl,rfl,rfl,om_,by rw[←HA.out,HS.out];simp,Nat.le_refl _,om_,om_,om_,B2.out⟩
  · have d0:decide ((0:Int)<(m:Int))=false:=decide_eq_false om_
    have d1:decide ((0:Int)<q)=false:=decide_eq_false om_;have hz:acc=dgs n k:=by
     have:=HA.out;rw[show m=0 by omega,show j=0 by omega] at this;simpa [dgs_zero] using this
    obtain rfl:m=0:=by omega
    subst hz;clear HA hgo;go_wp2;go_ret;exact⟨rfl,BR.out⟩
theorem rtext_any(n:Int)(w:World)(hn:n.natAbs≤1099511627776):
 Calls Tryz.prog 75 #[vi vk n] w fun e w'=>e=.returned (tx (textL n))∧Below w.heap.size w w':=by
 obtain⟨m,hm⟩: ∃m,n.natAbs=m:=⟨_,rfl⟩;have htx:textL n=(if n<0 then[45] else[])++(decDigits (m/60000)++45::(dgs (m%60000/1000) 2++46::(if m%1000%100=0 then decDigits (m%1000/100) else dgs (m%1000) 3))):=by rw[←hm];rfl
 have KD:=hid (fun(k j:Nat) (W:World) (hk:k<100000000) (hj1:j≤8)=>rdigits_any k j W hk hj1);have l1:=dd_len 7 (m/60000) om_;have l2:(dgs (m%60000/1000) 2).length=2:=dgs_len 2 _ om_;have l3:=dd_len 7 (m%1000/100) om_;have l4:(dgs (m%1000) 3).length=3:=dgs_len 3 _ om_;obtain⟨d1,hd1⟩: ∃d,m/60000=d:=⟨_,rfl⟩;obtain⟨d2,hd2⟩: ∃d,m%60000=d:=⟨_,rfl⟩;obtain⟨d3,hd3⟩: ∃d,d2/1000=d:=⟨_,rfl⟩;obtain⟨d4,hd4⟩: ∃d,m%1000=d:=⟨_,rfl⟩;obtain⟨d5,hd5⟩: ∃d,d4/100=d:=⟨_,rfl⟩;obtain⟨d6,hd6⟩: ∃d,d4%100=d:=⟨_,rfl⟩;have q1:((m:Int)).tdiv 60000=(d1:Int):=by rw[Int.tdiv_eq_ediv_of_nonneg om_];omega
 have q2:((m:Int)).tmod 60000=(d2:Int):=by rw[Int.tmod_eq_emod_of_nonneg om_];omega
 have q3:((d2:Int)).tdiv 1000=(d3:Int):=by rw[Int.tdiv_eq_ediv_of_nonneg om_];omega
 have q4:((m:Int)).tmod 1000=(d4:Int):=by rw[Int.tmod_eq_emod_of_nonneg om_];omega
 have q5:((d4:Int)).tmod 100=(d6:Int):=by rw[Int.tmod_eq_emod_of_nonneg om_];omega
 have q6:((d4:Int)).tdiv 100=(d5:Int):=by rw[Int.tdiv_eq_ediv_of_nonneg om_];omega
 have hb1:d1<100000000:=by omega
 have hb2:d3<100000000:=by omega
 have hb3:d5<100000000:=by omega
 have hb4:d4<100000000:=by omega
 have hok:m≤1099511627776:=by omega
 rw[hd1] at l1;rw[hd2,hd3] at l2;rw[hd4,hd5] at l3;rw[hd4] at l4;rw[hd1,hd2,hd3,hd4,hd5,hd6] at htx;clear hd1 hd2 hd3 hd4 hd5 hd6;have HM:=hid hm;obtain⟨l0,hl0⟩: ∃l0:Bs,(if n<0 then[45] else[])=l0:=⟨_,rfl⟩;have hfin:textL n=(l0++decDigits (d1)++[45]++dgs (d3) 2++[46])++(if d6=0 then decDigits (d5) else dgs (d4) 3):=by
  rw[htx,hl0];simp
 have HF:=hid hfin;have L0:l0.length≤1:=by rw[←hl0];split<;>simp
 clear hfin htx hm;go_enter func75,ntmps75;rcases Int.lt_or_le n 0 with hneg|hpos
 · obtain rfl:n= -(m:Int):=by have:=HM.out;omega
   have dn:decide (-(m:Int)<0)=true:=decide_eq_true hneg;have hm0:0<m:=by omega
   have dn2:decide (0<m)=true:=decide_eq_true hm0;have hng:wrap64 (m:Int)=(m:Int):=IntWalk.wrap64_in _ om_;have hn2:(0:Int)- -(m:Int)=(m:Int):=by omega
   rw[if_pos hneg] at hl0;subst hl0;go_upto_region 5 with (fail)
   clear dn dn2 hneg;have KD1:=KD.out d1 1 w hb1 dc_;rw[dgs_one,show((1:Nat):Int)=1 from rfl] at KD1;have KD2:=fun W=>KD.out d3 2 W hb2 dc_;rw[show((2:Nat):Int)=2 from rfl] at KD2;generalize decDigits d1=D at KD1 HF l1;generalize dgs d3 2=G2 at KD2 HF l2;have KD1:=hid KD1;have KD2:=hid KD2;have ha0:=tx_add [45] D (by simp) om_;have ha1:=tx_add ([45]++D) [45] (by simp;omega) (by simp);have ha2:=tx_add ([45]++D++[45]) G2 (by simp;omega) om_;have ha3:=tx_add ([45]++D++[45]++G2) [46] (by simp;omega) (by simp);have L3:([45]++D++[45]++G2++[46]).length≤20:=by simp;omega
   generalize [45]++D=E0 at ha0 ha1 ha2 ha3 HF L3;generalize E0++[45]=E1 at ha1 ha2 ha3 HF L3;generalize E1++G2=E2 at ha2 ha3 HF L3;generalize E2++[46]=E3 at ha3 HF L3;go_wp2_with fail;(with_reducible refine(KD1.out).mono ?_)
   rintro e w3 ⟨rfl,hb3'⟩
   have B3:=hid hb3';clear hb3' KD1;go_wp2_with fail;(with_reducible refine(KD2.out _).mono ?_)
   rintro e w4 ⟨rfl,hb4'⟩
   have B4:=hid (B3.out.trans (hb4'.mono B3.out.size));clear hb4' KD2 B3;by_cases h0:d6=0
   · have hbe:((d6:Int)==0)=true:=by rw[h0];rfl
     have KD3:=fun W=>KD.out d5 1 W hb3 dc_;simp only[dgs_one,show((1:Nat):Int)=1 from rfl] at KD3;rw[if_pos h0] at HF;generalize decDigits d5=T at KD3 HF l3;have KD3:=hid KD3;have ha4:=tx_add E3 T om_ om_;rw[←HF.out] at ha4;clear KD h0 HF;go_wp2_with fail;(with_reducible refine(KD3.out _).mono ?_)
     rintro e w6 ⟨rfl,hb6⟩
     have B6:=hid (B4.out.trans (hb6.mono B4.out.size));clear hb6 KD3;go_wp2;go_ret;exact⟨rfl,B6.out⟩
   · have hbe:((d6:Int)==0)=false:=by simpa using h0
     have KD3:=fun W=>KD.out d4 3 W hb4 dc_;simp only[show((3:Nat):Int)=3 from rfl] at KD3;rw[if_neg h0] at HF;generalize dgs d4 3=T at KD3 HF l4;have KD3:=hid KD3;have ha4:=tx_add E3 T om_ om_;rw[←HF.out] at ha4;clear KD h0 HF;go_wp2_with fail;(with_reducible refine(KD3.out _).mono ?_)
     rintro e w6 ⟨rfl,hb6⟩
     have B6:=hid (B4.out.trans (hb6.mono B4.out.size));clear hb6 KD3;go_wp2;go_ret;exact⟨rfl,B6.out⟩
 · obtain rfl:n=(m:Int):=by have:=HM.out;omega
   have dn:decide ((m:Int)<0)=false:=decide_eq_false om_;rw[if_neg om_] at hl0;subst hl0;go_upto_region 5 with (fail)
   clear dn hpos;have KD1:=KD.out d1 1 w hb1 dc_;rw[dgs_one,show((1:Nat):Int)=1 from rfl] at KD1;have KD2:=fun W=>KD.out d3 2 W hb2 dc_;rw[show((2:Nat):Int)=2 from rfl] at KD2;generalize decDigits d1=D at KD1 HF l1;generalize dgs d3 2=G2 at KD2 HF l2;have KD1:=hid KD1;have KD2:=hid KD2;have ha0:=tx_add ([]:Bs) D (by simp) om_;have ha1:=tx_add (([]:Bs)++D) [45] (by simp;omega) (by simp);have ha2:=tx_add (([]:Bs)++D++[45]) G2 (by simp;omega) om_;have ha3:=tx_add (([]:Bs)++D++[45]++G2) [46] (by simp;omega) (by simp);have L3:(([]:Bs)++D++[45]++G2++[46]).length≤20:=by simp;omega
   generalize ([]:Bs)++D=E0 at ha0 ha1 ha2 ha3 HF L3;generalize E0++[45]=E1 at ha1 ha2 ha3 HF L3;generalize E1++G2=E2 at ha2 ha3 HF L3;generalize E2++[46]=E3 at ha3 HF L3;go_wp2_with fail;(with_reducible refine(KD1.out).mono ?_)
   rintro e w3 ⟨rfl,hb3'⟩
   have B3:=hid hb3';clear hb3' KD1;go_wp2_with fail;(with_reducible refine(KD2.out _).mono ?_)
   rintro e w4 ⟨rfl,hb4'⟩
   have B4:=hid (B3.out.trans (hb4'.mono B3.out.size));clear hb4' KD2 B3;by_cases h0:d6=0
   · have hbe:((d6:Int)==0)=true:=by rw[h0];rfl
     have KD3:=fun W=>KD.out d5 1 W hb3 dc_;simp only[dgs_one,show((1:Nat):Int)=1 from rfl] at KD3;rw[if_pos h0] at HF;generalize decDigits d5=T at KD3 HF l3;have KD3:=hid KD3;have ha4:=tx_add E3 T om_ om_;rw[←HF.out] at ha4;clear KD h0 HF;go_wp2_with fail;(with_reducible refine(KD3.out _).mono ?_)
     rintro e w6 ⟨rfl,hb6⟩
     have B6:=hid (B4.out.trans (hb6.mono B4.out.size));clear hb6 KD3;go_wp2;go_ret;exact⟨rfl,B6.out⟩
   · have hbe:((d6:Int)==0)=false:=by simpa using h0
     have KD3:=fun W=>KD.out d4 3 W hb4 dc_;simp only[show((3:Nat):Int)=3 from rfl] at KD3;rw[if_neg h0] at HF;generalize dgs d4 3=T at KD3 HF l4;have KD3:=hid KD3;have ha4:=tx_add E3 T om_ om_;rw[←HF.out] at ha4;clear KD h0 HF;go_wp2_with fail;(with_reducible refine(KD3.out _).mono ?_)
     rintro e w6 ⟨rfl,hb6⟩
     have B6:=hid (B4.out.trans (hb6.mono B4.out.size));clear hb6 KD3;go_wp2;go_ret;exact⟨rfl,B6.out⟩
end
section
open Go.Shelf Frm
open Lib (decDigits)
theorem rfl100_any(a:Int)(w:World)(h0: -4611686018427387904≤a)(h1:a≤4611686018427387904):Calls Tryz.prog 64 #[vi vk a,vi vk 100] w fun e w'=>e=.returned (vi vk (a/100))∧w'=w:=by
 have hf:=tdivH a;have hq: -4611686018427387904≤a/100∧a/100≤4611686018427387904:=by omega
 generalize a/100=q at*;rcases hf with ⟨t0,t1⟩|⟨t0,t1⟩
 · have d:decide (Int.tmod a 100<0)=false:=decide_eq_false om_
   have s2:wrap64 (Int.tdiv a 100)=Int.tdiv a 100:=IntWalk.wrap64_in _ om_;have T:=hid t1;clear t0 t1 hq h0 h1;go_enter func64,ntmps64;go_wp2;go_ret;exact⟨ret_int (by first|exact T.out|(rw[s2];exact T.out)),rfl⟩
 · have d:decide (Int.tmod a 100<0)=true:=decide_eq_true om_
   have s2:wrap64 (Int.tdiv a 100)=Int.tdiv a 100:=IntWalk.wrap64_in _ om_;have s1:wrap64 (Int.tdiv a 100-1)=Int.tdiv a 100-1:=IntWalk.wrap64_in _ om_;have T:=hid t1;clear t0 t1 hq h0 h1;go_enter func64,ntmps64;go_wp2;go_ret;exact⟨ret_int (by first|exact T.out|(rw[s1];exact T.out)),rfl⟩
theorem rround_any(n:Int)(w:World)(h0: -1099511627776≤n)(h1:n≤1099511627776):Calls Tryz.prog 134 #[vi vk n] w fun e w'=>e=.returned (vi vk (rnd n))∧w'=w:=by
 have e1:wrap64 (n+50)=n+50:=IntWalk.wrap64_in _ om_;have e2:wrap64 (100*((n+50)/100))=rnd n:=by rw[IntWalk.wrap64_in _ om_];unfold rnd;omega
 have K:=hid (rfl100_any (n+50) w om_ om_);generalize (n+50)/100=q at*;go_enter func134,ntmps134;go_wp2_with fail;(with_reducible refine K.out.mono ?_)
 rintro e w1 ⟨rfl,rfl⟩
 go_wp2;go_ret;exact⟨ret_int e2,rfl⟩
theorem below_of_same{P:Program}{f:FuncId}{args:Array Value}{w:World}{v:Value}(h:Calls P f args w fun e w'=>e=.returned v∧w'=w):Calls P f args w fun e w'=>e=.returned v∧Below w.heap.size w w':=
 h.mono fun _ _ ⟨he,hw⟩=>⟨he,hw▸Below.refl _ _⟩
theorem rprint_any(lo hi:Int)(w:World)(h0:lo≤hi)(h1: -1099511627776≤lo)(h2:hi≤1099511627776):
 Calls Tryz.prog 97 #[.agg #[vi vk lo,vi vk hi]] w fun e w'=>e=.returned (.tuple #[tx (printL lo hi).1,vi vk (printL lo hi).2])∧Below w.heap.size w w':=by
 obtain⟨R,hR⟩: ∃R,printL lo hi=R:=⟨_,rfl⟩;rw[hR];have K1:=hid (fun W=>rround_any lo W om_ om_);have K2:=hid (fun W=>rround_any hi W om_ om_);have n1:=rnd_near lo;have n2:=rnd_near hi;have hle:rnd lo≤rnd hi:=by unfold rnd;omega
 have hp:printL lo hi=if rnd lo< -1099511627776∨1099511627776<rnd hi then([],5) else if rnd lo=rnd hi then(textL (rnd lo),0) else(textL (rnd lo)++[32,46,46,32]++textL (rnd hi),0):=rfl
 rw[hR] at hp;clear hR;generalize rnd lo=a at*;generalize rnd hi=b at*;have G0:=hid (Blk.new w 33 #[vi vk lo,vi vk hi]);have B0:=hid (bl_alloc w (.cells #[vi vk lo,vi vk hi] 33));go_enter func97,ntmps97;go_upto_region 1 with (fail)
 generalize w.alloc (.cells #[vi vk lo,vi vk hi] 33)=w1 at G0 B0⊢;have k0: ∀s:BV w1,s.w.cell? ⟨w.heap.size,0,none⟩=some (vi vk lo):=fun s=>(s.hb.cell (p:=⟨w.heap.size,0,none⟩) G0.out.lt).trans (G0.out.cell 0);have k1: ∀s:BV w1,s.w.cell? ⟨w.heap.size,1,none⟩=some (vi vk hi):=fun s=>(s.hb.cell (p:=⟨w.heap.size,1,none⟩) G0.out.lt).trans (G0.out.cell 1);have K3:=hid (fun(s:BV w1)=>below_of_same (K1.out s.w));have K4:=hid (fun(s:BV w1)=>below_of_same (K2.out s.w));refine wp_region_bv w1 (by kernel_rfl) (by kernel_rfl) (Below.refl _ _) ?_;(repeat (go_big_quiet_step (first|(go_at_call 134;first|with_reducible exact quiet_bv (K3.out _)|with_reducible exact quiet_bv (K4.out _))|fail)))
 refine wpQuiet_nil ?_;intro wb hbb;have B2:=hid (B0.out.trans (hbb.mono B0.out.size));clear k0 k1 hbb B0 G0 K1 K2 K3 K4;by_cases hbad:a< -1099511627776∨1099511627776<b
 · rw[if_pos hbad] at hp
   subst hp;by_cases hx:a< -1099511627776
   · have d0:decide (a< -1099511627776)=true:=decide_eq_true hx
     clear hbad;go_wp2;go_ret2
     exact⟨rfl,B2.out⟩
   · have d0:decide (a< -1099511627776)=false:=decide_eq_false hx
     have d1:decide (1099511627776<b)=true:=decide_eq_true om_;clear hbad;go_wp2;go_ret2
     exact⟨rfl,B2.out⟩
 · have d0:decide (a< -1099511627776)=false:=decide_eq_false om_
   have d1:decide (1099511627776<b)=false:=decide_eq_false om_;rw[if_neg hbad] at hp;have KT1:=hid (fun(W:World)=>rtext_any a W om_);have KT2:=hid (fun(W:World)=>rtext_any b W om_);have t1:=text_len (n:=a) om_;have t2:=text_len (n:=b) om_;by_cases he:a=b
   · rw[if_pos he] at hp
     subst hp;subst he;clear hbad n1 n2 hle;go_wp2_with fail;(with_reducible refine(KT1.out _).mono ?_)
     rintro e wc ⟨rfl,hbc⟩
     go_wp2;go_ret2
     exact⟨rfl,B2.out.trans (hbc.mono B2.out.size)⟩
   · rw[if_neg he] at hp
     have de:((a:Int)==b)=false:=by simpa using he
     generalize textL a=X at*;generalize textL b=Y at*;have a1:=tx_add X [32,46,46,32] om_ (by simp);have a2:=tx_add (X++[32,46,46,32]) Y (by simp;omega) om_;obtain⟨T,hT⟩: ∃T,X++[32,46,46,32]++Y=T:=⟨_,rfl⟩;rw[hT] at hp a2;subst hp;clear hT;generalize X++[32,46,46,32]=X1 at a1 a2;clear hbad n1 n2 hle he t1 t2;go_wp2_with fail;(with_reducible refine(KT1.out _).mono ?_)
     rintro e wc ⟨rfl,hbc⟩
     have B3:=hid (B2.out.trans (hbc.mono B2.out.size));clear hbc B2;go_wp2_with fail;(with_reducible refine(KT2.out _).mono ?_)
     rintro e wd ⟨rfl,hbd⟩
     go_wp2;go_ret2
     exact⟨rfl,B3.out.trans (hbd.mono B3.out.size)⟩
theorem rside_any(n:Int)(p m:Bs)(w:World)(hn:n.natAbs≤1099511627776)(hp:p.length≤1)(hm:m.length≤1):
 Calls Tryz.prog 68 #[vi vk n,tx p,tx m] w fun e w'=>e=.returned (tx (sideL n p m))∧Below w.heap.size w w':=by
 have KT:=rtext_any (n.natAbs:Int) w om_;have hl:=text_len (n:=(n.natAbs:Int)) om_;obtain⟨r,hr⟩: ∃r,sideL n p m=r:=⟨_,rfl⟩;rw[hr];unfold sideL at hr;generalize textL (n.natAbs:Int)=T at KT hl hr;rcases Int.lt_or_le n 0 with hneg|hpos
 · have e1:wrap64 (-n)=(n.natAbs:Int):=by rw[IntWalk.wrap64_in _ om_];omega
   have d0:decide (n<0)=true:=decide_eq_true hneg;rw[if_pos hneg] at hr;have ha:=tx_add T m om_ om_;have KT:=hid KT;subst hr;generalize (n.natAbs:Int)=k at KT e1;clear hneg hl hn;go_enter func68,ntmps68;go_wp2_with fail;(with_reducible refine KT.out.mono ?_)
   rintro e w1 ⟨rfl,hb1⟩
   go_wp2;go_ret;exact⟨rfl,hb1⟩
 · obtain⟨k,rfl⟩: ∃k:Nat,n=(k:Int):=⟨n.toNat,om_⟩
   have d0:decide ((k:Int)<0)=false:=decide_eq_false om_;rw[if_neg om_] at hr;rw[Int.natAbs_natCast] at KT;have ha:=tx_add T p om_ om_;have KT:=hid KT;subst hr;clear hpos hl hn;go_enter func68,ntmps68;go_wp2_with fail;(with_reducible refine KT.out.mono ?_)
   rintro e w1 ⟨rfl,hb1⟩
   go_wp2;go_ret;exact⟨rfl,hb1⟩
theorem rText08_any(a b:Int)(w:World)(ha: -10800000≤a∧a≤10800000)(hb: -10800000≤b∧b≤10800000):
 Calls Tryz.prog 34 #[.agg #[vi vk a,vi vk b]] w fun e w'=>e=.returned (tx (ptL a b))∧Below w.heap.size w w':=by
 have KA:=hid (fun(W:World)=>rside_any a [78] [83] W om_ (by simp) (by simp));have KB:=hid (fun(W:World)=>rside_any b [69] [87] W om_ (by simp) (by simp));have l1:=side_len a [78] [83] om_ (by simp) (by simp);have l2:=side_len b [69] [87] om_ (by simp) (by simp);obtain⟨r,hr⟩: ∃r,ptL a b=r:=⟨_,rfl⟩;rw[hr];unfold ptL at hr;generalize sideL a [78] [83]=X at*;generalize sideL b [69] [87]=Y at*;have a1:=tx_add X [32] om_ (by simp);have a2:=tx_add (X++[32]) Y (by simp;omega) om_;rw[show X++[32]++Y=r by rw[←hr];simp] at a2;generalize X++[32]=X1 at a1 a2;clear hr l1 l2 ha hb;have G0:=hid (Blk.new w 50 #[vi vk a,vi vk b]);have B0:=hid (bl_alloc w (.cells #[vi vk a,vi vk b] 50));go_enter func34,ntmps34;go_upto_region 1 with (fail)
 generalize w.alloc (.cells #[vi vk a,vi vk b] 50)=w1 at G0 B0⊢;have k0: ∀s:BV w1,s.w.cell? ⟨w.heap.size,0,none⟩=some (vi vk a):=fun s=>(s.hb.cell (p:=⟨w.heap.size,0,none⟩) G0.out.lt).trans (G0.out.cell 0);have k1: ∀s:BV w1,s.w.cell? ⟨w.heap.size,1,none⟩=some (vi vk b):=fun s=>(s.hb.cell (p:=⟨w.heap.size,1,none⟩) G0.out.lt).trans (G0.out.cell 1);have KA1:=hid (fun(s:BV w1)=>KA.out s.w);have KB1:=hid (fun(s:BV w1)=>KB.out s.w);clear KA KB;refine wp_region_bv w1 (by kernel_rfl) (by kernel_rfl) (Below.refl _ _) ?_;(repeat (go_big_quiet_step (first|(go_at_call 68;first|with_reducible exact quiet_bv (KA1.out _)|with_reducible exact quiet_bv (KB1.out _))|fail)))
 refine wpQuiet_nil ?_;intro wb hbb;have B2:=hid (B0.out.trans (hbb.mono B0.out.size));clear k0 k1 KA1 KB1 hbb;go_wp2;go_ret;exact⟨rfl,B2.out⟩
theorem printed_any(lo hi:Int)(w:World)(h0:lo≤hi)(h1: -1099511627776≤lo)(h2:hi≤1099511627776):
 Calls Tryz.prog 67 #[.agg #[vi vk lo,vi vk hi]] w fun e w'=>e=.returned (tx (printL lo hi).1)∧Below w.heap.size w w':=by
 have K:=hid (fun W=>rprint_any lo hi W h0 h1 h2);obtain⟨⟨t,x⟩,hp⟩: ∃p,printL lo hi=p:=⟨_,rfl⟩;rw[hp] at K⊢;simp only[] at K⊢;clear hp h0 h1 h2;have G0:=hid (Blk.new w 33 #[vi vk lo,vi vk hi]);have B0:=hid (bl_alloc w (.cells #[vi vk lo,vi vk hi] 33));go_enter func67,ntmps67;go_upto_region 1 with (fail)
 generalize w.alloc (.cells #[vi vk lo,vi vk hi] 33)=w1 at G0 B0⊢;have y0:w1.cell? ⟨w.heap.size,0,none⟩=some (vi vk lo):=G0.out.cell 0;have y1:w1.cell? ⟨w.heap.size,1,none⟩=some (vi vk hi):=G0.out.cell 1;go_wp2_with fail;(with_reducible refine(K.out _).mono ?_)
 rintro e wc ⟨rfl,hbc⟩
 go_wp2;go_ret;exact⟨rfl,B0.out.trans (hbc.mono B0.out.size)⟩
theorem rnumber_any(lab:Bs)(lo hi:Int)(w:World)(h0:lo≤hi)(h1: -1099511627776≤lo)(h2:hi≤1099511627776)(hlab:lab.length≤1000):
 Calls Tryz.prog 33 #[tx lab,.agg #[vi vk lo,vi vk hi]] w fun e w'=>e=.returned (tx (lab++32::(printL lo hi).1))∧Below w.heap.size w w':=by
 have K:=hid (fun W=>printed_any lo hi W h0 h1 h2);have hl:=print_len h0 h1 h2;generalize (printL lo hi).1=t at*;have a1:=tx_add lab [32] om_ (by simp);have a2:=tx_add (lab++[32]) t (by simp;omega) om_;rw[show lab++[32]++t=lab++32::t by simp] at a2;generalize lab++32::t=r at*;generalize lab++[32]=X1 at a1 a2;clear h0 h1 h2 hlab hl;have G0:=hid (Blk.new w 33 #[vi vk lo,vi vk hi]);have B0:=hid (bl_alloc w (.cells #[vi vk lo,vi vk hi] 33));go_enter func33,ntmps33;go_upto_region 1 with (fail)
 generalize w.alloc (.cells #[vi vk lo,vi vk hi] 33)=w1 at G0 B0⊢;have y0:w1.cell? ⟨w.heap.size,0,none⟩=some (vi vk lo):=G0.out.cell 0;have y1:w1.cell? ⟨w.heap.size,1,none⟩=some (vi vk hi):=G0.out.cell 1;go_wp2_with fail;(with_reducible refine(K.out _).mono ?_)
 rintro e wc ⟨rfl,hbc⟩
 go_wp2;go_ret;exact⟨rfl,B0.out.trans (hbc.mono B0.out.size)⟩
theorem encode_dig{n:Nat}(h:n<10):Utf8.encode (48+(n:Int))=⟨[dB n].toArray⟩:=by
 have: ∀n:Fin 10,Utf8.encode (48+((n:Nat):Int))=⟨[dB n].toArray⟩:=by decide
 exact this ⟨n,h⟩
theorem decimal_small(n:Nat)(w:World)(hn:n<10):Calls Tryz.prog 31 #[vi vk (n:Int)] w fun e w'=>e=.returned (tx (decDigits n))∧Below w.heap.size w w':=by
 have d0:decide ((n:Int)<0)=false:=decide_eq_false om_;have d1:decide ((10:Int)≤(n:Int))=false:=decide_eq_false om_;have r0:((n:Int)).tmod 10=(n:Int):=by rw[Int.tmod_eq_emod_of_nonneg om_];omega
 have hE:=encode_dig (n:=n) om_;have hw:wrap64 (48+(n:Int))=48+(n:Int):=IntWalk.wrap64_in _ om_;have hw2:IntKind.i32.wrap (48+(n:Int))=48+(n:Int):=by rw[IntKind.wrap_i32];omega
 rw[dd_small om_];clear hn;go_enter func31,ntmps31;go_wp2;go_ret;exact⟨rfl,Below.refl _ _⟩
theorem decimal_any: ∀(k n:Nat) (w:World),n<10^(k+1)→k≤7→
 Calls Tryz.prog 31 #[vi vk (n:Int)] w fun e w'=>e=.returned (tx (decDigits n))∧Below w.heap.size w w':=by
 intro k;induction k with
 |zero=>intro n w hn _;exact decimal_small n w (by simpa using hn)
 |succ k ih=>
  intro n w hn hk;by_cases h10:n<10
  · exact decimal_small n w h10
  have hpw:10^(k+1+1)≤10^9:=Nat.pow_le_pow_right dc_ om_;have hp2:10^(k+1+1)=10*10^(k+1):=by rw[Nat.pow_succ,Nat.mul_comm]
  have K:=ih (n/10) w om_ om_;have hl:=dd_len 9 (n/10) om_;rw[dd_big h10];have d0:decide ((n:Int)<0)=false:=decide_eq_false om_;have d1:decide ((10:Int)≤(n:Int))=true:=decide_eq_true om_;obtain⟨r,hr⟩: ∃r,n%10=r:=⟨_,rfl⟩;obtain⟨q,hq⟩: ∃q,n/10=q:=⟨_,rfl⟩;have r0:((n:Int)).tmod 10=(r:Int):=by rw[Int.tmod_eq_emod_of_nonneg om_];omega
  have q0:((n:Int)).tdiv 10=(q:Int):=by rw[Int.tdiv_eq_ediv_of_nonneg om_];omega
  have r10:r<10:=by omega
  have qb:q≤1000000000:=by omega
  have hE:=encode_dig (n:=r) r10;have hw:wrap64 (48+(r:Int))=48+(r:Int):=IntWalk.wrap64_in _ om_;have hw2:IntKind.i32.wrap (48+(r:Int))=48+(r:Int):=by rw[IntKind.wrap_i32];omega
  rw[hr,hq];rw[hq] at K hl;generalize decDigits q=D at*;have ha:=tx_add D [dB r] om_ (by simp);have K:=hid K;obtain⟨T,hT⟩: ∃T,D++[dB r]=T:=⟨_,rfl⟩;rw[hT] at ha⊢;clear hn hk h10 hpw hp2 hr hq hl hT ih;go_enter func31,ntmps31;go_wp2_with fail;(with_reducible refine K.out.mono ?_)
  rintro e w1 ⟨rfl,hb1⟩
  go_wp2;go_ret;exact⟨rfl,hb1⟩
end
end Go.Proofs.YtdeiofgddhbdaaaGreatDoor
