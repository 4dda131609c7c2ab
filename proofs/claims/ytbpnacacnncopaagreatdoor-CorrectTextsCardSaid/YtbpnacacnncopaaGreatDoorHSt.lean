/- The reference's words of a text. -/
import Derived.Test.YtbpnacacnncopaaGreatDoorHXn
set_option linter.unusedSimpArgs false
set_option linter.unusedVariables false
set_option maxHeartbeats 4000000
set_option maxRecDepth 100000
open Go.RowKit
open Go.Lib (hid)
open Go.Proofs.Tryz
open Go.Value renaming int→vi
open Go.IntKind renaming i64→vk
namespace Go.Proofs.YtbpnacacnncopaaGreatDoor
section
open Frm
theorem rDateOf_any(n:Int)(w:World)(h0: -730119≤n)(h1:n≤2921939):Calls Tryz.prog 116 #[vi vk n] w fun e w'=>(∃(y d:Int) (m:Nat),CA.vld ⟨y,m,d⟩∧CA.num ⟨y,m,d⟩=n∧e=.returned (.agg (dtv y m d)))∧Below w.heap.size w w':=by
 have KZ:=hid (fun W=>rBefore_any 2000 W om_ om_);rw[CA.bef_2000] at KZ;have KB:=hid (fun(y:Int) (W:World) (a:1≤y) (b:y≤1000000)=>rBefore_any y W a b);have G0:=hid (Blk.new w 100 (dtv 0 0 0));have b0:=hid (bl_alloc w (.cells (dtv 0 0 0) 100));go_enter func116,ntmps116;go_upto_region 1 with fail
 have e0:w.alloc (.cells #[vi vk 0,vi vk 0,vi vk 0] 100)=w.alloc (.cells (dtv 0 0 0) 100):=rfl;rw[e0];clear e0;generalize w.alloc (.cells (dtv 0 0 0) 100)=w0 at*;go_wp2_with fail;go_loopg [3,4] 10000 (fun gz s3 s4 wr=> ∃lo hi:Int,s3=vi vk lo∧s4=vi vk hi∧1≤lo∧lo≤hi∧hi≤9999∧(hi-lo).toNat≤gz∧CA.bef lo≤n+730119∧n+730119<CA.bef (hi+1)∧wr=w0)
 case atStart=>exact⟨1,9999,rfl,rfl,om_,om_,om_,om_,by rw[CA.bef_1];omega,by rw[show(9999:Int)+1=10000 by rfl,CA.bef_10000];omega,rfl⟩
 case round=>
  obtain⟨lo,hi,rfl,rfl,l1,lh,h9,hg,hA,hB,rfl⟩:=hrel;by_cases hlt:lo<hi
  · have dl:decide (lo<hi)=true:=decide_eq_true hlt
    obtain⟨mid,hm⟩: ∃mid,(lo+hi+1)/2=mid:=⟨_,rfl⟩;have hmt:(lo+hi+1).tdiv 2=mid:=by rw[Int.tdiv_eq_ediv_of_nonneg om_];exact hm
    have m1:lo<mid:=by omega
    have m2:mid≤hi:=by omega
    have K1:=hid (fun W=>KB.out mid W om_ om_);have hbd:=bef_bd (y:=mid) om_ om_;have HA:=hid hA;have HB:=hid hB;have HK:Hid (n+730119<CA.bef mid→n+730119<CA.bef (mid-1+1)):=hid fun h=>by rw[show mid-1+1=mid by omega];exact h
    have HM:=hid hm;clear hA hB hm;obtain⟨bm,hbm⟩: ∃bm,CA.bef mid=bm:=⟨_,rfl⟩;rw[hbm] at K1 hbd HK;have HBM:=hid hbm;clear hbm;by_cases hc:bm-730119≤n
    · have dc:decide (bm-730119≤n)=true:=decide_eq_true hc
      go_wp2_with (go_at_call 168;first|(with_reducible refine(K1.out _).mono ?_;rintro e w1 ⟨rfl,rfl⟩)|(with_reducible refine(KZ.out _).mono ?_;rintro e w1 ⟨rfl,rfl⟩));go_roundg (hi-mid).toNat
      case measure=>omega
      case rel=>exact⟨mid,hi,rfl,rfl,om_,m2,h9,Nat.le_refl _,by rw[HBM.out];omega,HB.out,rfl⟩
    · have dc:decide (bm-730119≤n)=false:=decide_eq_false hc
      go_wp2_with (go_at_call 168;first|(with_reducible refine(K1.out _).mono ?_;rintro e w1 ⟨rfl,rfl⟩)|(with_reducible refine(KZ.out _).mono ?_;rintro e w1 ⟨rfl,rfl⟩));go_roundg (mid-1-lo).toNat
      case measure=>omega
      case rel=>exact⟨lo,mid-1,rfl,rfl,l1,om_,om_,Nat.le_refl _,HA.out,HK.out om_,rfl⟩
  · have dl:decide (lo<hi)=false:=decide_eq_false hlt
    obtain rfl:lo=hi:=by omega
    have K1:=hid (fun W=>KB.out lo W om_ om_);have KD:=hid (fun(k:Nat) (W:World) (k1:1≤k) (k2:k≤12)=>rDays_any lo k W om_ k1 k2);have HV:=hid (fun(k:Nat) (D:Int) (a:1≤k) (b:k≤12) (c:1≤D) (d:D≤CA.dm lo k) (e:CA.cum lo k+D=n+730119-CA.bef lo+1)=>(show CA.vld ⟨lo,k,D⟩∧CA.num ⟨lo,k,D⟩=n from⟨⟨l1,h9,a,b,c,d⟩,by unfold CA.num;simp only[];omega⟩));have hsu:=CA.bef_succ lo;have h13:=CA.cum13 lo;have hbd:=bef_bd (y:=lo) om_ om_;have c13:CA.cum lo 13≤366:=by rw[h13];split<;>omega
    have hL:n+730119-CA.bef lo<CA.cum lo 13:=by omega
    clear hsu h13 hB hlt hg lh KB;generalize CA.bef lo=B at*;obtain⟨L,hLL⟩: ∃L,n-(B-730119)=L:=⟨_,rfl⟩;have HLL:=hid hLL;have L0:0≤L:=by omega
    have L1:L<CA.cum lo 13:=by omega
    have L2:L≤366:=by omega
    go_wp2_with (go_at_call 168;first|(with_reducible refine(K1.out _).mono ?_;rintro e w1 ⟨rfl,rfl⟩)|(with_reducible refine(KZ.out _).mono ?_;rintro e w1 ⟨rfl,rfl⟩));clear hLL;go_loopg [6,7] 12 (fun gz s6 s7 wr=> ∃(k:Nat) (D:Int),s6=vi vk D∧s7=vi vk (k:Int)∧1≤k∧k≤12∧12-k≤gz∧0≤D∧D≤366∧CA.cum lo k+D=L∧wr=w1)
    case atStart=>exact⟨1,L,by first|rfl|(have:=HLL.out;simp;omega),rfl,om_,om_,om_,L0,L2,by show 0+L=L;omega,rfl⟩
    case round=>
     obtain⟨k,D,rfl,rfl,k1,k2,kg,d0,d1,hcd,rfl⟩:=hrel;have K:=hid (fun W=>KD.out k W k1 k2);have hdm:=CA.dm_pos lo k;by_cases hge:CA.dm lo k≤D
     · have hk:k+1≤12:=by
        rcases Nat.lt_or_ge k 12 with h|h
        · exact h
        · obtain rfl:k=12:=by omega
          have:CA.cum lo 13=CA.cum lo 12+CA.dm lo 12:=rfl;omega
       have hcs:=CA.cum_succ lo k1;have dl:decide (CA.dm lo k≤D)=true:=decide_eq_true hge;generalize CA.dm lo k=mm at*;go_wp2_with (go_at_call 169;(with_reducible refine(K.out _).mono ?_);rintro e w2 ⟨rfl,rfl⟩);go_roundg (gk-1)
       case measure=>omega
       case rel=>exact⟨k+1,D-mm,rfl,by go_num,om_,hk,om_,om_,om_,om_,rfl⟩
     · have dl:decide (CA.dm lo k≤D)=false:=decide_eq_false hge
       have hv:=hid (HV.out k (D+1) k1 k2 om_ om_ (by have:=HLL.out;omega));generalize CA.dm lo k=mm at*;have z0: ∀i,wr.cell? ⟨w.heap.size,i,none⟩=(dtv 0 0 0)[i]? :=fun i=>G0.out.cell i;have f0: ∀i,wr.frozen? ⟨w.heap.size,i,none⟩=false:=fun i=>G0.out.frozen i;unfold dtv at z0;go_wp2_with (go_at_call 169;(with_reducible refine(K.out _).mono ?_);rintro e w2 ⟨rfl,rfl⟩);refine bodyPost_ret (v:=.agg (dtv lo k (D+1))) (by simp[results,results116,go_sem,dtv, *];done) rfl ⟨⟨lo,D+1,k,hv.out.1,hv.out.2,rfl⟩,?_⟩;exact((b0.out.setCell (Nat.le_refl _) _).setCell (Nat.le_refl _) _).setCell (Nat.le_refl _) _
end
section
open Go.Shelf Frm
open Lib (decDigits)
theorem r1power_any(w:World):Calls Tryz.prog 208 #[vi vk 0] w fun e w'=>e=.returned (vi vk 1)∧w'=w:=by
 go_enter func208,ntmps208;go_wp2;go_loopg [3,4] 0 (fun _ s3 s4 wr=>s3=vi vk 1∧s4=vi vk 0∧wr=w)
 case atStart=>exact⟨rfl,rfl,rfl⟩
 case round=>
  obtain⟨rfl,rfl,rfl⟩:=hrel;go_wp2;go_ret;exact⟨rfl,rfl⟩
theorem r1digits_any(n k:Nat)(w:World)(h:n<100000000)(hk:k≤8):
 Calls Tryz.prog 207 #[vi vk (n:Int),vi vk (k:Int)] w fun e w'=>e=.returned (tx (dgs n k))∧Below w.heap.size w w':=by
 have hlen:=dgs_len_le n k om_ hk;go_enter func207,ntmps207;go_wp2;go_loopg [0,1,5] (n+k) (fun gz s0 s1 s5 wr=> ∃(m j:Nat) (q:Int) (acc:Bs),s0=vi vk (m:Int)∧s1=vi vk q∧s5=tx acc∧q.toNat=j∧dgs m j++acc=dgs n k∧m+j≤gz∧m≤n∧ -(n:Int)≤q-m∧q≤8∧Below w.heap.size w wr)
 case atStart=>exact⟨n,k,k,[],rfl,rfl,rfl,by simp,by simp,Nat.le_refl _,Nat.le_refl _,om_,om_,Below.refl _ _⟩
 case round=>
  obtain⟨m,j,q,acc,rfl,rfl,rfl,hqj,hacc,hg,hmn,hq,hq8,hbr⟩:=hrel;have BR:=hid hbr;have HA:=hid hacc;have HL:acc.length≤16:=by rw[←hacc,List.length_append] at hlen;omega
  clear hbr hacc;by_cases hgo:0<m∨0<j
  · have hstep:=dgs_step (n:=m) (k:=j) hgo
    obtain⟨r,hr⟩: ∃r,m%10=r:=⟨_,rfl⟩;obtain⟨v,hv⟩: ∃v,m/10=v:=⟨_,rfl⟩;rw[hr,hv] at hstep;have hr0:((m:Int)).tmod 10=(r:Int):=by rw[Int.tmod_eq_emod_of_nonneg om_];omega
    have hr1:((m:Int)).tdiv 10=(v:Int):=by rw[Int.tdiv_eq_ediv_of_nonneg om_];omega
    have r10:r<10:=by omega
    have v10:10*v≤m∧m<10*v+10:=by omega
    have hd:=dB_nat (n:=r) r10;have hcb:=one_bytes wr (dB r) (48+(r:Int)) hd;have hba:=(bl_alloc wr (.cells #[.int .u8 (48+(r:Int))] 5));have B2:=hid (BR.out.trans (hba.mono BR.out.size));have hadd:=tx_add [dB r] acc (by simp) om_;have w1:wrap64 (q-1)=q-1:=IntWalk.wrap64_in _ om_;have HS:=hid hstep;clear hba hstep hd hr hv;rcases Nat.lt_or_ge 0 m with hm|hm
    · have d0:decide ((0:Int)<(m:Int))=true:=decide_eq_true om_
      clear hgo;go_wp2;go_roundg (v+(j-1))
      case measure=>omega
      case rel=>exact⟨v,j-1,q-1,[dB r]++acc,rfl,rfl,rfl,om_,by rw[←HA.out,HS.out];simp,Nat.le_refl _,om_,om_,om_,B2.out⟩
    · have d0:decide ((0:Int)<(m:Int))=false:=decide_eq_false om_
      have d1:decide ((0:Int)<q)=true:=decide_eq_true om_;have hj:0<j:=by omega
      clear hgo;go_wp2;go_roundg (v+(j-1))
      case measure=>omega
      case rel=>exact⟨v,j-1,q-1,[dB r]++acc,rfl,rfl,rfl,om_,by rw[←HA.out,HS.out];simp,Nat.le_refl _,om_,om_,om_,B2.out⟩
  · have d0:decide ((0:Int)<(m:Int))=false:=decide_eq_false om_
    have d1:decide ((0:Int)<q)=false:=decide_eq_false om_;have hz:acc=dgs n k:=by
     have:=HA.out;rw[show m=0 by omega,show j=0 by omega] at this;simpa [dgs_zero] using this
    obtain rfl:m=0:=by omega
    subst hz;clear HA hgo;go_wp2;go_ret;exact⟨rfl,BR.out⟩
theorem tx_nil(x:Bs)(hx:x.length≤1000000): ∀W,(Op.stringOp .add (ByteArray.mk #[]) ⟨x.toArray⟩).run Tryz.prog W=.ok (tx x) W:=fun W=>tx_add [] x (by simp) hx W
theorem r1format_any(n:Nat)(w:World)(h:n<100000000):
 Calls Tryz.prog 170 #[vi vk (n:Int),vi vk 0] w fun e w'=>e=.returned (tx (decDigits n))∧Below w.heap.size w w':=by
 have KP:=hid r1power_any;have KD:=hid (fun W=>r1digits_any n 1 W h om_);have hl:=dgs_len_le n 1 om_ om_;rw[dgs_one] at KD hl;rw[show((1:Nat):Int)=1 from rfl] at KD;generalize decDigits n=D at*;have ha:=tx_nil D om_;have d0:decide ((n:Int)<0)=false:=decide_eq_false om_;have q1:((n:Int)).tdiv 1=(n:Int):=Int.tdiv_one _;have q2:((n:Int))/1=(n:Int):=Int.ediv_one _;go_enter func170,ntmps170;go_wp2_with (first|(go_at_call 208;(with_reducible refine(KP.out _).mono ?_);rintro e w1 ⟨rfl,rfl⟩)|(go_at_call 207;(with_reducible refine(KD.out _).mono ?_);rintro e w2 ⟨rfl,hb⟩));go_ret;exact⟨rfl,hb⟩
theorem rpad_any(n k:Nat)(w:World)(h:n<100000000)(hk:0<k)(hk1:k≤8):
 Calls Tryz.prog 117 #[vi vk (n:Int),vi vk (k:Int)] w fun e w'=>e=.returned (tx (dgs n k))∧Below w.heap.size w w':=by
 have KF:=hid (fun W=>r1format_any n W h);have hl:=dd_len 7 n (by simpa using h);have hd:=hid (dgs_pad (n:=n) hk);generalize decDigits n=D at*;obtain⟨d,hd0⟩: ∃d,D.length=d:=⟨_,rfl⟩;rw[hd0] at hd hl;have HD:=hid hd0;clear hd0;go_enter func117,ntmps117;go_wp2_with (go_at_call 170;(with_reducible refine(KF.out _).mono ?_);rintro e w1 ⟨rfl,hb⟩);have HB:=hid hb;clear hb;go_loopg [5] k (fun gz s5 wr=> ∃j:Nat,s5=tx (List.replicate j 48++D)∧(j=0∨j+d≤k)∧k-(j+d)≤gz∧wr=w1)
 case atStart=>exact⟨0,by simp,.inl rfl,om_,rfl⟩
 case round=>
  obtain⟨j,rfl,hj,hg,rfl⟩:=hrel;obtain⟨X,hX⟩: ∃X,List.replicate j (48:UInt8)++D=X:=⟨_,rfl⟩;have hXl:X.length=j+d:=by rw[←hX,List.length_append,List.length_replicate,HD.out]
  have hz:=tx_size X;rw[hXl] at hz;rw[hX];have HX:=hid hX;have HL:=hid hXl;clear hX hXl;by_cases hlt:j+d<k
  · have dl:decide (((j+d:Nat):Int)<(k:Int))=true:=decide_eq_true om_
    have dl2:decide (((j:Int)+(d:Int))<(k:Int))=true:=decide_eq_true om_;have dl3:decide (j+d<k)=true:=decide_eq_true om_;have hadd:=tx_add [48] X (by simp) (by have:=HL.out;omega);go_wp2;go_roundg (k-(j+1+d))
    case measure=>omega
    case rel=>exact⟨j+1,by rw[←HX.out,List.replicate_succ];rfl,.inr om_,Nat.le_refl _,rfl⟩
  · have dl:decide (((j+d:Nat):Int)<(k:Int))=false:=decide_eq_false om_
    have dl2:decide (((j:Int)+(d:Int))<(k:Int))=false:=decide_eq_false om_;have dl3:decide (j+d<k)=false:=decide_eq_false om_;have hR:X=dgs n k:=by
     rw[hd.out,←HX.out,show k-d=j by omega]
    have HR:=hid hR;clear hR;go_wp2;go_ret;exact⟨by show Ending.returned (tx X)=_;rw[HR.out],HB.out⟩
theorem rdtext_any(x:CA.Date)(w:World)(hv:CA.vld x):
 Calls Tryz.prog 77 #[.agg (dav x)] w fun e w'=>e=.returned (tx (dateT x))∧Below w.heap.size w w':=by
 obtain⟨h1,h2,h3,h4,h5,h6⟩:=hv;have hdm:=dm_le x.y x.m;have K1:=hid (fun W=>rpad_any x.y.toNat 4 W om_ om_ om_);have K2:=hid (fun W=>rpad_any x.m 2 W om_ om_ om_);have K3:=hid (fun W=>rpad_any x.d.toNat 2 W om_ om_ om_);rw[show((x.y.toNat:Nat):Int)=x.y by omega,show((4:Nat):Int)=4 from rfl] at K1;rw[show((2:Nat):Int)=2 from rfl] at K2;rw[show((x.d.toNat:Nat):Int)=x.d by omega,show((2:Nat):Int)=2 from rfl] at K3;have a1:=dgs_len 4 x.y.toNat om_;have a2:=dgs_len 2 x.m om_;have a3:=dgs_len 2 x.d.toNat om_;have hT:dateT x=((((dgs x.y.toNat 4++[45])++dgs x.m 2)++[45])++dgs x.d.toNat 2):=by unfold dateT;simp
 rw[hT];clear hT h1 h2 h3 h4 h5 h6 hdm;generalize dgs x.y.toNat 4=A at*;generalize dgs x.m 2=B at*;generalize dgs x.d.toNat 2=C at*;have s1:=tx_add A [45] om_ (by simp);obtain⟨P1,hP1⟩: ∃P,A++[45]=P:=⟨_,rfl⟩;have l1:P1.length=5:=by rw[←hP1,List.length_append,a1];rfl
 rw[hP1] at s1⊢;have s2:=tx_add P1 B om_ om_;obtain⟨P2,hP2⟩: ∃P,P1++B=P:=⟨_,rfl⟩;have l2:P2.length=7:=by rw[←hP2,List.length_append,l1,a2]
 rw[hP2] at s2⊢;have s3:=tx_add P2 [45] om_ (by simp);obtain⟨P3,hP3⟩: ∃P,P2++[45]=P:=⟨_,rfl⟩;have l3:P3.length=8:=by rw[←hP3,List.length_append,l2];rfl
 rw[hP3] at s3⊢;have s4:=tx_add P3 C om_ om_;generalize P3++C=P4 at*;clear hP1 hP2 hP3 l1 l2 l3 a1 a2 a3;obtain⟨y,m,d⟩:=x;simp only[] at K1 K2 K3;have b0:=hid (bl_alloc w (.cells (dtv y m d) 100));have G0:=hid (Blk.new w 100 (dtv y m d));show Calls Tryz.prog 77 #[.agg (dtv y m d)] w _
 go_enter func77,ntmps77;go_upto_region 1 with fail
 generalize w.alloc (.cells (dtv y m d) 100)=w0 at*;have y0: ∀s:BQ w0,s.w.cell? ⟨w.heap.size,0,none⟩=some (vi vk y):=fun s=>(G0.out.below s.hb G0.out.lt).cell 0;have y1: ∀s:BQ w0,s.w.cell? ⟨w.heap.size,1,none⟩=some (vi vk m):=fun s=>(G0.out.below s.hb G0.out.lt).cell 1;have y2: ∀s:BQ w0,s.w.cell? ⟨w.heap.size,2,none⟩=some (vi vk d):=fun s=>(G0.out.below s.hb G0.out.lt).cell 2;refine wp_region_bq w0 (by kernel_rfl) (by kernel_rfl) (Below.refl _ _) ?_;repeat (go_big_quiet_step (first|(go_at_call 117;first|with_reducible exact quiet_bq (K1.out _)|with_reducible exact quiet_bq (K2.out _)|with_reducible exact quiet_bq (K3.out _))|fail))
 refine wpQuiet_nil ?_;intro w9 hb9;go_wp2;go_ret;exact⟨rfl,b0.out.trans (hb9.mono b0.out.size)⟩
theorem rnum9_any(s:Bs)(w:World)(hl:s.length≤8):
 Calls Tryz.prog 130 #[tx s] w fun e w'=>e=.returned (vi vk (rI s))∧w'=w:=by
 have hz:=tx_size s;obtain⟨n,hn⟩: ∃n,s.length=n:=⟨_,rfl⟩;have HN:=hid hn;rw[hn] at hz hl;have hy:s.all isD=true→rI s=(numU s:Int):=fun h=>if_pos h;have hno: ∀k c,s[k]? =some c→isD c=false→rI s= -1:=fun k c hc hb=>if_neg fun h=>by
  have:=List.all_eq_true.1 h c (List.mem_of_getElem? hc);rw[hb] at this;cases this
 have HY:=hid hy;have HO:=hid hno;clear hn hy hno;generalize rI s=R at*;go_enter func130,ntmps130;go_wp2;go_loopg [3,4] n (fun gz s3 s4 wr=> ∃(k v:Nat),k≤n∧n-k≤gz∧s3=vi vk (v:Int)∧s4=vi vk (k:Int)∧v=numU (s.take k)∧(∀j c,j<k→s[j]? =some c→isD c=true)∧wr=w)
 case atStart=>exact⟨0,0,Nat.zero_le _,om_,rfl,rfl,by simp[numU],fun j c h=>by omega,rfl⟩
 case round=>
  obtain⟨k,v,hk,hg,rfl,rfl,hv,hall,rfl⟩:=hrel;have HV:=hid hv;have HA:=hid hall;have hvb:v<100000000:=by
   rw[hv];refine Nat.lt_of_lt_of_le (numU_lt s k (by rw[HN.out];exact hk) hall) ?_;exact Nat.le_trans (Nat.pow_le_pow_right om_ (show k≤8 by omega)) dc_
  clear hall hv;by_cases hlt:k<n
  · have dl:decide (k<n)=true:=decide_eq_true hlt
    obtain⟨c,hc⟩: ∃c,s[k]? =some c:=⟨_,List.getElem?_eq_getElem (by rw[HN.out];exact hlt)⟩;have g0:=getBL hc;have HC:=hid hc;have hc3:c.toNat<256:=c.toNat_lt;clear hc;by_cases h0:c.toNat<48
    · have d0:decide (c.toNat<48)=true:=decide_eq_true h0
      have hR:=HO.out k c HC.out (by unfold isD;simp;omega);subst hR;clear HY HO;go_wp2;go_ret;exact⟨rfl,rfl⟩
    · have d0:decide (c.toNat<48)=false:=decide_eq_false h0
      by_cases h1:57<c.toNat
      · have d1:decide (57<c.toNat)=true:=decide_eq_true h1
        have hR:=HO.out k c HC.out (by unfold isD;simp;omega);subst hR;clear HY HO;go_wp2;go_ret;exact⟨rfl,rfl⟩
      · have d1:decide (57<c.toNat)=false:=decide_eq_false h1
        obtain⟨x,hx⟩: ∃x,c.toNat-48=x:=⟨_,rfl⟩;have hxi:(c.toNat:Int)-48=(x:Int):=by omega
        have hw8:IntKind.u8.wrap ((c.toNat:Int)-48)=(x:Int):=by rw[hxi];exact IntWalk.u8_in _ om_
        have x9:x≤9:=by omega
        have HX:=hid hx;have hw:wrap64 (10*(v:Int)+(x:Int))=((10*v+x:Nat):Int):=by rw[IntWalk.wrap64_in _ om_];omega
        clear hx hxi;go_wp2;go_roundg (n-(k+1))
        case measure=>omega
        case rel=>
         refine⟨k+1,10*v+x,om_,om_,by go_num,by go_num,by rw[numU_take HC.out,←HV.out,HX.out],fun j d hj hd=>?_,rfl⟩;rcases Nat.lt_or_ge j k with h|h
         · exact HA.out j d h hd
         · obtain rfl:j=k:=by omega
           obtain rfl:c=d:=Option.some.inj (HC.out.symm.trans hd);unfold isD;simp;omega
  · have dl:decide (k<n)=false:=decide_eq_false hlt
    obtain rfl:k=n:=by omega
    have hall:s.all isD=true:=List.all_eq_true.2 fun c hc=>by
     obtain⟨j,hj⟩:=List.mem_iff_getElem?.1 hc;exact HA.out j c (by have:=(List.getElem?_eq_some_iff.1 hj).1;rw[HN.out] at this;exact this) hj
    have hR:=HY.out hall;have hv2:v=numU s:=by rw[HV.out,←HN.out,List.take_length]
    have hR2:R=(v:Int):=by rw[hR,hv2]
    subst hR2;clear HY HO hR hv2 hall;go_wp2;go_ret;exact⟨rfl,rfl⟩
end
section
open Go.Shelf Frm
theorem which_any(l:List Bs)(A:Option Addr)(n c:Nat)(x:Bs)(w:World)(hA:WordsAt w w.heap.size A l)(hn:l.length=n)(hn1:n≤1000):
 Calls Tryz.prog 46 #[.slice A n c,tx x] w fun e w'=>((∃i:Nat,l[i]? =some x∧(∀j,j<i→ ¬l[j]? =some x)∧e=.returned (vi vk ((i+1:Nat):Int)))∨((∀j:Nat,¬l[j]? =some x)∧e=.returned (vi vk 0)))∧w'=w:=by
 have hcell: ∀k y,l[k]? =some y→ ∃b off,A=some ⟨b,off,none⟩∧w.cell? ⟨b,off+k,none⟩=some (tx y):=fun k y hy=>by
  rcases hA with rfl|⟨b,off,e,_,h⟩
  · simp at hy
  · exact⟨b,off,e,h k y hy⟩
 have HC:=hid hcell;have HN:=hid hn;clear hcell hA hn;go_enter func46,ntmps46;go_wp2;go_loopg [5] n (fun gz s5 wr=> ∃k:Nat,k≤n∧n-k≤gz∧s5=vi vk (k:Int)∧(∀j,j<k→ ¬l[j]? =some x)∧wr=w)
 case atStart=>exact⟨0,Nat.zero_le _,om_,rfl,fun j h=>by omega,rfl⟩
 case round=>
  obtain⟨k,hk,hg,rfl,hall,rfl⟩:=hrel;have HA:=hid hall;clear hall;by_cases hlt:k<n
  · have dl:decide (k<n)=true:=decide_eq_true hlt
    obtain⟨y,hy⟩: ∃y,l[k]? =some y:=⟨_,List.getElem?_eq_getElem (by rw[HN.out];exact hlt)⟩;obtain⟨b,off,rfl,hc⟩:=HC.out k y hy;have HY:=hid hy;clear hy;have w1:wrap64 ((k:Int)+1)=((k+1:Nat):Int):=by rw[IntWalk.wrap64_in _ om_];omega
    by_cases hxy:y=x
    · subst hxy
      go_wp2;go_ret;exact⟨.inl ⟨k,HY.out,HA.out,rfl⟩,rfl⟩
    · have q:=bs_ne hxy
      have q1:=q.1;have q2:=q.2.1;have HX:=hid hxy;clear q hxy;go_wp2;go_roundg (n-(k+1))
      case measure=>omega
      case rel=>
       refine⟨k+1,om_,om_,by go_num,fun j hj h=>?_,rfl⟩;rcases Nat.lt_or_ge j k with hjk|hjk
       · exact HA.out j hjk h
       · obtain rfl:j=k:=by omega
         exact HX.out (Option.some.inj (HY.out.symm.trans h))
  · have dl:decide (k<n)=false:=decide_eq_false hlt
    obtain rfl:k=n:=by omega
    go_wp2;go_ret;refine⟨.inr ⟨fun j h=>?_,rfl⟩,rfl⟩;have:=(List.getElem?_eq_some_iff.1 h).1;rw[HN.out] at this;exact HA.out j this h
end
section
open Go.Shelf Frm
abbrev w3(l:List Bs):Array Value:=(l.map tx).toArray
theorem rLimbs_any(w:World):Calls Tryz.prog 32 #[] w fun e w'=>e=.returned (.slice (some ⟨w.heap.size,0,none⟩) 3 3)∧w'=w.alloc (.cells #[tx [99,101,110,116,101,114],tx [108,111,119,101,114],tx [117,112,112,101,114]] 9):=by
 go_enter func32,ntmps32;go_wp2;go_ret;exact⟨rfl,rfl⟩
theorem rHorizons_any(w:World):Calls Tryz.prog 34 #[] w fun e w'=>e=.returned (.slice (some ⟨w.heap.size,0,none⟩) 3 3)∧w'=w.alloc (.cells #[tx [110,97,116,117,114,97,108],tx [97,114,116,105,102,105,99,105,97,108],tx [115,104,111,114,101]] 9):=by
 go_enter func34,ntmps34;go_wp2;go_ret;exact⟨rfl,rfl⟩
theorem which3_any(a b c x:Bs)(A:Option Addr)(w:World)(hA:WordsAt w w.heap.size A [a,b,c])(n1: ¬a=b)(n2: ¬a=c)(n3: ¬b=c):
 Calls Tryz.prog 46 #[.slice A 3 3,tx x] w fun e w'=>(∃(k:Int) (ok:Bool),e=.returned (vi vk k)∧(k==0)= !ok∧(ok=true→1≤k∧k≤3∧x=wordAt [a,b,c] k)∧(ok=false→ ¬ ∃k:Int,1≤k∧k≤3∧x=wordAt [a,b,c] k))∧w'=w:=
 (which_any [a,b,c] A 3 3 x w hA rfl om_).mono fun e w' ⟨h,hw⟩=>by
   refine⟨?_,hw⟩;rcases h with ⟨i,hi,_,he⟩|⟨hno,he⟩
   · have h3:i<3:=(List.getElem?_eq_some_iff.1 hi).1
     refine⟨((i+1:Nat):Int),true,he,by simp;omega,fun _=>⟨om_,om_,?_⟩,fun h=>by cases h⟩;match i,h3,hi with
     |0,_,hi=>simpa [wordAt] using hi.symm
     |1,_,hi=>simpa [wordAt] using hi.symm
     |2,_,hi=>simpa [wordAt] using hi.symm
   · refine⟨0,false,he,rfl,fun h=>absurd h dc_,fun _ ⟨k,h1,h2,h3⟩=>?_⟩
     have hk:k=1∨k=2∨k=3:=by omega
     rcases hk with rfl|rfl|rfl
     · exact hno 0 (by rw[h3];rfl)
     · exact hno 1 (by rw[h3];rfl)
     · exact hno 2 (by rw[h3];rfl)
end
section
open Go.Shelf Frm
theorem drop_at{s:Bs}{f i:Nat}{x:UInt8}(h:s[i]? =some x)(hf:f≤i):s.drop f=(s.drop f).take (i-f)++x::s.drop (i+1):=by
 have e:(s.drop f).drop (i-f)=x::s.drop (i+1):=by rw[List.drop_drop,show f+(i-f)=i by omega];exact drop_step s h
 rw[←e];exact(List.take_append_drop _ _).symm
theorem seg_no{s:Bs}{f i:Nat}{x:UInt8}(h: ∀j,f≤j→j<i→ ¬s[j]? =some x):x∉(s.drop f).take (i-f):=by
 intro hm;obtain⟨k,hk⟩:=List.mem_iff_getElem?.1 hm;rw[List.getElem?_take] at hk;split at hk
 · rename_i hl
   rw[List.getElem?_drop] at hk;exact h (f+k) om_ om_ hk
 · cases hk
def WdI(s:Bs)(L:List Bs)(f i:Nat):Prop:=(f≤i∧i≤s.length∧SW.wrd 32 s=L++SW.wrd 32 (s.drop f)∧ ∀j,f≤j→j<i→ ¬s[j]? =some (32:UInt8))∨(i=s.length+1∧f=s.length+1∧SW.wrd 32 s=L)
theorem WdI.skip{s:Bs}{L:List Bs}{f i:Nat}{c:UInt8}(h:WdI s L f i)(hi:s[i]? =some c)(hc: ¬c=32):WdI s L f (i+1):=by
 have hl:=(List.getElem?_eq_some_iff.1 hi).1;rcases h with ⟨h1,h2,h3,h4⟩|⟨h1,_⟩
 · refine .inl ⟨om_,om_,h3,fun j a b e=>?_⟩
   rcases Nat.lt_or_ge j i with hj|hj
   · exact h4 j a hj e
   · obtain rfl:j=i:=by omega
     rw[hi] at e;injection e with e
     exact hc e
 · omega
theorem WdI.hit{s:Bs}{L:List Bs}{f i:Nat}(h:WdI s L f i)(hi:s[i]? =some 32):f≤i∧WdI s (L++[(s.drop f).take (i-f)]) (i+1) (i+1):=by
 have hl:=(List.getElem?_eq_some_iff.1 hi).1;rcases h with ⟨h1,h2,h3,h4⟩|⟨h1,_⟩
 · refine⟨h1,.inl ⟨Nat.le_refl _,om_,?_,fun j a b=>by omega⟩⟩
   rw[h3,drop_at hi h1,SW.wrd_app 32 _ _ (seg_no h4),←drop_at hi h1];simp
 · omega
theorem WdI.last{s:Bs}{L:List Bs}{f:Nat}(h:WdI s L f s.length):f≤s.length∧WdI s (L++[(s.drop f).take (s.length-f)]) (s.length+1) (s.length+1):=by
 rcases h with ⟨h1,h2,h3,h4⟩|⟨h1,_⟩
 · refine⟨h1,.inr ⟨rfl,rfl,?_⟩⟩
   have e:(s.drop f).take (s.length-f)=s.drop f:=List.take_of_length_le (by rw[List.length_drop];exact Nat.le_refl _);have n:=seg_no h4;rw[e] at n⊢;rw[h3,SW.wrd_one 32 _ n]
 · omega
theorem ext_txx(s:Bs)(i j:Nat):(⟨s.toArray⟩:ByteArray).extract i j=⟨((s.drop i).take (j-i)).toArray⟩:=by
 apply ByteArray.ext;rw[ByteArray.data_extract];simp
theorem slice_tx(s:Bs)(f i:Nat)(h1:f≤i)(h2:i≤s.length)(W:World):(Instr.slice 9 (tx s) (some (vi vk (f:Int))) (some (vi vk (i:Int))) none).run Tryz.prog W=.ok (tx ((s.drop f).take (i-f))) W:=by
 have hz:=tx_size s;have h:=run_slice_string (P:=Tryz.prog) W 9 ⟨s.toArray⟩ .i64 .i64 (f:Int) (i:Int) underlying9 om_ om_ (by rw[hz];omega);rw[Int.toNat_natCast,Int.toNat_natCast,ext_txx] at h;exact h
theorem slice_hd(s:Bs)(i:Nat)(h2:i≤s.length)(W:World):(Instr.slice 9 (tx s) none (some (vi vk (i:Int))) none).run Tryz.prog W=.ok (tx (s.take i)) W:=by
 have hz:=tx_size s;have h:=run_slice_string_h (P:=Tryz.prog) W 9 ⟨s.toArray⟩ underlying9 .i64 (i:Int) om_ (by rw[hz];omega);rw[Int.toNat_natCast,ext_txx] at h;exact h
theorem slice_tl(s:Bs)(f:Nat)(h2:f≤s.length)(W:World):(Instr.slice 9 (tx s) (some (vi vk (f:Int))) none none).run Tryz.prog W=.ok (tx (s.drop f)) W:=by
 have hz:=tx_size s;have h:=run_slice_string_l (P:=Tryz.prog) W 9 ⟨s.toArray⟩ underlying9 .i64 (f:Int) om_ (by rw[hz];omega);rw[Int.toNat_natCast,ext_txx,hz,List.take_of_length_le (by rw[List.length_drop];exact Nat.le_refl _)] at h;exact h
theorem own_words{w:World}{base:Nat}{v:Value}{L:List Bs}(h:w.ownsRow base 9 1 v L.length (txs L)): ∃A c,v=.slice A L.length c∧WordsAt w w.heap.size A L∧L.length≤c∧c≤maxLen:=by
 obtain⟨A,c,e,hr,h1,h2⟩:=own_form h;refine⟨A,c,e,?_,h1,h2⟩;cases L with
 |nil=>exact .inl rfl
 |cons a L=>
  obtain⟨ad,e2,h3,h4⟩:=hr.2 (by simp);rcases h.2 with ⟨e3,h5⟩|⟨g,cap,cur,e3,hg,h6,h7⟩
  · simp at h5
  · rw[e3] at e
    injection e with e4 _ _
    subst e4;refine .inr ⟨g,0,rfl,?_,fun j x hx=>?_⟩
    · rcases Nat.lt_or_ge g w.heap.size with q|q
      · exact q
      · rw[Array.getElem?_eq_none q] at h6;cases h6
    · injection e2 with e2
      have:=h4 j (tx x) (by unfold txs;rw[List.getElem?_map,hx];rfl);rw[←e2] at this;have e8:(⟨g,0,none⟩:Addr).add j=⟨g,0+j,none⟩:=by unfold Addr.add;split<;>simp_all
      rwa [e8] at this
theorem rwords_any(s:Bs)(w:World)(hl:s.length≤1000):
 Calls Tryz.prog 43 #[tx s] w fun e w'=>(∃A c,e=.returned (.slice A (SW.wrd 32 s).length c)∧WordsAt w' w'.heap.size A (SW.wrd 32 s)∧(SW.wrd 32 s).length≤c∧c≤maxLen)∧Below w.heap.size w w':=by
 have hz:=tx_size s;have h0:WdI s [] 0 0:=.inl ⟨Nat.le_refl _,Nat.zero_le _,rfl,fun j a b=>by omega⟩;have H0:=hid h0;have hskip:=fun(L:List Bs) (f i:Nat) (c:UInt8) (h:WdI s L f i) (hi:s[i]? =some c) (hc: ¬c=32)=>h.skip hi hc;have hhit:=fun(L:List Bs) (f i:Nat) (h:WdI s L f i) (hi:s[i]? =some (32:UInt8))=>h.hit hi;have HS:=hid hskip;have HH:=hid hhit;have hend: ∀L f,WdI s L f (s.length+1)→SW.wrd 32 s=L:=fun L f h=>by
  rcases h with ⟨_,h2,_⟩|⟨_,_,h3⟩
  · omega
  · exact h3
 have hlast:=fun(L:List Bs) (f:Nat) (h:WdI s L f s.length)=>h.last;have hsl:=fun(f i:Nat) (a:f≤i) (b:i≤s.length)=>slice_tx s f i a b;obtain⟨n,hn⟩: ∃n,s.length=n:=⟨_,rfl⟩;have HN:=hid hn;rw[hn] at hz hl hend hlast hsl;have HE:=hid hend;have HL:=hid hlast;have SL:=hid hsl;clear hn h0 hskip hhit hend hlast hsl;generalize hWI:(fun(L:List Bs) (f i:Nat)=>WdI s L f i)=WI;have hwi: ∀L f i,WdI s L f i=WI L f i:=fun L f i=>by rw[←hWI]
 simp only[hwi] at H0 HS HH HE HL;clear hWI hwi;obtain⟨i0,hi0,hz0,hz1,hzb⟩:=info_parts infoS;go_enter func43,ntmps43;go_wp2;go_loopg [3,4,5] (n+1) (fun gz s3 s4 s5 wr=> ∃(L:List Bs) (f i:Nat),s4=vi vk (f:Int)∧s5=vi vk (i:Int)∧i≤n+1∧n+1-i≤gz∧WI L f i∧L.length≤i∧wr.ownsRow w.heap.size 9 1 s3 L.length (txs L)∧Below w.heap.size w wr)
 case atStart=>exact⟨[],0,0,rfl,rfl,om_,om_,H0.out,Nat.le_refl _,⟨rfl,.inl ⟨rfl,rfl⟩⟩,Below.refl _ _⟩
 case round=>
  obtain⟨L,f,i,rfl,rfl,hi,hg,hw,hLi,hO,hB⟩:=hrel;have HW:=hid hw;have OO:=hid hO;have BB:=hid hB;clear hw hO hB H0;by_cases hle:i≤n
  · have dl:decide (i≤n)=true:=decide_eq_true hle
    by_cases hin:i=n
    · subst hin
      obtain⟨hfi,hnx⟩:=HL.out L f HW.out;have hs:=SL.out f i hfi (Nat.le_refl _);obtain⟨z,hzz⟩: ∃z,(s.drop f).take (i-f)=z:=⟨_,rfl⟩;rw[hzz] at hnx hs;have NX:=hid hnx;have HZ:=hid hzz;have q:((i:Int)==(i:Int))=true:=by simp
      have O2:=hid (own_bel OO.out (bl_alloc wr (.cells #[tx z] 9)));have B2:=hid (BB.out.trans ((bl_alloc wr (.cells #[tx z] 9)).mono BB.out.size));have R2:=hid (reads_tx wr z 9);clear hnx hzz hfi OO BB;go_wp2_with (at_builtin;(refine wpList_append_any _ rfl (.tmp 22) (.tmp 27) _ rfl w.heap.size 9 i0 _ 1 16 underlying61 hi0 hz0 hz1 hzb rfl dc_ _ L.length _ rfl O2.out (wr.alloc (.cells #[tx z] 9)).heap.size _ 1 1 (txs [z]) rfl R2.out (txs_one _) (by simp only[maxLen];omega) om_ (by have:=B2.out.size;omega) ?_);intro v2 w2 hO hg2 hat);go_roundg 0
      case measure=>omega
      case rel=>
       refine⟨L++[z],i+1,i+1,by go_num,by go_num,om_,om_,NX.out,by simp;omega,?_,B2.out.grown hg2 B2.out.size (fun q hq=>own_base O2.out q hq)⟩;rw[List.length_append,List.length_singleton,txs_app];exact hO
    · have q:((i:Int)==(n:Int))=false:=by simp;omega
      have hlt:i<n:=by omega
      obtain⟨c,hc⟩: ∃c,s[i]? =some c:=⟨_,List.getElem?_eq_getElem (by rw[HN.out];omega)⟩;have g0:=getBL hc;have HC:=hid hc;clear hc;by_cases h32:c=32
      · subst h32
        obtain⟨hfi,hnx⟩:=HH.out L f i HW.out HC.out;have hs:=SL.out f i hfi hle;obtain⟨z,hzz⟩: ∃z,(s.drop f).take (i-f)=z:=⟨_,rfl⟩;rw[hzz] at hnx hs;have NX:=hid hnx;have HZ:=hid hzz;have O2:=hid (own_bel OO.out (bl_alloc wr (.cells #[tx z] 9)));have B2:=hid (BB.out.trans ((bl_alloc wr (.cells #[tx z] 9)).mono BB.out.size));have R2:=hid (reads_tx wr z 9);clear hnx hzz hfi OO BB hin;go_wp2_with (at_builtin;(refine wpList_append_any _ rfl (.tmp 22) (.tmp 27) _ rfl w.heap.size 9 i0 _ 1 16 underlying61 hi0 hz0 hz1 hzb rfl dc_ _ L.length _ rfl O2.out (wr.alloc (.cells #[tx z] 9)).heap.size _ 1 1 (txs [z]) rfl R2.out (txs_one _) (by simp only[maxLen];omega) om_ (by have:=B2.out.size;omega) ?_);intro v2 w2 hO hg2 hat);go_roundg (n+1-(i+1))
        case measure=>omega
        case rel=>
         refine⟨L++[z],i+1,i+1,by go_num,by go_num,om_,Nat.le_refl _,NX.out,by simp;omega,?_,B2.out.grown hg2 B2.out.size (fun q hq=>own_base O2.out q hq)⟩;rw[List.length_append,List.length_singleton,txs_app];exact hO
      · have hq:((c.toNat:Int)==32)=false:=by
         simp;intro e;exact h32 (UInt8.toNat_inj.1 (by simpa using(by exact_mod_cast e:c.toNat=32)))
        have hnx:=HS.out L f i c HW.out HC.out h32;have NX:=hid hnx;clear hnx h32 hin;go_wp2;go_roundg (n+1-(i+1))
        case measure=>omega
        case rel=>exact⟨L,f,i+1,rfl,by go_num,om_,Nat.le_refl _,NX.out,om_,OO.out,BB.out⟩
  · have dl:decide (i≤n)=false:=decide_eq_false hle
    obtain rfl:i=n+1:=by omega
    have dl2:decide (((n:Int)+1)≤(n:Int))=false:=decide_eq_false om_;have e:=HE.out L f HW.out;obtain⟨A,c,rfl,hA,h1,h2⟩:=own_words OO.out;have HA:=hid hA;have HEe:=hid e;clear e hA;go_wp2;go_ret;refine⟨⟨A,c,?_,?_⟩,BB.out⟩
    · rw[HEe.out]
      rfl
    · rw[HEe.out]
      exact⟨HA.out,h1,h2⟩
end
end Go.Proofs.YtbpnacacnncopaaGreatDoor
