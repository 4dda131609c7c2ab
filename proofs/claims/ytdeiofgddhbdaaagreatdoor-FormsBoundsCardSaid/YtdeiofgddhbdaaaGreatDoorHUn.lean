/- The walk of fixed.Quotient where the dividend is the unit. -/
import Derived.Laws.StructEq
import Derived.Test.YtdeiofgddhbdaaaGreatDoorHUh
set_option linter.unusedSimpArgs false
set_option linter.unusedVariables false
set_option maxHeartbeats 4000000
set_option maxRecDepth 100000
open Go.RowKit
open Go.Lib (hid)
open Go.Proofs.Tryz
open Go.Value renaming int→vi
open Go.IntKind renaming i64→vk
namespace Go.Proofs.YtdeiofgddhbdaaaGreatDoor
theorem mask31(n:Int):bits .and .i64 n 2147483647=n%2147483648:=by
 have h31:(BitVec.ofInt 64 2147483647).toNat=2^31-1:=by decide
 have key:(BitVec.ofInt 64 n &&& BitVec.ofInt 64 2147483647).toNat=(n%((2^64:Nat):Int)).toNat%2^31:=by
  rw[BitVec.toNat_and,BitVec.toNat_ofInt,h31,Nat.and_two_pow_sub_one_eq_mod]
 show IntKind.i64.wrap ((BitVec.ofInt 64 n &&& BitVec.ofInt 64 2147483647).toNat:Nat)=n%2147483648
 rw[key,IntKind.wrap_i64];omega
theorem high_val{a b:Nat}(ha:a≤4611686018427387904)(hb:b≤4611686018427387904):
 wrap64 (wrap64 (wrap64 ((a:Int)/2147483648*((b:Int)/2147483648))+wrap64 ((a:Int)/2147483648*((b:Int)%2147483648))/2147483648)+wrap64 ((a:Int)%2147483648*((b:Int)/2147483648))/2147483648)=((Trig.hiN a b:Nat):Int):=by
 have h:=(Trig.hiN_bd a b).1;have h2:a*b≤4611686018427387904*4611686018427387904:=Nat.mul_le_mul ha hb;unfold Trig.hiN at*;have e1:(a:Int)/2147483648=((a/2147483648:Nat):Int):=by omega
 have e2:(b:Int)/2147483648=((b/2147483648:Nat):Int):=by omega
 have e3:(a:Int)%2147483648=((a%2147483648:Nat):Int):=by omega
 have e4:(b:Int)%2147483648=((b%2147483648:Nat):Int):=by omega
 rw[e1,e2,e3,e4,←Int.natCast_mul,←Int.natCast_mul,←Int.natCast_mul];have g1:a/2147483648≤2147483648:=by omega
 have g2:b/2147483648≤2147483648:=by omega
 have g3:a%2147483648≤2147483648:=by omega
 have g4:b%2147483648≤2147483648:=by omega
 have q1:=Nat.mul_le_mul g1 g2;have q2:=Nat.mul_le_mul g1 g4;have q3:=Nat.mul_le_mul g3 g2;clear e1 e2 e3 e4 g1 g2 g3 g4 h h2 ha hb;generalize a/2147483648*(b/2147483648)=p at*;generalize a/2147483648*(b%2147483648)=q at*;generalize a%2147483648*(b/2147483648)=r at*;rw[IntWalk.wrap64_in (p:Int) om_,IntWalk.wrap64_in (q:Int) om_,IntWalk.wrap64_in (r:Int) om_,IntWalk.wrap64_in ((p:Int)+(q:Int)/2147483648) om_,IntWalk.wrap64_in ((p:Int)+(q:Int)/2147483648+(r:Int)/2147483648) om_];omega
theorem high_any(a b:Nat)(w:World)(ha:a≤4611686018427387904)(hb:b≤4611686018427387904):Calls Tryz.prog 274 #[vi vk a,vi vk b] w fun e w'=>e=.returned (vi vk (Trig.hiN a b:Nat))∧w'=w:=by
 have HV:=hid (high_val ha hb);have ba0:(0:Int)≤(a:Int):=by omega
 have ba1:(a:Int)≤4611686018427387904:=by omega
 have bb0:(0:Int)≤(b:Int):=by omega
 have bb1:(b:Int)≤4611686018427387904:=by omega
 generalize ((Trig.hiN a b:Nat):Int)=z at*;go_enter func274,ntmps274;go_wp2;go_ret;refine⟨ret_int ?_,rfl⟩;rw[←HV.out,mask31,mask31]
theorem tm_fall{sq:Nat}(h:sq≤3074457345618258602)(t m:Nat):16*Trig.tm (Trig.tm t sq (m+1)) sq (m+2+1)≤t∧Trig.tm (Trig.tm t sq (m+1)) sq (m+2+1)≤Trig.tm t sq (m+1):=by
 have key: ∀s c:Nat,12≤c→16*(Trig.hiN s sq/c)≤s:=by
  intro s c hc;have h1:=(Trig.hiN_bd s sq).1;have h2:s*sq≤s*3074457345618258602:=Nat.mul_le_mul_left s h;have h3:Trig.hiN s sq/c≤Trig.hiN s sq/12:=Nat.div_le_div_left hc om_;omega
 have hc:12≤(m+2+1)*(m+2+1+1):=Nat.mul_le_mul (show 3≤m+2+1 by omega) (show 4≤m+2+1+1 by omega);have k1:=key (Trig.tm t sq (m+1)) _ hc;have k2:=Trig.tm_le (t:=t) (m:=m) (show sq≤4611686018427387904 by omega);have e:Trig.tm (Trig.tm t sq (m+1)) sq (m+2+1)=Trig.hiN (Trig.tm t sq (m+1)) sq/((m+2+1)*(m+2+1+1)):=rfl;rw[e];omega
theorem tm_cast{t sq d h c x:Nat}(hh:h=Trig.hiN t sq)(hc:c=d*(d+1))(hx:x=Trig.tm t sq d):(h:Int)/(c:Int)=(x:Int):=by
 rw[hh,hc,hx];unfold Trig.tm;exact(Int.natCast_ediv _ _).symm
theorem hiN_le{t sq:Nat}(h:sq≤4611686018427387904):Trig.hiN t sq≤t:=by
 have h1:=(Trig.hiN_bd t sq).1;have h3:t*sq≤t*4611686018427387904:=Nat.mul_le_mul_left t h;omega
theorem qgo_zero(sq f d:Nat):Trig.qgo sq f 0 d=0:=by cases f<;>simp[Trig.qgo]
theorem qgo_next{sq S R t m f t1 t2:Nat}(h0:t≠0)(h:S+Trig.qgo sq (f+1) t (m+1)=R)(h1:t1=Trig.tm t sq (m+1))(h2:t2=Trig.tm t1 sq (m+2+1))(hle:t1≤t):S+t-t1+Trig.qgo sq f t2 (m+4+1)=R:=by
 rw[Trig.qgo,if_neg h0,←h1,show m+1+2=m+2+1 by omega,←h2,show m+1+4=m+4+1 by omega] at h;omega
theorem pow_fall{t t2 f:Nat}(h:t<2^(4*(f+1)))(h2:16*t2≤t):t2<2^(4*f):=by
 rw[show 4*(f+1)=4*f+4 by omega,Nat.pow_add] at h;omega
theorem quick_loop(r:Nat)(c:Bool)(w:World)(hr:r≤2700000):Calls Tryz.prog 263 #[vi vk r,.bool c] w fun e w'=>e=.returned (vi vk (Trig.quickN r c:Nat))∧w'=w:=by
 obtain⟨x0,x1⟩:=Trig.ang_bd hr;have hsq:=Trig.sq_le x0 x1 (Trig.sqN_err hr);have hA:Trig.arcN r≤4611686018427387904:=by unfold Trig.arcN;omega
 have hAe:(Trig.arcN r:Int)=(r:Int)*2620088056*512+(r:Int)*658911831/4194304:=by unfold Trig.arcN;omega
 have hR:=Trig.quickN_le hr c;have hq:Trig.quickN r c=if c=true then Trig.qgo (Trig.hiN (Trig.arcN r) (Trig.arcN r)) 17 4611686018427387904 1 else Trig.qgo (Trig.hiN (Trig.arcN r) (Trig.arcN r)) 17 (Trig.arcN r) 2:=rfl
 have KH:=hid (fun W=>high_any (Trig.arcN r) (Trig.arcN r) W hA hA);generalize Trig.quickN r c=R at*;generalize Trig.hiN (Trig.arcN r) (Trig.arcN r)=sq at*;generalize Trig.arcN r=A at*;have b0:(0:Int)≤(r:Int):=by omega
 have b1:(r:Int)≤2700000:=by omega
 have hS:=hid hsq;have HA:=hid hA;have HR:=hid hR;have HQ:=hid hq;clear x0 x1 hsq hA hR hq hr;have hAe':=hAe.symm;clear hAe;cases c
 all_goals
  go_enter func263,ntmps263;go_wp2_with (go_at_call 274;(with_reducible refine(KH.out _).mono ?_);rintro e w1 ⟨rfl,rfl⟩);go_loop [7,8,9] (fun s7 s8 s9=> ∃t d f S:Nat,s7=vi vk t∧s8=vi vk d∧s9=vi vk S∧1≤d∧S+Trig.qgo sq f t d=R∧t<2^(4*f)∧S+t≤4611686018427387904∧d+4*f≤71) (fun s7 _ _=>(intOf s7).toNat)
  case atStart=>
   first
    |exact⟨A,2,17,0,rfl,rfl,rfl,om_,by rw[HQ.out];simp,Nat.lt_of_le_of_lt HA.out dc_,by have:=HA.out;omega,om_⟩
    |exact⟨4611686018427387904,1,17,0,rfl,rfl,rfl,om_,by rw[HQ.out];simp,dc_,om_,om_⟩
  case round=>
   obtain⟨t,d,f,S,rfl,rfl,rfl,hd1,hqg,htf,hSt,hdf⟩:=hrel;have HQG:=hid hqg;have HTF:=hid htf;have HSt:=hid hSt;by_cases ht:0<t
   · obtain⟨f',rfl⟩: ∃f',f=f'+1:=by
      rcases f with _|f'
      · exfalso
        have:=HTF.out;simp at this;omega
      · exact⟨f',rfl⟩
     obtain⟨m,hm⟩: ∃m,d=m+1:=⟨d-1,om_⟩;obtain⟨h1,hh1⟩: ∃h,h=Trig.hiN t sq:=⟨_,rfl⟩;obtain⟨t1,ht1⟩: ∃x,x=Trig.tm t sq d:=⟨_,rfl⟩;obtain⟨c1,hc1⟩: ∃x,x=d*(d+1):=⟨_,rfl⟩;obtain⟨h2,hh2⟩: ∃h,h=Trig.hiN t1 sq:=⟨_,rfl⟩;obtain⟨t2,ht2⟩: ∃x,x=Trig.tm t1 sq (d+2):=⟨_,rfl⟩;obtain⟨c2,hc2⟩: ∃x,x=(d+2)*(d+2+1):=⟨_,rfl⟩;have hsq:=hS.out;have l1:t1≤t:=by rw[ht1,hm];exact Trig.tm_le om_
     have g1:h1≤t:=by rw[hh1];exact hiN_le om_
     have g2:h2≤t1:=by rw[hh2];exact hiN_le om_
     have fall:=tm_fall hsq t m;rw[←hm,←ht1,show m+2+1=d+2 by omega,←ht2] at fall;have p1:c1≤71*72:=by rw[hc1];exact Nat.mul_le_mul om_ om_
     have p2:c2≤73*74:=by rw[hc2];exact Nat.mul_le_mul om_ om_
     have p3:2≤c1:=by rw[hc1];exact Nat.mul_le_mul (show 1≤d by omega) (show 2≤d+1 by omega)
     have p4:12≤c2:=by rw[hc2];exact Nat.mul_le_mul (show 3≤d+2 by omega) (show 4≤d+2+1 by omega)
     have K1:Hid (∀W,Calls Tryz.prog 274 #[vi vk t,vi vk sq] W fun e w'=>e=.returned (vi vk h1)∧w'=W):=hid (fun W=>by rw[hh1];exact high_any t sq W om_ om_);have K2:Hid (∀W,Calls Tryz.prog 274 #[vi vk t1,vi vk sq] W fun e w'=>e=.returned (vi vk h2)∧w'=W):=hid (fun W=>by rw[hh2];exact high_any t1 sq W om_ om_);have E1:=tm_cast hh1 hc1 ht1;have E2:=tm_cast hh2 hc2 ht2;have W1:wrap64 ((d:Int)*((d:Int)+1))=(c1:Int):=by
      have:(d:Int)*((d:Int)+1)=(c1:Int):=by rw[hc1];push_cast;rfl
      rw[this];exact IntWalk.wrap64_in _ om_
     have W2:wrap64 (((d:Int)+2)*((d:Int)+3))=(c2:Int):=by
      have:((d:Int)+2)*((d:Int)+3)=(c2:Int):=by rw[hc2];push_cast;rfl
      rw[this];exact IntWalk.wrap64_in _ om_
     have z1:((c1:Int)==0)=false:=by rw[beq_eq_false_iff_ne];clear E1 E2 W1 W2;omega
     have z2:((c2:Int)==0)=false:=by rw[beq_eq_false_iff_ne];clear E1 E2 W1 W2;omega
     have z3: ¬((c1:Int)=0):=by clear E1 E2 W1 W2;omega
     have z4: ¬((c2:Int)=0):=by clear E1 E2 W1 W2;omega
     have nx:S+t-t1+Trig.qgo sq f' t2 (d+4)=R:=by
      have:=HQG.out;rw[hm] at this⊢;exact qgo_next om_ this (by rw[ht1,hm]) (by rw[ht2,hm]) l1
     have NX:=hid nx;have FA:=hid fall;have LL:=hid l1;have B:=hid (And.intro hdf hd1);have q1:(0:Int)≤(S:Int):=by omega
     have q2:(S:Int)+(t:Int)≤4611686018427387904:=by omega
     have q3:(0:Int)≤(t1:Int)∧(t1:Int)≤(t:Int):=by omega
     have q4:(1:Int)≤(d:Int)∧(d:Int)≤71:=by omega
     have q5:(0:Int)≤(h1:Int)∧(0:Int)≤(h2:Int):=by omega
     have q6:(0:Int)<(c1:Int)∧(0:Int)<(c2:Int):=by clear E1 E2 W1 W2;omega
     have q70:(0:Int)≤(t2:Int):=by omega
     have q71:(t2:Int)≤4611686018427387904:=by clear E1 E2 W1 W2;omega
     obtain⟨q30,q31⟩:=q3;obtain⟨q40,q41⟩:=q4;obtain⟨q50,q51⟩:=q5;obtain⟨q60,q61⟩:=q6;clear hqg htf hSt hm hh1 ht1 hc1 hh2 ht2 hc2 hsq l1 g1 g2 fall p1 p2 p3 p4 nx hdf hd1;have dt:decide ((0:Int)<(t:Int))=true:=decide_eq_true (by clear E1 E2 W1 W2;omega);go_wp2_with (first|(go_at_call 274;(with_reducible refine(K1.out _).mono ?_);rintro e w1 ⟨rfl,rfl⟩)|(go_at_call 274;(with_reducible refine(K2.out _).mono ?_);rintro e w1 ⟨rfl,rfl⟩));go_round
     case rel=>exact⟨t2,d+4,f',S+t-t1,rfl,by go_num,by have:=LL.out;clear E1 E2 W1 W2;go_num,om_,NX.out,pow_fall HTF.out FA.out.1,by have:=FA.out.2;have:=HSt.out;have:=LL.out;clear E1 E2 W1 W2;omega,by have:=B.out;clear E1 E2 W1 W2;omega⟩
     case measure=>have:=FA.out.1;clear E1 E2 W1 W2;simp[intOf];omega
   · have h0:t=0:=by omega
     subst h0;go_wp2;go_ret;refine⟨ret_int ?_,rfl⟩;have:=HQG.out;rw[qgo_zero] at this;omega
theorem quick_int(r:Int)(c:Bool)(w:World)(h0:0≤r)(h1:r≤2700000):Calls Tryz.prog 263 #[vi vk r,.bool c] w fun e w'=>e=.returned (vi vk (Trig.quickN r.toNat c:Nat))∧w'=w:=by
 have:=quick_loop r.toNat c w om_;rw[Int.toNat_of_nonneg h0] at this;exact this
theorem quickN_bd{r:Int}(c:Bool)(h0:0≤r)(h1:r≤2700000):(0:Int)≤(Trig.quickN r.toNat c:Nat)∧((Trig.quickN r.toNat c:Nat):Int)≤4611686018427387904:=by
 have:=Trig.quickN_le (r:=r.toNat) om_ c;omega
theorem tmodT_val(n:Int):(n.tmod 21600000<0∧wrap64 (n.tmod 21600000+21600000)=n%21600000)∨(¬n.tmod 21600000<0∧n.tmod 21600000=n%21600000):=by
 by_cases h:n.tmod 21600000<0
 · refine .inl ⟨h,?_⟩
   have e:=tmodT_neg h;rw[IntWalk.wrap64_in _ om_];exact e
 · exact .inr ⟨h,tmodT_pos om_⟩
theorem Quick_any(n:Int)(w:World):Calls Tryz.prog 247 #[vi vk n] w fun e w'=>e=.returned (vi vk (Trig.qv n))∧w'=w:=by
 have hm:0≤n%21600000∧n%21600000<21600000:=by omega
 have hv:Trig.qv n=if Trig.rq n≥2 then-(Trig.quickN (Trig.rr n).toNat (Trig.rc n):Int) else(Trig.quickN (Trig.rr n).toNat (Trig.rc n):Int):=rfl
 have hrq:Trig.rq n=n%21600000/5400000:=rfl;have hrr:Trig.rr n=if n%21600000%5400000>2700000 then 5400000-n%21600000%5400000 else n%21600000%5400000:=rfl
 have hrc:Trig.rc n=if n%21600000%5400000>2700000 then !decide (Trig.rq n%2=1) else decide (Trig.rq n%2=1):=rfl
 have ht:=tmodT_val n;rw[hv];generalize n%21600000=m at*;obtain⟨m0,m1⟩:=hm;generalize Trig.rq n=q at*;generalize Trig.rr n=r at*;generalize Trig.rc n=c at*;have hqc:q=0∨q=1∨q=2∨q=3:=by omega
 have hr0:0≤m%5400000∧m%5400000<5400000:=by omega
 generalize hs:m%5400000=s at*;obtain⟨s0,s1⟩:=hr0;have hq':=hrq.symm;clear hv hrq;by_cases hb:s>2700000
 · rw[if_pos hb] at hrr hrc
   have d1:decide (2700000<s)=true:=decide_eq_true hb;rcases hqc with rfl|rfl|rfl|rfl
   all_goals
    simp at hrc;subst hrc;subst hrr;have K:=hid (fun W=>quick_int (5400000-s) false W om_ om_);have K':=hid (fun W=>quick_int (5400000-s) true W om_ om_);obtain⟨v0,v1⟩:=quickN_bd (r:=5400000-s) false om_ om_;obtain⟨u0,u1⟩:=quickN_bd (r:=5400000-s) true om_ om_;generalize ((Trig.quickN (5400000-s).toNat false:Nat):Int)=v at*;generalize ((Trig.quickN (5400000-s).toNat true:Nat):Int)=u at*;rcases ht with ⟨t0,t1⟩|⟨t0,t1⟩
    all_goals
     simp only[ge_iff_le,Int.reduceLE,if_true,if_false];go_enter func247,ntmps247;go_wp2_with (first|(go_at_call 263;(with_reducible refine(K.out _).mono ?_);rintro e w1 ⟨rfl,rfl⟩)|(go_at_call 263;(with_reducible refine(K'.out _).mono ?_);rintro e w1 ⟨rfl,rfl⟩));go_ret;exact⟨ret_int om_,rfl⟩
 · rw[if_neg hb] at hrr hrc
   have d1:decide (2700000<s)=false:=decide_eq_false hb;rcases hqc with rfl|rfl|rfl|rfl
   all_goals
    simp at hrc;subst hrc;subst hrr;have K:=hid (fun W=>quick_int r false W om_ om_);have K':=hid (fun W=>quick_int r true W om_ om_);obtain⟨v0,v1⟩:=quickN_bd (r:=r) false om_ om_;obtain⟨u0,u1⟩:=quickN_bd (r:=r) true om_ om_;generalize ((Trig.quickN r.toNat false:Nat):Int)=v at*;generalize ((Trig.quickN r.toNat true:Nat):Int)=u at*;rcases ht with ⟨t0,t1⟩|⟨t0,t1⟩
    all_goals
     simp only[ge_iff_le,Int.reduceLE,if_true,if_false];go_enter func247,ntmps247;go_wp2_with (first|(go_at_call 263;(with_reducible refine(K.out _).mono ?_);rintro e w1 ⟨rfl,rfl⟩)|(go_at_call 263;(with_reducible refine(K'.out _).mono ?_);rintro e w1 ⟨rfl,rfl⟩));go_ret;exact⟨ret_int om_,rfl⟩
theorem Exact_no(n:Int)(w:World)(h:Trig.rEx n=false):Calls Tryz.prog 246 #[vi vk n] w fun e w'=>e=.returned (.tuple #[vi vk 0,.bool false])∧Below w.heap.size w w':=by
 have hm:0≤n%21600000∧n%21600000<21600000:=by omega
 have ht:=tmodT_val n;unfold Trig.rEx at h;generalize n%21600000=m at*;obtain⟨m0,m1⟩:=hm;by_cases hz:m%1800000=0
 · have hk:m/1800000%6=2∨m/1800000%6=4:=by
    rw[hz] at h;simp at h;omega
   have hmk:m=1800000*2∨m=1800000*8∨m=1800000*4∨m=1800000*10:=by omega
   clear h hz hk m0 m1;rcases hmk with rfl|rfl|rfl|rfl
   all_goals
    rcases ht with ⟨t0,t1⟩|⟨t0,t1⟩
    all_goals
     simp only[Int.reduceMul] at t1;go_enter func246,ntmps246;go_wp2;go_ret2
     refine⟨rfl,?_⟩;exact bl_
 · have hd:(m%1800000 != 0)=true:=by simpa using hz
   clear h hz;rcases ht with ⟨t0,t1⟩|⟨t0,t1⟩
   all_goals
    go_enter func246,ntmps246;go_wp2;go_ret2
    refine⟨rfl,?_⟩;exact bl_
theorem Exact_yes(n:Int)(w:World)(h:Trig.rEx n=true):Calls Tryz.prog 246 #[vi vk n] w fun e w'=>e=.returned (.tuple #[vi vk (Trig.rVal n),.bool true])∧Below w.heap.size w w':=by
 have hm:0≤n%21600000∧n%21600000<21600000:=by omega
 have ht:=tmodT_val n;unfold Trig.rEx at h;unfold Trig.rVal;generalize n%21600000=m at*;obtain⟨m0,m1⟩:=hm;simp only[Bool.and_eq_true,Bool.not_eq_true',Bool.or_eq_false_iff,decide_eq_true_eq,decide_eq_false_iff_not] at h;have hmk:m=1800000*0∨m=1800000*1∨m=1800000*3∨m=1800000*5∨m=1800000*6∨m=1800000*7∨m=1800000*9∨m=1800000*11:=by omega
 clear h m0 m1;rcases hmk with rfl|rfl|rfl|rfl|rfl|rfl|rfl|rfl
 all_goals
  rcases ht with ⟨t0,t1⟩|⟨t0,t1⟩
  all_goals
   simp only[Int.reduceMul] at t1;simp only[Int.reduceMul,Int.reduceDiv,Int.reduceEq,if_true,if_false];go_enter func246,ntmps246;go_wp2;go_ret2
   refine⟨rfl,?_⟩;exact bl_
theorem qv_facts(n:Int)(h:Trig.rEx n=false):(-4611686018427387904≤Trig.qv n∧Trig.qv n≤4611686018427387904)∧(Trig.qv n-256)/4294967296=(Trig.qv n+256)/4294967296∧Trig.qv n/4294967296=Trig.loB n∧Trig.hiB n=Trig.loB n+1:=by
 obtain⟨hf,h1,h2⟩:=Trig.quick_far n h;refine⟨?_,?_,h1,h2⟩
 · have hr:0≤Trig.rr n∧Trig.rr n≤2700000:=by unfold Trig.rr;omega
   have:=quickN_bd (r:=Trig.rr n) (Trig.rc n) hr.1 hr.2;unfold Trig.qv;split<;>omega
 · unfold Trig.farB at hf
   rw[Bool.and_eq_true,Nat.ble_eq,Nat.ble_eq] at hf;unfold Trig.qv;generalize Trig.quickN (Trig.rr n).toNat (Trig.rc n)=v at*;split<;>omega
theorem Floor_any(n:Int)(w:World):Calls Tryz.prog 227 #[vi vk n] w fun e w'=>e=.returned (.tuple #[vi vk (Trig.loB n),.bool (Trig.rEx n)])∧Below w.heap.size w w':=by
 cases h:Trig.rEx n with
 |true=>
  have KE:=hid (fun W=>Exact_yes n W h);rw[(Trig.exact_same n h).1] at KE;clear h;go_enter func227,ntmps227;go_wp2_with (go_at_call 246;(with_reducible refine(KE.out _).mono ?_);rintro e w1 ⟨rfl,hb1⟩);go_ret2
  exact⟨rfl,hb1⟩
 |false=>
  have KE:=hid (fun W=>Exact_no n W h);have KQ:=hid (fun W=>Quick_any n W);obtain⟨⟨q0,q1⟩,hq,hl,-⟩:=qv_facts n h;rw[←hl];generalize Trig.qv n=v at*;have hd:((v-256)/4294967296==(v+256)/4294967296)=true:=by rw[beq_iff_eq];exact hq
  clear h hl hq;go_enter func227,ntmps227;go_wp2_with (first|(go_at_call 246;(with_reducible refine(KE.out _).mono ?_);rintro e w1 ⟨rfl,hb1⟩)|(go_at_call 247;(with_reducible refine(KQ.out _).mono ?_);rintro e w2 ⟨rfl,rfl⟩));go_ret2
  exact⟨rfl,hb1⟩
section
structure D2(W:World)(g:Nat)(a b:Int):Prop where
 lt:g<W.heap.size
 c0:W.cell? ⟨g,0,none⟩=some (vi vk a)
 c1:W.cell? ⟨g,1,none⟩=some (vi vk b)
 f0:W.frozen? ⟨g,0,none⟩=false
 f1:W.frozen? ⟨g,1,none⟩=false
section
variable {W W':World} {g:Nat} {a b:Int}
theorem D2.below{B:Nat}(h:D2 W g a b)(hb:Below B W W')(hB:g<B):D2 W' g a b:=
 ⟨Nat.lt_of_lt_of_le h.lt hb.size,(hb.cell (p:=⟨g,0,none⟩) hB).trans h.c0,(hb.cell (p:=⟨g,1,none⟩) hB).trans h.c1,(hb.frozen (p:=⟨g,0,none⟩) hB).trans h.f0,(hb.frozen (p:=⟨g,1,none⟩) hB).trans h.f1⟩
theorem D2.alloc(h:D2 W g a b)(o:Obj):D2 (W.alloc o) g a b:=h.below (bl_alloc W o) h.lt
theorem D2.new(W:World)(a b:Int)(t:TypeId):D2 (W.alloc (.cells #[vi vk a,vi vk b] t)) W.heap.size a b:=⟨by simp,by simp,by simp,by simp,by simp⟩
theorem D2.far(h:D2 W g a b){p:Addr}(hp:g≠p.block)(u:Value):D2 (W.setCell p u) g a b:=by
 have hne: ∀i,p≠(⟨g,i,none⟩:Addr):=fun i e=>hp (by rw[e]);refine⟨by simpa using h.lt,?_,?_,?_,?_⟩
 · rw[World.cell?_setCell_other _ _ _ _ (hne 0)];exact h.c0
 · rw[World.cell?_setCell_other _ _ _ _ (hne 1)];exact h.c1
 · simpa using h.f0
 · simpa using h.f1
theorem D2.set0(h:D2 W g a b)(v:Int):D2 (W.setCell ⟨g,0,none⟩ (vi vk v)) g v b:=by
 refine⟨by simpa using h.lt,World.cell?_setCell_same _ _ _ h.c0,?_,by simpa using h.f0,by simpa using h.f1⟩;rw[World.cell?_setCell_other _ _ _ _ (by simp)];exact h.c1
theorem D2.set1(h:D2 W g a b)(v:Int):D2 (W.setCell ⟨g,1,none⟩ (vi vk v)) g a v:=by
 refine⟨by simpa using h.lt,?_,World.cell?_setCell_same _ _ _ h.c1,by simpa using h.f0,by simpa using h.f1⟩;rw[World.cell?_setCell_other _ _ _ _ (by simp)];exact h.c0
end
theorem ends_any(n:Int)(w:World):Calls Tryz.prog 233 #[vi vk n] w fun e w'=>e=.returned (.tuple #[vi vk (Trig.loB n),vi vk (Trig.hiB n)])∧Below w.heap.size w w':=by
 have KF:=hid (fun W=>Floor_any n W);have hb:=Trig.lo_bd n;have hx:Trig.hiB n=if Trig.rEx n=true then Trig.loB n else Trig.loB n+1:=by
  cases h:Trig.rEx n with
  |true=>rw[if_pos rfl];exact(Trig.exact_same n h).2
  |false=>rw[if_neg (by simp)];exact(qv_facts n h).2.2.2
 rw[hx];obtain⟨b0,b1,-,-⟩:=hb;clear hx;generalize Trig.rEx n=x at*;generalize Trig.loB n=l at*;cases x
 all_goals
  simp only[eq_self,if_true,Bool.false_eq_true,if_false];go_enter func233,ntmps233;go_wp2_with (go_at_call 227;(with_reducible refine(KF.out _).mono ?_);rintro e w1 ⟨rfl,hb1⟩);go_ret2
  exact⟨rfl,hb1⟩
theorem hasR_any(lo hi n:Int)(w:World)(h0: -10000000000000≤lo)(h1:lo≤10000000000000)(h4: -5400000≤n)(h5:n≤5400000):
 Calls Tryz.prog 234 #[.agg #[vi vk lo,vi vk hi],vi vk n] w fun e w'=>e=.returned (.bool (decide (lo+(n-lo)%21600000≤hi)))∧Below w.heap.size w w':=by
 have ht:=tmodT_val (n-lo);have hm:0≤(n-lo)%21600000∧(n-lo)%21600000<21600000:=by omega
 have s1:wrap64 (n-lo)=n-lo:=IntWalk.wrap64_in _ om_;generalize (n-lo)%21600000=m at*;obtain⟨m0,m1⟩:=hm;rcases ht with ⟨t0,t1⟩|⟨t0,t1⟩
 all_goals
  go_enter func234,ntmps234;go_wp2;go_ret;refine⟨rfl,?_⟩;exact bl_
theorem has_met(lo hi:Int):decide (lo+(5400000-lo)%21600000≤hi)=Trig.metB lo hi 5400000∧decide (lo+(-5400000-lo)%21600000≤hi)=Trig.metB lo hi 16200000:=by
 unfold Trig.metB;rw[decide_eq_decide,decide_eq_decide];omega
theorem sineR_any(lo hi:Int)(w:World)(h0: -10000000000000≤lo)(h1:lo≤10000000000000):
 Calls Tryz.prog 204 #[.agg #[vi vk lo,vi vk hi]] w fun e w'=>e=.returned (.agg #[vi vk (Trig.enLo lo hi),vi vk (Trig.enHi lo hi)])∧Below w.heap.size w w':=by
 have KA:=hid (fun W=>ends_any lo W);have KB:=hid (fun W=>ends_any hi W);have KQ:=hid (fun W=>hasR_any lo hi 5400000 W h0 h1 om_ om_);have KR:=hid (fun W=>hasR_any lo hi (-5400000) W h0 h1 om_ om_);rw[(has_met lo hi).1] at KQ;rw[(has_met lo hi).2] at KR;unfold Trig.enLo Trig.enHi;generalize Trig.metB lo hi 5400000=p at*;generalize Trig.metB lo hi 16200000=q at*;generalize Trig.loB lo=a at*;generalize Trig.hiB lo=b at*;generalize Trig.loB hi=c at*;generalize Trig.hiB hi=d at*;cases p<;>cases q
 all_goals
  simp only[eq_self,if_true,Bool.false_eq_true,if_false];go_enter func204,ntmps204;go_wp2_with fail;(with_reducible refine(KA.out _).mono ?_)
  rintro e w1 ⟨rfl,hb1⟩
  have hbl1:=two_bl hb1;have X1:=hid (((D2.new w lo hi 33).alloc (.cells #[vi vk 0,vi vk 0] 160)).below hb1 (by simp;omega));have R1:Hid (D2 w1 (w.heap.size+1) 0 0):=hid (by
   have:=(D2.new (w.alloc (.cells #[vi vk lo,vi vk hi] 33)) 0 0 160).below hb1 (by simp);simpa using this)
  obtain⟨-,x0,x1,-,-⟩:=X1.out;clear hb1;go_wp2_with fail;(with_reducible refine(KB.out _).mono ?_)
  rintro e w2 ⟨rfl,hb2⟩
  have hbl2:=hbl1.trans (hb2.mono hbl1.size);have X2:=hid (X1.out.below hb2 X1.out.lt);have R2:=hid (R1.out.below hb2 R1.out.lt);clear hb2 hbl1 X1 R1 x0 x1;obtain⟨xt,x0,x1,-,-⟩:=X2.out;go_wp2_with fail;(with_reducible refine(KQ.out _).mono ?_)
  rintro e w3 ⟨rfl,hb3⟩
  have hbl3:=(hbl2.alloc hbl2.size _).trans (hb3.mono (by have:=hbl2.size;simp;omega));have X3:=hid ((X2.out.alloc _).below hb3 (X2.out.alloc _).lt);have R3:=hid ((R2.out.alloc _).below hb3 (R2.out.alloc _).lt);have O3:=hid ((D2.new w2 (min a c) (max b d) 160).below hb3 (D2.new w2 (min a c) (max b d) 160).lt);have g1:w.heap.size≠w2.heap.size:=by have:=X2.out.lt;omega
  have g2:w.heap.size+1≠w2.heap.size:=by have:=R2.out.lt;omega
  have g3:w.heap.size≤w2.heap.size:=hbl2.size;generalize w2.heap.size=g at*;clear hb3 hbl2 X2 R2 x0 x1 xt;first
   |(have X4:=hid (X3.out.far g1 (p:=⟨g,1,none⟩) (vi vk 1073741824))
     have R4:=hid (R3.out.far g2 (p:=⟨g,1,none⟩) (vi vk 1073741824));have O4:=hid (O3.out.set1 1073741824);have hbl4:=hbl3.setCell (p:=⟨g,1,none⟩) g3 (vi vk 1073741824);obtain⟨xt,x0,x1,-,-⟩:=X3.out;obtain⟨ot,o0,o1,of0,of1⟩:=O3.out;go_wp2_with fail;(with_reducible refine(KR.out (w3.setCell ⟨g,1,none⟩ (vi vk 1073741824))).mono ?_)
     clear xt x0 x1 ot o0 o1 of0 of1)
   |(have X4:=X3
     have R4:=R3;have O4:=O3;have hbl4:=hbl3;obtain⟨xt,x0,x1,-,-⟩:=X3.out;go_wp2_with fail;(with_reducible refine(KR.out w3).mono ?_)
     clear xt x0 x1)
  rintro e w5 ⟨rfl,hb5⟩
  have hbl5:=hbl4.trans (hb5.mono hbl4.size);have R5:=hid (R4.out.below hb5 R4.out.lt);have O5:=hid (O4.out.below hb5 O4.out.lt);obtain⟨rt,r0,r1,rf0,rf1⟩:=R5.out;obtain⟨ot,o0,o1,of0,of1⟩:=O5.out;clear X3 R3 O3 hbl3 X4 R4 O4 hb5 hbl4;go_wp2;first
   |(refine bodyPost_ret (v:=.agg #[vi vk (min a c),vi vk (max b d)]) (by simp[results,results204,go_sem, *]) rfl ⟨rfl,?_⟩;exact(hbl5.setCell (by simp) _).setCell (by simp) _)
   |(refine bodyPost_ret (v:=.agg #[vi vk (min a c),vi vk 1073741824]) (by simp[results,results204,go_sem, *]) rfl ⟨rfl,?_⟩;exact(hbl5.setCell (by simp) _).setCell (by simp) _)
   |(refine bodyPost_ret (v:=.agg #[vi vk (-1073741824),vi vk (max b d)]) (by simp[results,results204,go_sem, *]) rfl ⟨rfl,?_⟩;exact((hbl5.setCell g3 _).setCell (by simp) _).setCell (by simp) _)
   |(refine bodyPost_ret (v:=.agg #[vi vk (-1073741824),vi vk 1073741824]) (by simp[results,results204,go_sem, *]) rfl ⟨rfl,?_⟩;exact((hbl5.setCell g3 _).setCell (by simp) _).setCell (by simp) _)
theorem SinR_any(lo hi:Int)(w:World)(h0: -10000000000000≤lo)(h1:lo≤10000000000000):
 Calls Tryz.prog 181 #[.agg #[vi vk lo,vi vk hi]] w fun e w'=>e=.returned (.agg #[vi vk (Trig.enLo lo hi),vi vk (Trig.enHi lo hi)])∧Below w.heap.size w w':=by
 have K:=hid (fun W=>sineR_any lo hi W h0 h1);generalize Trig.enLo lo hi=u at*;generalize Trig.enHi lo hi=v at*;clear h0 h1;go_enter func181,ntmps181;go_wp2_with fail;(with_reducible refine(K.out _).mono ?_)
 rintro e w1 ⟨rfl,hb1⟩
 have hbl1:=two_bl hb1;have R1:Hid (D2 w1 (w.heap.size+1) 0 0):=hid (by
  have:=(D2.new (w.alloc (.cells #[vi vk lo,vi vk hi] 33)) 0 0 160).below hb1 (by simp);simpa using this)
 obtain⟨rt,r0,r1,rf0,rf1⟩:=R1.out;clear hb1;go_wp2;refine bodyPost_ret (v:=.agg #[vi vk u,vi vk v]) (by simp[results,results181,go_sem, *]) rfl ⟨rfl,?_⟩;exact(hbl1.setCell (by simp) _).setCell (by simp) _
theorem CosR_any(lo hi:Int)(w:World)(h0: -5000000000000≤lo)(h1:lo≤5000000000000)(h2: -5000000000000≤hi)(h3:hi≤5000000000000):
 Calls Tryz.prog 182 #[.agg #[vi vk lo,vi vk hi]] w fun e w'=>e=.returned (.agg #[vi vk (Trig.enLo (lo+5400000) (hi+5400000)),vi vk (Trig.enHi (lo+5400000) (hi+5400000))])∧Below w.heap.size w w':=by
 have K:=hid (fun W=>sineR_any (lo+5400000) (hi+5400000) W om_ om_);generalize Trig.enLo (lo+5400000) (hi+5400000)=u at*;generalize Trig.enHi (lo+5400000) (hi+5400000)=v at*;go_enter func182,ntmps182;go_wp2_with fail;(with_reducible refine(K.out _).mono ?_)
 rintro e w1 ⟨rfl,hb1⟩
 have hbl1:=two_bl hb1;have R1:Hid (D2 w1 (w.heap.size+1) 0 0):=hid (by
  have:=(D2.new (w.alloc (.cells #[vi vk lo,vi vk hi] 33)) 0 0 160).below hb1 (by simp);simpa using this)
 obtain⟨rt,r0,r1,rf0,rf1⟩:=R1.out;clear hb1;go_wp2;refine bodyPost_ret (v:=.agg #[vi vk u,vi vk v]) (by simp[results,results182,go_sem, *]) rfl ⟨rfl,?_⟩;exact(hbl1.setCell (by simp) _).setCell (by simp) _
end
def fvB(lo hi:Int):Bool:=decide (-2147483648≤lo∧lo≤hi∧hi≤2147483648)
theorem fValid_any(lo hi:Int)(w:World):Calls Tryz.prog 162 #[.agg #[vi vk lo,vi vk hi]] w fun e w'=>e=.returned (.bool (fvB lo hi))∧Below w.heap.size w w':=by
 unfold fvB;go_enter func162,ntmps162;go_wp2;all_goals
  go_ret;refine⟨ret_boolU (by first|(simp_all;done)|(simp_all;omega)),?_⟩;exact bl_
def fitV(lo hi:Int):Value:=if fvB lo hi=true then .tuple #[.agg #[vi vk lo,vi vk hi],vi vk 0] else .tuple #[.agg #[vi vk 0,vi vk 0],vi vk 5]
theorem ffit_any(lo hi:Int)(w:World):Calls Tryz.prog 194 #[vi vk lo,vi vk hi] w fun e w'=>e=.returned (fitV lo hi)∧Below w.heap.size w w':=by
 have KV:=hid (fun W=>fValid_any lo hi W);unfold fitV;generalize fvB lo hi=s at*;cases s
 · simp only[Bool.false_eq_true,if_false]
   go_enter func194,ntmps194;go_wp2_with fail;(with_reducible refine(KV.out _).mono ?_)
   rintro e w1 ⟨rfl,hb1⟩
   have hbl1:=two_bl hb1;have R1:=hid (((D2.new w 0 0 160).alloc (.cells #[vi vk lo,vi vk hi] 160)).below hb1 (by simp;omega));obtain⟨rt,r0,r1,rf0,rf1⟩:=R1.out;clear hb1;go_wp2;refine bodyPost_ret (v:=.tuple #[.agg #[vi vk 0,vi vk 0],vi vk 5]) (by simp[results,results194,go_sem, *]) rfl ⟨rfl,?_⟩;exact(hbl1.setCell (by simp) _).setCell (by simp) _
 · simp only[if_true]
   go_enter func194,ntmps194;go_wp2_with fail;(with_reducible refine(KV.out _).mono ?_)
   rintro e w1 ⟨rfl,hb1⟩
   have hbl1:=two_bl hb1;have R1:=hid (((D2.new w 0 0 160).alloc (.cells #[vi vk lo,vi vk hi] 160)).below hb1 (by simp;omega));have O1:Hid (D2 w1 (w.heap.size+1) lo hi):=hid (by
    have:=(D2.new (w.alloc (.cells #[vi vk 0,vi vk 0] 160)) lo hi 160).below hb1 (by simp);simpa using this)
   obtain⟨rt,r0,r1,rf0,rf1⟩:=R1.out;obtain⟨ot,o0,o1,of0,of1⟩:=O1.out;clear hb1;go_wp2;refine bodyPost_ret (v:=.tuple #[.agg #[vi vk lo,vi vk hi],vi vk 0]) (by simp[results,results194,go_sem, *]) rfl ⟨rfl,?_⟩;exact(hbl1.setCell (by simp) _).setCell (by simp) _
theorem both_any(a b c d:Int)(w:World)(h:fvB a b=true)(g:fvB c d=true):Calls Tryz.prog 193 #[.agg #[vi vk a,vi vk b],.agg #[vi vk c,vi vk d]] w fun e w'=>e=.returned (.bool true)∧Below w.heap.size w w':=by
 have KA:=hid (fun W=>fValid_any a b W);have KB:=hid (fun W=>fValid_any c d W);rw[h] at KA;rw[g] at KB;clear h g;go_enter func193,ntmps193;go_wp2_with fail;(with_reducible refine(KA.out _).mono ?_)
 rintro e w1 ⟨rfl,hb1⟩
 have hbl1:=two_bl hb1;have O1:Hid (D2 w1 (w.heap.size+1) c d):=hid (by
  have:=(D2.new (w.alloc (.cells #[vi vk a,vi vk b] 160)) c d 160).below hb1 (by simp);simpa using this)
 obtain⟨ot,o0,o1,of0,of1⟩:=O1.out;clear hb1;go_wp2_with fail;(with_reducible refine(KB.out _).mono ?_)
 rintro e w2 ⟨rfl,hb2⟩
 have hbl2:=hbl1.trans (hb2.mono hbl1.size);clear hb2;go_wp2;go_ret;exact⟨rfl,hbl2⟩
theorem three_D2{w w1:World}{a b c d e f:Int}{t:TypeId}(hb:Below (((w.alloc (.cells #[vi vk a,vi vk b] t)).alloc (.cells #[vi vk c,vi vk d] t)).alloc (.cells #[vi vk e,vi vk f] t)).heap.size (((w.alloc (.cells #[vi vk a,vi vk b] t)).alloc (.cells #[vi vk c,vi vk d] t)).alloc (.cells #[vi vk e,vi vk f] t)) w1):
 Below w.heap.size w w1∧D2 w1 w.heap.size a b∧D2 w1 (w.heap.size+1) c d∧D2 w1 (w.heap.size+2) e f:=by
 refine⟨?_,?_,?_,?_⟩
 · exact((((Below.refl _ _).alloc (Nat.le_refl _) _).alloc (by simp) _).alloc (by simp;omega) _).trans (hb.mono (by simp;omega))
 · exact(((D2.new w a b t).alloc _).alloc _).below hb (by simp;omega)
 · have:=((D2.new (w.alloc (.cells #[vi vk a,vi vk b] t)) c d t).alloc (.cells #[vi vk e,vi vk f] t)).below hb (by simp)
   simpa using this
 · have:=(D2.new ((w.alloc (.cells #[vi vk a,vi vk b] t)).alloc (.cells #[vi vk c,vi vk d] t)) e f t).below hb (by simp)
   simpa using this
theorem mul_bd31{a b:Int}(a0: -2147483648≤a)(a1:a≤2147483648)(b0: -2147483648≤b)(b1:b≤2147483648): -4611686018427387904≤a*b∧a*b≤4611686018427387904:=by
 have:(a*b).natAbs≤2147483648*2147483648:=by rw[Int.natAbs_mul];exact Nat.mul_le_mul om_ om_
 omega
theorem ffloor_any(a:Int)(w:World)(a0: -4611686018427387904≤a)(a1:a≤4611686018427387904):Calls Tryz.prog 195 #[vi vk a,vi vk 1073741824] w fun e w'=>e=.returned (vi vk (a/1073741824))∧w'=w:=by
 have h1:=Int.mul_tdiv_add_tmod a 1073741824;have h3:=Int.tmod_lt_of_pos a (show(0:Int)<1073741824 by omega);have h4:=Int.tmod_lt_of_pos (-a) (show(0:Int)<1073741824 by omega);rw[Int.neg_tmod] at h4;have h5:a<0→Int.tmod a 1073741824≤0:=fun h=>by
  have h2:=Int.tmod_nonneg 1073741824 (show 0≤ -a by omega);rw[Int.neg_tmod] at h2;omega
 have h6: ¬a<0→0≤Int.tmod a 1073741824:=fun h=>Int.tmod_nonneg 1073741824 (show 0≤a by omega);have s1:wrap64 (Int.tdiv a 1073741824-1)=Int.tdiv a 1073741824-1:=IntWalk.wrap64_in _ om_;have s2:wrap64 (Int.tdiv a 1073741824)=Int.tdiv a 1073741824:=IntWalk.wrap64_in _ om_;have H:=hid (And.intro h1 (And.intro h3 (And.intro h4 (And.intro h5 h6))));clear h1 h3 h4 h5 h6;cases hx:decide (a<0)
 all_goals
  go_enter func195,ntmps195;go_wp2;all_goals
   go_ret;refine⟨ret_int ?_,rfl⟩;obtain⟨h1,h3,h4,h5,h6⟩:=H.out;try rw[s1]
   simp only[bne_iff_ne,ne_eq,bne_eq_false_iff_eq,decide_eq_true_eq,decide_eq_false_iff_not] at*;omega
theorem fceil_any(a:Int)(w:World)(a0: -4611686018427387904≤a)(a1:a≤4611686018427387904):Calls Tryz.prog 196 #[vi vk a,vi vk 1073741824] w fun e w'=>e=.returned (vi vk (-(-a/1073741824)))∧w'=w:=by
 have KF:=hid (fun W=>ffloor_any (-a) W om_ om_);have s1:wrap64 (-a)= -a:=IntWalk.wrap64_in _ om_;have s2:wrap64 (-(-a/1073741824))= -(-a/1073741824):=IntWalk.wrap64_in _ om_;generalize-a/1073741824=q at*;go_enter func196,ntmps196;go_wp2_with fail;(with_reducible refine(KF.out _).mono ?_)
 rintro e w1 ⟨rfl,rfl⟩
 go_wp2;go_ret;exact⟨ret_int s2,rfl⟩
theorem fv_iff{a b:Int}:fvB a b=true↔ -2147483648≤a∧a≤b∧b≤2147483648:=by unfold fvB;exact decide_eq_true_iff
theorem ret_bool{a b:Bool}(h:a=b):Ending.returned (.bool a)=.returned (.bool b):=by rw[h]
def ceq(x y:Cl):Bool:=decide (x=y)
theorem ceq_true{x y:Cl}:ceq x y=true↔x=y:=by simp[ceq]
theorem ceq_false{x y:Cl}:ceq x y=false↔x≠y:=by simp[ceq]
abbrev cva(x:Cl):Value:=.agg #[vi vk x.1,vi vk x.2.1,vi vk x.2.2]
theorem equalInCell(a b c a' b' c':Int)(w:World):(Op.equalIn 10000 58 (.agg #[vi vk a,vi vk b,vi vk c]) (.agg #[vi vk a',vi vk b',vi vk c'])).run Tryz.prog w=.ok (ceq (a,b,c) (a',b',c')) w:=by
 have u3:=underlying3;have a3:=Tryz.isAgg3;have z3:=Tryz.sizeOf3;have hS:Tryz.prog.underlying 58=some (.struct (Tryz.prog.fieldsOf 58)):=by kernel_rfl
 have hp:Tryz.prog.stoodInHeld 58=false:=by kernel_rfl
 rw[show(10000:Nat)=9999+1 from rfl,run_equalIn_agg w 9999 58 _ _ hS hp];simp only[Program.fieldsOf,underlying58];go_simp
 by_cases h1:a=a'<;>by_cases h2:b=b'<;>by_cases h3:c=c'<;>simp[ceq,h1,h2,h3]
theorem neqCell(a b c a' b' c':Int)(w:World):(binOp .neq 58 (.agg #[vi vk a,vi vk b,vi vk c]) (.agg #[vi vk a',vi vk b',vi vk c'])).run Tryz.prog w=.ok (.bool (!(ceq (a,b,c) (a',b',c')))) w:=by
 rw[run_neq_struct,equalInCell];rfl
theorem eqlCell(a b c a' b' c':Int)(w:World):(binOp .eql 58 (.agg #[vi vk a,vi vk b,vi vk c]) (.agg #[vi vk a',vi vk b',vi vk c'])).run Tryz.prog w=.ok (.bool (ceq (a,b,c) (a',b',c'))) w:=by
 rw[run_eql_struct,equalInCell];rfl
def gt(L:List Cl)(k:Nat):Cl:=L.getD k (0,0,0)
theorem cvs_at(L:List Cl)(k:Nat)(hk:k<L.length):(cvs L)[k*3]? =some (vi vk (gt L k).1)∧(cvs L)[k*3+1]? =some (vi vk (gt L k).2.1)∧(cvs L)[k*3+2]? =some (vi vk (gt L k).2.2):=by
 induction L generalizing k with
 |nil=>simp at hk
 |cons x r ih=>
  have hc:cvs (x::r)=vi vk x.1::vi vk x.2.1::vi vk x.2.2::cvs r:=rfl;rw[hc];match k with
  |0=>simp[gt]
  |k+1=>
   have:=ih k (by simpa using hk);have e1:(k+1)*3=k*3+3:=by omega
   have e2:(k+1)*3+1=(k*3+1)+3:=by omega
   have e3:(k+1)*3+2=(k*3+2)+3:=by omega
   rw[e3,e2,e1];simpa [gt] using this
theorem Reads.len{w:World}{B n:Nat}{A:Option Addr}{L:List Cl}(h:Reads w B 3 A n (cvs L)):L.length=n:=by
 have:=h.1;rw[cvs_length] at this;omega
theorem Reads.elem{w:World}{B n:Nat}{A:Option Addr}{L:List Cl}(h:Reads w B 3 A n (cvs L)){k:Nat}(hk:k<n):
 ∃b off,A=some ⟨b,off,none⟩∧b<B∧w.cell? ⟨b,off+k*3,none⟩=some (vi vk (gt L k).1)∧w.cell? ⟨b,off+k*3+1,none⟩=some (vi vk (gt L k).2.1)∧w.cell? ⟨b,off+k*3+2,none⟩=some (vi vk (gt L k).2.2):=by
 have hl:=h.len;obtain⟨ad,rfl,hb,hc⟩:=h.2 om_;obtain⟨b,off,spot⟩:=ad;obtain⟨z1,_,_⟩:=cvs_at L 0 om_;have hspot:spot=none:=by simpa [Addr.add] using World.cell?_spot (hc 0 _ (by simpa using z1))
 subst hspot;obtain⟨y1,y2,y3⟩:=cvs_at L k om_;refine⟨b,off,rfl,hb,?_,?_,?_⟩
 · have:=hc _ _ y1;rw[Go.WideShapes.add_plain] at this;exact this
 · have:=hc _ _ y2;rw[Go.WideShapes.add_plain] at this;exact this
 · have:=hc _ _ y3;rw[Go.WideShapes.add_plain] at this;exact this
theorem take_eq_succ{L M:List Cl}{k:Nat}(h:L.take k=M.take k)(h1:k<L.length)(h2:k<M.length)(he:gt L k=gt M k):L.take (k+1)=M.take (k+1):=by
 rw[List.take_succ_eq_append_getElem h1,List.take_succ_eq_append_getElem h2,h];simp[gt,h1,h2] at he;rw[he]
theorem ne_of_gt{L M:List Cl}{k:Nat}(he:gt L k≠gt M k):L≠M:=fun h=>he (by rw[h])
def rchB(n:Int):Bool:=decide (-1099511627776≤n∧n≤1099511627776)
end Go.Proofs.YtdeiofgddhbdaaaGreatDoor
