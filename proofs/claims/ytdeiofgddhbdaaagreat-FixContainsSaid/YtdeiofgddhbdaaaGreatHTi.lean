/- Sums, differences and products of words of 64 digits; numbers of four words. -/
import Derived.Test.YtdeiofgddhbdaaaGreatProg
import Derived.Shelf.Spec.BitsCarry
import Derived.Ground.Names7Prog
import Derived.Shelf.Bits.Mul64
import Derived.Ground.NamesProg
import Derived.Shelf.Small.Bits
import Derived.WalkKit
import Derived.WalkSpells
import Derived.WalkLawsBesides
import Derived.Deep.QuietTactic
import Derived.BigQuiet
import Derived.Lib.Hide
import Derived.IntWalk
import Derived.Deep.AppendLies
import Derived.Maps.AppendAt
import Derived.RegionTactic
import Derived.OwnWalk
import Derived.Laws.OwnMore
import Derived.Deep.Draws
import Derived.Laws.BitsAllLaws
import Derived.Laws.BitsLemmas
import Derived.StillTailTactics
import Derived.Deep.LoopGhost
import Derived.LoopN
import Derived.Test.YtdeiofgddhbdaaaGreatHTc
set_option linter.unusedSimpArgs false
set_option linter.unusedVariables false
set_option maxHeartbeats 4000000
set_option maxRecDepth 100000
open Go.RowKit
open Go.Lib (hid)
open Go.Proofs.Tryz
open Go.Value renaming int→vi
open Go.IntKind renaming i64→vk
open Go.IntKind renaming u64→vu
namespace Go.Proofs.YtdeiofgddhbdaaaGreat
namespace Trig
theorem up_lin{h C X:Rat}(h0:1/2^22≤h)(h1:h≤1/10000)(c0:1/2≤C)(c1:C≤1)(x0:0≤X)(x1:X≤1):
 h*h/2*X+h*h*h/6*C+(h*h*h*h*(3/5)+1/2^65/2)≤h*C:=by
 have hp:0≤h:=by grind
 have a2:0≤h*h:=Rat.mul_nonneg hp hp;have a3:0≤h*h*h:=Rat.mul_nonneg a2 hp;have b2:h*h≤h*(1/10000):=Rat.mul_le_mul_of_nonneg_left h1 hp;have b3:h*h*h≤h*h*(1/10000):=Rat.mul_le_mul_of_nonneg_left h1 a2;have b4:h*h*h*h≤h*h*h*(1/10000):=Rat.mul_le_mul_of_nonneg_left h1 a3;have d1:h*(1/2)≤h*C:=Rat.mul_le_mul_of_nonneg_left c0 hp;have d2:h*h*X≤h*h*1:=Rat.mul_le_mul_of_nonneg_left x1 a2;have d3:h*h*h*C≤h*h*h*1:=Rat.mul_le_mul_of_nonneg_left c1 a3;have e1:(1:Rat)/2^65/2≤1/2^22/10000:=by decide+kernel
 have e2:h*h/2*X=h*h*X/2:=by grind
 have e3:h*h*h/6*C=h*h*h*C/6:=by grind
 rw[e2,e3];generalize (1:Rat)/2^65/2=z at*;generalize (1:Rat)/2^22=y at*;generalize h*h*h*h=h4 at*;generalize h*h*h*C=q3 at*;generalize h*h*X=q2 at*;generalize h*h*h=h3 at*;generalize h*h=h2 at*;generalize h*C=q1 at*;grind_linarith
theorem down_lin{h C X:Rat}(h0:1/2^22≤h)(h1:h≤1/10000)(c0:1/2≤C)(x0:0≤X):
 h*h*h/6*X+(h*h*h*h*(3/5)+1/2^65/2)≤h*X+h*h/2*C:=by
 have hp:0≤h:=by grind
 have a2:0≤h*h:=Rat.mul_nonneg hp hp;have a3:0≤h*h*h:=Rat.mul_nonneg a2 hp;have aX:0≤h*X:=Rat.mul_nonneg hp x0;have b2:h*h≤h*(1/10000):=Rat.mul_le_mul_of_nonneg_left h1 hp;have b3:h*h*h≤h*h*(1/10000):=Rat.mul_le_mul_of_nonneg_left h1 a2;have b4:h*h*h*h≤h*h*h*(1/10000):=Rat.mul_le_mul_of_nonneg_left h1 a3;have s2:h*h≤1:=by grind
 have d1:h*X*(h*h)≤h*X*1:=Rat.mul_le_mul_of_nonneg_left s2 aX;have d2:h*h*(1/2)≤h*h*C:=Rat.mul_le_mul_of_nonneg_left c0 a2;have g1:h*(1/2^22)≤h*h:=Rat.mul_le_mul_of_nonneg_left h0 hp;have g2:(1:Rat)/2^22*(1/2^22)≤h*(1/2^22):=Rat.mul_le_mul_of_nonneg_right h0 (by decide+kernel);have e1:(1:Rat)/2^65/2≤1/2^22*(1/2^22)/10000:=by decide+kernel
 have e2:h*h/2*C=h*h*C/2:=by grind
 have e3:h*h*h/6*X=h*X*(h*h)/6:=by grind
 rw[e2,e3];generalize (1:Rat)/2^65/2=z at*;generalize (1:Rat)/2^22*(1/2^22)=y2 at*;generalize h*(1/2^22)=hy at*;generalize h*X*(h*h)=q3 at*;generalize h*h*h*h=h4 at*;generalize h*h*C=q2 at*;generalize h*h*h=h3 at*;generalize h*h=h2 at*;generalize h*X=q1 at*;grind_linarith
theorem th_mid:(1:Rat)/2^22≤th∧th≤1/10000∧th≤1/5:=by decide+kernel
theorem sc_bd{x:Rat}(hx:0≤x)(hx1:x≤4/5):0≤sinP x∧sinP x≤1∧1/2≤cosP x∧cosP x≤1:=by
 have h1:x≤1:=by grind
 have a:=alt_bd hx h1 35 1;have b:=alt_bd hx h1 35 0;have m0:mo x 0=1:=by simp[mo]
 have m1:=mo_le1 hx h1 1;have c:=alt_mis x 34 0;have d:=mis_bd hx hx1 34 0;rw[←sin_alt] at a;rw[←cos_alt] at b;rw[show 34+1=35 from rfl,←cos_alt,m0] at c;rw[m0] at b;refine⟨a.1,by grind,by grind,b.2⟩
theorem sin_up{x:Rat}(hx:0≤x)(hx1:x≤4/5):sinP x≤sinP (x+th):=by
 obtain⟨t0,t1,t2⟩:=th_mid;obtain⟨s0,s1,k0,k1⟩:=sc_bd hx hx1;have h:=sin_shift (x:=x) (h:=th) hx (by grind) (by grind) t1;have g:=up_lin t0 t1 k0 k1 s0 s1;obtain⟨-,h⟩:=h;generalize th*th*th*th*(3/5)+1/2^65/2=e at*;generalize th*th*th/6*cosP x=q3 at*;generalize th*th/2*sinP x=q2 at*;generalize th*cosP x=q1 at*;grind_linarith
theorem cos_down{x:Rat}(hx:0≤x)(hx1:x≤4/5):cosP (x+th)≤cosP x:=by
 obtain⟨t0,t1,t2⟩:=th_mid;obtain⟨s0,s1,k0,k1⟩:=sc_bd hx hx1;have h:=cos_shift (x:=x) (h:=th) hx (by grind) (by grind) t1;have g:=down_lin t0 t1 k0 s0;obtain⟨h,-⟩:=h;generalize th*th*th*th*(3/5)+1/2^65/2=e at*;generalize th*th*th/6*sinP x=q3 at*;generalize th*th/2*cosP x=q2 at*;generalize th*sinP x=q1 at*;grind_linarith
theorem floor_le{a b:Nat}{P Q:Rat}(ha:Nr (a:Rat) (P*Y) 75)(hb:Nr (b:Rat) (Q*Y) 75)(h:P≤Q)(hf:farB b=true):a/4294967296≤b/4294967296:=by
 have h1:(a:Rat)≤((b+150:Nat):Rat):=by
  have hy:P*Y≤Q*Y:=Rat.mul_le_mul_of_nonneg_right h (by unfold Y;decide+kernel);obtain⟨a1,a2⟩:=ha;obtain⟨b1,b2⟩:=hb;push_cast
  grind_linarith
 have h2:a≤b+150:=by exact_mod_cast h1
 unfold farB at hf;rw[Bool.and_eq_true,Nat.ble_eq,Nat.ble_eq] at hf;omega
theorem floor_ge{a b:Nat}{P Q:Rat}(ha:Nr (a:Rat) (P*Y) 75)(hb:Nr (b:Rat) (Q*Y) 75)(h:P≤Q)(hf:farB a=true):a/4294967296≤b/4294967296:=by
 have h1:(a:Rat)≤((b+150:Nat):Rat):=by
  have hy:P*Y≤Q*Y:=Rat.mul_le_mul_of_nonneg_right h (by unfold Y;decide+kernel);obtain⟨a1,a2⟩:=ha;obtain⟨b1,b2⟩:=hb;push_cast
  grind_linarith
 have h2:a≤b+150:=by exact_mod_cast h1
 unfold farB at hf;rw[Bool.and_eq_true,Nat.ble_eq,Nat.ble_eq] at hf;omega
theorem ang_succ(r:Nat):((r+1:Nat):Rat)*th=(r:Rat)*th+th:=by push_cast;grind
theorem quick_up{r:Nat}(h0:1≤r)(h:r+1≤2700000)(h1:r≠1800000)(h2:r+1≠1800000):quickN r false/4294967296≤quickN (r+1) false/4294967296:=by
 obtain⟨x0,x1⟩:=ang_bd (r:=r) om_;have hq:=quick_sin (r:=r+1) h;rw[ang_succ] at hq;exact floor_le (quick_sin (r:=r) om_) hq (sin_up x0 x1) ((far_all (r:=r+1) om_ h).2 h2)
theorem quick_down{r:Nat}(h0:1≤r)(h:r+1≤2700000):quickN (r+1) true/4294967296≤quickN r true/4294967296:=by
 obtain⟨x0,x1⟩:=ang_bd (r:=r) om_;have hq:=quick_cos (r:=r+1) h;rw[ang_succ] at hq;exact floor_ge hq (quick_cos (r:=r) om_) (cos_down x0 x1) ((far_all (r:=r+1) om_ h).1)
theorem near_30:quickN 1799999 false/4294967296+1≤536870912∧536870912≤quickN 1800001 false/4294967296:=by decide+kernel
theorem sF_step{q:Int}(h0:0≤q)(h1:q+1≤5400000):sF q≤sF (q+1)∧(exN (q+1)=true→exN q=false→sF q+1≤sF (q+1)):=by
 have b0:=sF_bd (q:=q) h0 om_;have b1:=sF_bd (q:=q+1) om_ h1;by_cases c0:q=0
 · subst c0
   refine⟨by have:sF 0=0:=by decide
             omega,fun _ h=>?_⟩
   simp[exN] at h
 by_cases c1:q+1=1800000
 · have e1:sF (q+1)=536870912:=by rw[c1];decide
   have e0:sF q=((quickN 1799999 false/4294967296:Nat):Int):=by
    have:q=1799999:=by omega
    subst this;unfold sF;simp
   have:=near_30.1;omega
 by_cases c2:q=1800000
 · subst c2
   have e1:sF 1800000=536870912:=by decide
   have e0:sF (1800000+1)=((quickN 1800001 false/4294967296:Nat):Int):=by
    unfold sF;simp
   have:=near_30.2;refine⟨om_,fun _ h=>?_⟩;simp[exN] at h
 by_cases c3:q+1=5400000
 · have e1:sF (q+1)=1073741824:=by rw[c3];decide
   have hx:exN q=false:=by
    unfold exN;simp only[Bool.or_eq_false_iff,decide_eq_false_iff_not];omega
   have:=upF_le (q:=q) h0 om_;unfold upF at this;rw[hx] at this;simp at this;omega
 have hx:exN (q+1)=false:=by
  unfold exN;simp only[Bool.or_eq_false_iff,decide_eq_false_iff_not];omega
 refine⟨?_,fun h=>by rw[hx] at h;simp at h⟩;clear b0 b1;unfold sF;rw[if_neg c0,if_neg c2,if_neg (by omega: ¬q=5400000),if_neg (by omega: ¬q+1=0),if_neg c1,if_neg c3];by_cases d:2*(q+1)≤5400000
 · rw[if_pos om_,if_pos d]
   have:=quick_up (r:=q.toNat) om_ om_ om_ om_;rw[show q.toNat+1=(q+1).toNat by omega] at this;omega
 · by_cases d2:2*q≤5400000
   · rw[if_pos d2,if_neg d]
     have hq:q=2700000:=by omega
     subst hq;have:=quick_down (r:=2699999) om_ om_;have e:=same45;rw[show 2699999+1=2700000 from rfl,e] at this;have e2:(5400000-(2700000+1):Int).toNat=2699999:=by decide
     have e3:(2700000:Int).toNat=2700000:=by decide
     rw[e2,e3];generalize quickN 2700000 false/4294967296=a at*;generalize quickN 2699999 true/4294967296=b at*;omega
   · rw[if_neg d2,if_neg d]
     have:=quick_down (r:=(5400000-(q+1)).toNat) om_ om_;rw[show(5400000-(q+1)).toNat+1=(5400000-q).toNat by omega] at this;omega
theorem upF_step{q:Int}(h0:0≤q)(h1:q+1≤5400000):upF q≤upF (q+1):=by
 obtain⟨a,b⟩:=sF_step h0 h1;unfold upF;cases e0:exN q<;>cases e1:exN (q+1)<;>simp only[Bool.false_eq_true,if_false,if_true]
 · omega
 · have:=b e1 e0
   omega
 · omega
 · exact a
theorem low_sF{n:Int}(h0:0≤n)(h1:n≤5400000):loB n=sF n:=by
 have e:sth n=false:=by unfold sth;rw[decide_eq_false_iff_not];omega
 have e2:qrt n=n:=by unfold qrt;omega
 unfold loB;rw[e,e2];simp
theorem low_upF{n:Int}(h0:0<n)(h1:n≤5400000):loB (-n)= -upF n:=by
 have e:sth (-n)=true:=by unfold sth;rw[decide_eq_true_iff];omega
 have e2:qrt (-n)=n:=by unfold qrt;omega
 unfold loB;rw[e,e2];simp
theorem loB_step{n:Int}(h0: -5400000≤n)(h1:n+1≤5400000):loB n≤loB (n+1):=by
 by_cases c:0≤n
 · rw[low_sF c om_,low_sF om_ h1]
   exact(sF_step c h1).1
 · by_cases c2:n= -1
   · subst c2
     have e:loB (-1)= -upF 1:=low_upF (n:=1) om_ om_;have e2:loB (-1+1)=0:=by decide
     have h:=(sF_bd (q:=1) om_ om_).1;have:sF 1≤upF 1:=by unfold upF;split<;>omega
     omega
   · have e1:loB n= -upF (-n):=by have:=low_upF (n:= -n) om_ om_;simpa using this
     have e2:loB (n+1)= -upF (-n-1):=by
      have:=low_upF (n:= -n-1) om_ om_;rw[show-(-n-1)=n+1 by omega] at this;exact this
     have:=upF_step (q:= -n-1) om_ om_;rw[show-n-1+1= -n by omega] at this;omega
theorem loB_mono{a b:Int}(h0: -5400000≤a)(h:a≤b)(h1:b≤5400000):loB a≤loB b:=by
 have key: ∀k:Nat,a+k≤5400000→loB a≤loB (a+k):=by
  intro k;induction k with
  |zero=>intro _;simp
  |succ k ih=>
   intro hk;have h2:=ih om_;have h3:=loB_step (n:=a+k) om_ (by push_cast at hk;omega);rw[show a+k+1=a+((k+1:Nat):Int) by push_cast;omega] at h3;omega
 have:=key (b-a).toNat om_;rw[show a+((b-a).toNat:Int)=b by omega] at this;exact this
theorem loB_poles:loB (-5400000)= -1073741824∧loB 5400000=1073741824:=by decide+kernel
theorem hiB_lo(n:Int):loB n≤hiB n∧hiB n≤loB n+1:=by
 unfold loB hiB upF;split<;>split<;>omega
end Trig
namespace Trig
structure Small(x:Int×Int):Prop where
 lo: -1073741824≤x.1
 le:x.1≤x.2
 hi:x.2≤1073741824
def snP(a:Int×Int):Int×Int:=(enLo a.1 a.2,enHi a.1 a.2)
def csP(a:Int×Int):Int×Int:=(enLo (a.1+5400000) (a.2+5400000),enHi (a.1+5400000) (a.2+5400000))
def mulP(x y:Int×Int):Int×Int:=(min (x.1*y.1) (min (x.1*y.2) (min (x.2*y.1) (x.2*y.2)))/1073741824,-(-(max (x.1*y.1) (max (x.1*y.2) (max (x.2*y.1) (x.2*y.2))))/1073741824))
def addP(x y:Int×Int):Int×Int:=(x.1+y.1,x.2+y.2)
theorem en_small(lo hi:Int):Small (enLo lo hi,enHi lo hi):=by
 have h1:=hi_le lo;have h2:=hi_le hi;constructor
 · show-1073741824≤enLo lo hi
   unfold enLo;split<;>omega
 · show enLo lo hi≤enHi lo hi
   unfold enLo enHi;split<;>split<;>omega
 · show enHi lo hi≤1073741824
   unfold enHi;split<;>omega
theorem snP_small(a:Int×Int):Small (snP a):=en_small _ _
theorem csP_small(a:Int×Int):Small (csP a):=en_small _ _
theorem mul_bd{a b:Int}(h0: -1073741824≤a)(h1:a≤1073741824)(g0: -1073741824≤b)(g1:b≤1073741824): -1152921504606846976≤a*b∧a*b≤1152921504606846976:=by
 have e1:(1073741824-a)*(1073741824+b)≥0:=Int.mul_nonneg om_ om_;have e2:(1073741824+a)*(1073741824-b)≥0:=Int.mul_nonneg om_ om_;have e3:(1073741824+a)*(1073741824+b)≥0:=Int.mul_nonneg om_ om_;have e4:(1073741824-a)*(1073741824-b)≥0:=Int.mul_nonneg om_ om_;have f1:(1073741824-a)*(1073741824+b)=1152921504606846976+1073741824*b-1073741824*a-a*b:=by grind
 have f2:(1073741824+a)*(1073741824-b)=1152921504606846976-1073741824*b+1073741824*a-a*b:=by grind
 have f3:(1073741824+a)*(1073741824+b)=1152921504606846976+1073741824*b+1073741824*a+a*b:=by grind
 have f4:(1073741824-a)*(1073741824-b)=1152921504606846976-1073741824*b-1073741824*a+a*b:=by grind
 omega
theorem mulP_small{x y:Int×Int}(hx:Small x)(hy:Small y):Small (mulP x y):=by
 have hx0:=hx.lo;have hx1:=hx.le;have hx2:=hx.hi;have hy0:=hy.lo;have hy1:=hy.le;have hy2:=hy.hi;have m1:=mul_bd (a:=x.1) (b:=y.1) om_ om_ om_ om_;have m2:=mul_bd (a:=x.1) (b:=y.2) om_ om_ om_ om_;have m3:=mul_bd (a:=x.2) (b:=y.1) om_ om_ om_ om_;have m4:=mul_bd (a:=x.2) (b:=y.2) om_ om_ om_ om_;unfold mulP;generalize x.1*y.1=p at*;generalize x.1*y.2=q at*;generalize x.2*y.1=r at*;generalize x.2*y.2=s at*;constructor
 · show-1073741824≤min p (min q (min r s))/1073741824
   omega
 · show min p (min q (min r s))/1073741824≤ -(-(max p (max q (max r s)))/1073741824)
   omega
 · show-(-(max p (max q (max r s)))/1073741824)≤1073741824
   omega
def sinT(lat dec lha:Int×Int):Int×Int:=addP (mulP (snP lat) (snP dec)) (mulP (mulP (csP lat) (csP dec)) (csP lha))
theorem sinT_fv(lat dec lha:Int×Int): -2147483648≤(sinT lat dec lha).1∧(sinT lat dec lha).1≤(sinT lat dec lha).2∧(sinT lat dec lha).2≤2147483648:=by
 have h1:=mulP_small (snP_small lat) (snP_small dec);have h2:=mulP_small (mulP_small (csP_small lat) (csP_small dec)) (csP_small lha);have a:=h1.lo;have b:=h1.le;have c:=h1.hi;have d:=h2.lo;have e:=h2.le;have f:=h2.hi;unfold sinT addP;simp only[];omega
end Trig
end Go.Proofs.YtdeiofgddhbdaaaGreat
namespace Go.Proofs
open Go.Shelf
def Tryz.lays25_ren:Go.Shelf.Ren:=⟨fun|25=>253|n=>n,fun|22=>189|n=>n,fun|n=>n⟩
theorem Tryz.lays25:Go.Proofs.Lays7.n25 Tryz.prog Tryz.lays25_ren:={
 mixed:=by kernel_rfl
 f25:=Tryz.func253.trans (congrArg some (by kernel_rfl))
 t22:=underlying189
 a22:=Tryz.isAgg189
 z22:=Tryz.sizeOf189
 v22:=Tryz.zeroValue189
 i22:=by kernel_rfl}
def Tryz.lays26_ren:Go.Shelf.Ren:=⟨fun|26=>280|n=>n,fun|22=>189|n=>n,fun|n=>n⟩
theorem Tryz.lays26:Go.Proofs.Lays7.n26 Tryz.prog Tryz.lays26_ren:={
 mixed:=by kernel_rfl
 f26:=Tryz.func280.trans (congrArg some (by kernel_rfl))
 t22:=underlying189
 a22:=Tryz.isAgg189
 z22:=Tryz.sizeOf189
 v22:=Tryz.zeroValue189
 i22:=by kernel_rfl}
def Tryz.mul64_ren:Go.Shelf.Ren:=⟨fun|264=>252|n=>n,fun|53=>189|46=>92|n=>n,fun|n=>n⟩
theorem Tryz.mul64:Go.Proofs.Lays.n264 Tryz.prog Tryz.mul64_ren:={
 mixed:=by kernel_rfl
 f264:=Tryz.func252.trans (congrArg some (by kernel_rfl))
 t46:=underlying92
 a46:=Tryz.isAgg92
 z46:=Tryz.sizeOf92
 v46:=Tryz.zeroValue92
 t53:=underlying189
 a53:=Tryz.isAgg189
 z53:=Tryz.sizeOf189
 v53:=Tryz.zeroValue189}
def Tryz.lz64_ren:Go.Shelf.Ren:=⟨fun|134=>281|129=>154|n=>n,fun|53=>189|3=>3|4=>4|46=>92|5=>5|9=>9|n=>n,fun|n=>n⟩
theorem Tryz.lz64:Go.Proofs.Lays.n134 Tryz.prog Tryz.lz64_ren:={
 mixed:=by kernel_rfl
 f129:=Tryz.func154.trans (congrArg some (by kernel_rfl))
 f134:=Tryz.func281.trans (congrArg some (by kernel_rfl))
 t3:=underlying3
 a3:=Tryz.isAgg3
 z3:=Tryz.sizeOf3
 v3:=Tryz.zeroValue3
 t4:=underlying4
 a4:=Tryz.isAgg4
 z4:=Tryz.sizeOf4
 v4:=Tryz.zeroValue4
 t5:=underlying5
 a5:=Tryz.isAgg5
 z5:=Tryz.sizeOf5
 v5:=Tryz.zeroValue5
 t9:=underlying9
 a9:=Tryz.isAgg9
 z9:=Tryz.sizeOf9
 v9:=Tryz.zeroValue9
 t46:=underlying92
 a46:=Tryz.isAgg92
 z46:=Tryz.sizeOf92
 v46:=Tryz.zeroValue92
 t53:=underlying189
 a53:=Tryz.isAgg189
 z53:=Tryz.sizeOf189
 v53:=Tryz.zeroValue189}
end Go.Proofs
namespace Go.Proofs.YtdeiofgddhbdaaaGreat
def pw(l:Int):Int:=2^l.toNat
theorem pw_bd{l:Int}(h1:l≤16):1≤pw l∧pw l≤65536:=by
 unfold pw;have h:l.toNat≤16:=by omega
 have h2:(2:Int)^l.toNat≤2^16:=by exact_mod_cast Nat.pow_le_pow_right (by omega:0<2) h
 have h3:0<(2:Int)^l.toNat:=Int.pow_pos om_;omega
theorem pw_wrap{l:Int}(h1:l≤16):IntKind.i64.wrap (2^l.toNat)=pw l:=by
 have:=pw_bd h1;exact IntWalk.i64_in _ (by unfold pw at this;omega)
theorem pw_wrap2{l:Int}(h1:l≤16):IntKind.i64.wrap (2*2^l.toNat)=2*pw l:=by
 have:=pw_bd h1;exact IntWalk.i64_in _ (by unfold pw at this;omega)
theorem bl_drewN{B:Nat}{a w:World}(h:Below B a w)(n:Nat):Below B a (w.drewN n):=⟨h.os,h.tape,h.output,h.size,h.block⟩
theorem bl_{n:Nat}{w w':World}(h:Below n w w':=by repeat (first|exact Below.refl _ _|assumption|refine bl_drew ?_|refine bl_drewN ?_ _|refine Below.setCell ?_ (by first|assumption|omega|(simp;done)|(simp;omega)) _|refine Below.alloc ?_ (by first|assumption|omega|(simp;done)|(simp;omega)) _)):Below n w w':=h
theorem bl_drew{B:Nat}{a w:World}(h:Below B a w):Below B a w.drew:=⟨h.os,h.tape,h.output,h.size,h.block⟩
theorem bl_alloc(w:World)(o:Obj):Below w.heap.size w (w.alloc o):=(Below.refl _ _).alloc (Nat.le_refl _) _
theorem wp_still_tail{P:Program}{id:Nat}{Q:Exit→Act→World→Prop}{a:Act}{w:World}{l:List Oper}(n:Nat)(hm:P.follows .mixedOrders=true)(hB:Region.lexTailB .any l.toArray n=true)
 (h:wpStill P l.toArray w.drew (fun a'=>wpList P l.toArray Q (l.drop n) a' w.drew) (l.take n) a):(Code.region id l.toArray true).wp P Q a w:=
 wp_region_still_tail n hm hB h
def vldB(l r c:Int):Bool:=decide (0≤l∧l≤16∧0≤r∧r<pw l∧0≤c∧c<2*pw l)
theorem vldB_true{l r c:Int}:vldB l r c=true↔(0≤l∧l≤16∧0≤r∧r<pw l∧0≤c∧c<2*pw l):=by simp[vldB]
theorem valid_any(l r c:Int)(w:World):
 Calls Tryz.prog 107 #[.agg #[vi vk l,vi vk r,vi vk c]] w fun e w'=>e=.returned (.bool (vldB l r c))∧Below w.heap.size w w':=by
 have fin: ∀b:Bool,vldB l r c=b→(Calls Tryz.prog 107 #[.agg #[vi vk l,vi vk r,vi vk c]] w fun e w'=>e=.returned (.bool b)∧Below w.heap.size w w')→
  Calls Tryz.prog 107 #[.agg #[vi vk l,vi vk r,vi vk c]] w fun e w'=>e=.returned (.bool (vldB l r c))∧Below w.heap.size w w':=fun b h hc=>by rw[h];exact hc
 by_cases h0:0≤l
 · by_cases h1:l≤16
   · have e1:=pw_wrap h1
     have e2:=pw_wrap2 h1;by_cases h2:0≤r
     · by_cases h3:r<pw l
       · by_cases h4:0≤c
         · by_cases h5:c<2*pw l
           · refine fin true (by simp[vldB,h0,h1,h2,h3,h4,h5]) ?_
             clear fin;go_enter func107,ntmps107;go_wp2;go_quiet (fail);go_wp2;go_ret;exact⟨rfl,bl_drewN (bl_alloc _ _) _⟩
           · refine fin false (by simp[vldB,h0,h1,h2,h3,h4,h5]) ?_
             clear fin;have hd:=decide_eq_false h5;go_enter func107,ntmps107;go_wp2;go_quiet (fail);go_wp2;go_ret;exact⟨rfl,bl_drewN (bl_alloc _ _) _⟩
         · refine fin false (by simp[vldB,h0,h1,h2,h3,h4]) ?_
           clear fin;have hd:=decide_eq_false h4;go_enter func107,ntmps107;go_wp2;go_quiet (fail);go_wp2;go_ret;exact⟨rfl,bl_drewN (bl_alloc _ _) _⟩
       · refine fin false (by simp[vldB,h0,h1,h2,h3]) ?_
         clear fin;have hd:=decide_eq_false h3;go_enter func107,ntmps107;go_wp2;go_quiet (fail);go_wp2;go_ret;exact⟨rfl,bl_drewN (bl_alloc _ _) _⟩
     · refine fin false (by simp[vldB,h0,h1,h2]) ?_
       clear fin;have hd:=decide_eq_false h2;go_enter func107,ntmps107;go_wp2;go_quiet (fail);go_wp2;go_ret;exact⟨rfl,bl_drewN (bl_alloc _ _) _⟩
   · refine fin false (by simp[vldB,h0,h1]) ?_
     clear fin;have hd:=decide_eq_false h1;go_enter func107,ntmps107;go_wp2;go_quiet (fail);go_wp2;go_ret;exact⟨rfl,bl_drewN (bl_alloc _ _) _⟩
 · refine fin false (by simp[vldB,h0]) ?_
   clear fin;have hd:=decide_eq_false h0;go_enter func107,ntmps107;go_wp2;go_quiet (fail);go_wp2;go_ret;exact⟨rfl,bl_drewN (bl_alloc _ _) _⟩
theorem ret_int{k:IntKind}{a b:Int}(h:a=b):Ending.returned (.int k a)=.returned (.int k b):=by rw[h]
def edg(i l:Int):Int:=i*10800000/pw l
theorem edg_bd{i l:Int}(h1:l≤16)(h2:0≤i)(h3:i≤2*pw l):0≤edg i l∧edg i l≤21600000:=by
 have hp:=pw_bd h1;unfold edg;refine⟨Int.ediv_nonneg om_ om_,?_⟩;have:i*10800000/pw l≤(21600000*pw l)/pw l:=Int.ediv_le_ediv om_ om_;rwa [Int.mul_ediv_cancel _ om_] at this
theorem edge_any(i l:Int)(w:World)(h0:0≤l)(h1:l≤16)(h2:0≤i)(h3:i≤131072):
 Calls Tryz.prog 64 #[vi vk i,vi vk l] w fun e w'=>e=.returned (vi vk (edg i l))∧w'=w:=by
 go_enter func64,ntmps64;go_wp2;go_ret;exact⟨rfl,rfl⟩
theorem bound_any(i l:Int)(w:World)(h0:0≤l)(h1:l≤16)(h2:0≤i)(h3:i≤131072):
 Calls Tryz.prog 129 #[vi vk i,vi vk l] w fun e w'=>e=.returned (vi vk (edg i l))∧w'=w:=by
 go_enter func129,ntmps129;go_wp2;go_ret;exact⟨rfl,rfl⟩
def boxV(l r c:Int):Value:=.agg #[vi vk (edg r l-5400000),vi vk (edg (r+1) l-5400000),vi vk (edg c l-10800000),vi vk (edg (c+1) l-10800000)]
theorem box_any(l r c:Int)(w:World)(hv:vldB l r c=true):
 Calls Tryz.prog 34 #[.agg #[vi vk l,vi vk r,vi vk c]] w fun e w'=>e=.returned (boxV l r c)∧Below w.heap.size w w':=by
 obtain⟨h0,h1,h2,h3,h4,h5⟩:=vldB_true.1 hv;clear hv;have hp:=pw_bd h1;have b1:=edg_bd (i:=r) h1 om_ om_;have b2:=edg_bd (i:=r+1) h1 om_ om_;have b3:=edg_bd (i:=c) h1 om_ om_;have b4:=edg_bd (i:=c+1) h1 om_ om_;have r1:r≤131072:=by omega
 have r2:0≤r+1:=by omega
 have r3:r+1≤131072:=by omega
 have c1:c≤131072:=by omega
 have c2:0≤c+1:=by omega
 have c3:c+1≤131072:=by omega
 have s1:IntKind.i64.wrap (r+1)=r+1:=IntWalk.i64_in _ om_;have s2:IntKind.i64.wrap (c+1)=c+1:=IntWalk.i64_in _ (by clear s1;omega);have s3:IntKind.i64.wrap (edg r l-5400000)=edg r l-5400000:=IntWalk.i64_in _ (by clear s1 s2;omega);have s4:IntKind.i64.wrap (edg (r+1) l-5400000)=edg (r+1) l-5400000:=IntWalk.i64_in _ (by clear s1 s2 s3;omega);have s5:IntKind.i64.wrap (edg c l-10800000)=edg c l-10800000:=IntWalk.i64_in _ (by clear s1 s2 s3 s4;omega);have s6:IntKind.i64.wrap (edg (c+1) l-10800000)=edg (c+1) l-10800000:=IntWalk.i64_in _ (by clear s1 s2 s3 s4 s5;omega);clear b1 b2 b3 b4 hp h3 h5;go_enter func34,ntmps34;go_wp2;refine wp_still_tail 29 (by kernel_rfl) (by kernel_rfl) ?_;simp only[List.take_succ_cons,List.take_zero,List.drop_succ_cons,List.drop_zero];repeat (first|still_step|still_call (edge_any _ _ _ h0 h1 (by assumption) (by assumption)))
 refine wpStill_nil ?_;go_wp2;refine bodyPost_ret (v:=boxV l r c) (by simp[results,results34,go_sem,boxV]) rfl ⟨rfl,?_⟩;repeat (first|exact Below.refl _ _|refine bl_drew ?_|refine bl_drewN ?_ _|refine Below.setCell ?_ (by simp<;>omega) _|refine Below.alloc ?_ (by simp<;>omega) _)
theorem refBox_any(l r c:Int)(w:World)(hv:vldB l r c=true):
 Calls Tryz.prog 87 #[.agg #[vi vk l,vi vk r,vi vk c]] w fun e w'=>e=.returned (boxV l r c)∧Below w.heap.size w w':=by
 obtain⟨h0,h1,h2,h3,h4,h5⟩:=vldB_true.1 hv;clear hv;have hp:=pw_bd h1;have b1:=edg_bd (i:=r) h1 om_ om_;have b2:=edg_bd (i:=r+1) h1 om_ om_;have b3:=edg_bd (i:=c) h1 om_ om_;have b4:=edg_bd (i:=c+1) h1 om_ om_;have r1:r≤131072:=by omega
 have r2:0≤r+1:=by omega
 have r3:r+1≤131072:=by omega
 have c1:c≤131072:=by omega
 have c2:0≤c+1:=by omega
 have c3:c+1≤131072:=by omega
 have s1:IntKind.i64.wrap (r+1)=r+1:=IntWalk.i64_in _ om_;have s2:IntKind.i64.wrap (c+1)=c+1:=IntWalk.i64_in _ (by clear s1;omega);have s3:IntKind.i64.wrap (edg r l-5400000)=edg r l-5400000:=IntWalk.i64_in _ (by clear s1 s2;omega);have s4:IntKind.i64.wrap (edg (r+1) l-5400000)=edg (r+1) l-5400000:=IntWalk.i64_in _ (by clear s1 s2 s3;omega);have s5:IntKind.i64.wrap (edg c l-10800000)=edg c l-10800000:=IntWalk.i64_in _ (by clear s1 s2 s3 s4;omega);have s6:IntKind.i64.wrap (edg (c+1) l-10800000)=edg (c+1) l-10800000:=IntWalk.i64_in _ (by clear s1 s2 s3 s4 s5;omega);clear b1 b2 b3 b4 hp h3 h5;go_enter func87,ntmps87;go_wp2;refine wp_still_tail 29 (by kernel_rfl) (by kernel_rfl) ?_;simp only[List.take_succ_cons,List.take_zero,List.drop_succ_cons,List.drop_zero];repeat (first|still_step|still_call (bound_any _ _ _ h0 h1 (by assumption) (by assumption)))
 refine wpStill_nil ?_;go_wp2;refine bodyPost_ret (v:=boxV l r c) (by simp[results,results87,go_sem,boxV]) rfl ⟨rfl,?_⟩;repeat (first|exact Below.refl _ _|refine bl_drew ?_|refine bl_drewN ?_ _|refine Below.setCell ?_ (by simp<;>omega) _|refine Below.alloc ?_ (by simp<;>omega) _)
theorem bcell{W w1:World}(hb:Below W.heap.size W w1):(∀b o,b<W.heap.size→w1.cell? ⟨b,o,none⟩=W.cell? ⟨b,o,none⟩)∧(∀b o,b<W.heap.size→w1.frozen? ⟨b,o,none⟩=W.frozen? ⟨b,o,none⟩):=
 ⟨fun b o h=>hb.cell (p:=⟨b,o,none⟩) h,fun b o h=>hb.frozen (p:=⟨b,o,none⟩) h⟩
theorem valid_yes(l r c:Int)(hv:vldB l r c=true)(w:World):Calls Tryz.prog 107 #[.agg #[vi vk l,vi vk r,vi vk c]] w fun e w'=>e=.returned (.bool true)∧Below w.heap.size w w':=by
 rw[←hv];exact valid_any l r c w
theorem valid_no(l r c:Int)(hv:vldB l r c=false)(w:World):Calls Tryz.prog 107 #[.agg #[vi vk l,vi vk r,vi vk c]] w fun e w'=>e=.returned (.bool false)∧Below w.heap.size w w':=by
 rw[←hv];exact valid_any l r c w
theorem two_lt{w w1:World}{o1 o2:Obj}(hb:Below ((w.alloc o1).alloc o2).heap.size ((w.alloc o1).alloc o2) w1):w.heap.size<w1.heap.size∧w.heap.size+1<w1.heap.size:=by
 have:=hb.size;simp at this;omega
theorem two_bl{w w1:World}{o1 o2:Obj}(hb:Below ((w.alloc o1).alloc o2).heap.size ((w.alloc o1).alloc o2) w1):Below w.heap.size w w1:=
 (((Below.refl _ _).alloc (Nat.le_refl _) _).alloc (by simp) _).trans (hb.mono (by simp;omega))
theorem one_lt{w w1:World}{o1:Obj}(hb:Below (w.alloc o1).heap.size (w.alloc o1) w1):w.heap.size<w1.heap.size:=by
 have:=hb.size;simp at this;omega
theorem one_bl{w w1:World}{o1:Obj}(hb:Below (w.alloc o1).heap.size (w.alloc o1) w1):Below w.heap.size w w1:=
 ((Below.refl _ _).alloc (Nat.le_refl _) _).trans (hb.mono (by simp))
theorem Box_no(l r c:Int)(w:World)(hv:vldB l r c=false):
 Calls Tryz.prog 75 #[.agg #[vi vk l,vi vk r,vi vk c]] w fun e w'=>e=.returned (.tuple #[.agg #[vi vk 0,vi vk 0,vi vk 0,vi vk 0],vi vk 1])∧Below w.heap.size w w':=by
 have V:=hid (valid_no l r c hv);clear hv;go_enter func75,ntmps75;go_wp2_with (go_at_call 107;refine(V.out _).mono ?_;rintro e w1 ⟨rfl,hb⟩;obtain⟨hc,hf⟩:=bcell hb;obtain⟨hz0,hz1⟩:=two_lt hb);refine bodyPost_ret (v:=.tuple #[.agg #[vi vk 0,vi vk 0,vi vk 0,vi vk 0],vi vk 1]) (by simp[results,results75,go_sem,hc]) rfl ⟨rfl,?_⟩;have hb1:=two_bl hb;exact bl_
theorem Box_yes(l r c:Int)(w:World)(hv:vldB l r c=true):
 Calls Tryz.prog 75 #[.agg #[vi vk l,vi vk r,vi vk c]] w fun e w'=>e=.returned (.tuple #[boxV l r c,vi vk 0])∧Below w.heap.size w w':=by
 have V:=hid (valid_yes l r c hv);have B:=hid (fun w=>box_any l r c w hv);clear hv;unfold boxV at B⊢;go_enter func75,ntmps75;go_wp2_with (first|(go_at_call 107;refine(V.out _).mono ?_;rintro e w1 ⟨rfl,hb⟩;obtain⟨hc,hf⟩:=bcell hb;obtain⟨hz0,hz1⟩:=two_lt hb)|(go_at_call 34;refine(B.out _).mono ?_;rintro e w2 ⟨rfl,hb2⟩;obtain⟨hc2,hf2⟩:=bcell hb2));refine bodyPost_ret (v:=.tuple #[.agg #[vi vk (edg r l-5400000),vi vk (edg (r+1) l-5400000),vi vk (edg c l-10800000),vi vk (edg (c+1) l-10800000)],vi vk 0]) (by simp[results,results75,go_sem,hc,hc2,hz1]) rfl ⟨rfl,?_⟩;have hb1:=(two_bl hb).trans (hb2.mono om_);exact bl_
section
open Go.Shelf
def U64(x:Int):Prop:=0≤x∧x<18446744073709551616
def adS(x y c:Int):Int:=(x+y+c)%18446744073709551616
def adC(x y c:Int):Int:=(x+y+c)/18446744073709551616
def suD(x y b:Int):Int:=(x-y-b)%18446744073709551616
def suB(x y b:Int):Int:=if x<y+b then 1 else 0
def muH(x y:Int):Int:=x*y/18446744073709551616
def muL(x y:Int):Int:=x*y%18446744073709551616
theorem ad_eq(x y c:Int):adS x y c+18446744073709551616*adC x y c=x+y+c:=by unfold adS adC;omega
theorem adS_u(x y c:Int):U64 (adS x y c):=by unfold adS U64;omega
theorem adC_bd{x y c:Int}(hx:U64 x)(hy:U64 y)(h0:0≤c)(h1:c≤1):0≤adC x y c∧adC x y c≤1:=by unfold adC U64 at*;omega
theorem suD_u(x y b:Int):U64 (suD x y b):=by unfold suD U64;omega
theorem suB_bd(x y b:Int):0≤suB x y b∧suB x y b≤1:=by unfold suB;split<;>omega
theorem su_eq{x y b:Int}(hx:U64 x)(hy:U64 y)(h0:0≤b)(h1:b≤1):suD x y b=x-y-b+18446744073709551616*suB x y b:=by
 unfold suD suB U64 at*;split<;>omega
theorem mu_eq(x y:Int):muH x y*18446744073709551616+muL x y=x*y:=by unfold muH muL;omega
theorem muL_u(x y:Int):U64 (muL x y):=by unfold muL U64;omega
theorem mul_lt{x y:Int}(hx:U64 x)(hy:U64 y):0≤x*y∧x*y≤340282366920938463426481119284349108225:=by
 obtain⟨x0,x1⟩:=hx;obtain⟨y0,y1⟩:=hy;have h1:x*y≤18446744073709551615*18446744073709551615:=Int.mul_le_mul om_ om_ y0 om_;exact⟨Int.mul_nonneg x0 y0,om_⟩
theorem muH_bd{x y:Int}(hx:U64 x)(hy:U64 y):0≤muH x y∧muH x y≤18446744073709551614:=by
 have:=mul_lt hx hy;unfold muH;omega
theorem add64(x y c:Int)(hx:U64 x)(hy:U64 y)(h0:0≤c)(h1:c≤1)(w:World):
 (callFunc 253 #[vi vu x,vi vu y,vi vu c]).run Tryz.prog w=.ok (.value (.tuple #[vi vu (adS x y c),vi vu (adC x y c)])) w:=by
 have h:=Any7.bits_Add64 Tryz.lays25 x.toNat y.toNat c.toNat om_ w;change (callFunc 253 _).run _ _=_ at h;have ex:((x.toNat:Nat):Int)=x:=Int.toNat_of_nonneg hx.1;have ey:((y.toNat:Nat):Int)=y:=Int.toNat_of_nonneg hy.1;have ec:((c.toNat:Nat):Int)=c:=Int.toNat_of_nonneg h0;rw[ex,ey,ec] at h;rw[h];obtain⟨x0,x1⟩:=hx;obtain⟨y0,y1⟩:=hy;have e1:(((x.toNat+y.toNat+c.toNat)%18446744073709551616:Nat):Int)=adS x y c:=by unfold adS;omega
 have e2:(((x.toNat+y.toNat+c.toNat)/18446744073709551616:Nat):Int)=adC x y c:=by unfold adC;omega
 rw[e1,e2]
theorem add64_0(x y:Int)(hx:U64 x)(hy:U64 y)(w:World):
 (callFunc 253 #[vi vu x,vi vu y,vi vu 0]).run Tryz.prog w=.ok (.value (.tuple #[vi vu (adS x y 0),vi vu (adC x y 0)])) w:=add64 x y 0 hx hy om_ om_ w
theorem sub64(x y b:Int)(hx:U64 x)(hy:U64 y)(h0:0≤b)(h1:b≤1)(w:World):
 (callFunc 280 #[vi vu x,vi vu y,vi vu b]).run Tryz.prog w=.ok (.value (.tuple #[vi vu (suD x y b),vi vu (suB x y b)])) w:=by
 have h:=Any7.bits_Sub64 Tryz.lays26 x.toNat y.toNat b.toNat om_ w;change (callFunc 280 _).run _ _=_ at h;have ex:((x.toNat:Nat):Int)=x:=Int.toNat_of_nonneg hx.1;have ey:((y.toNat:Nat):Int)=y:=Int.toNat_of_nonneg hy.1;have eb:((b.toNat:Nat):Int)=b:=Int.toNat_of_nonneg h0;rw[ex,ey,eb] at h;rw[h];obtain⟨x0,x1⟩:=hx;obtain⟨y0,y1⟩:=hy;have e1:(((x.toNat+18446744073709551616-y.toNat-b.toNat)%18446744073709551616:Nat):Int)=suD x y b:=by unfold suD;omega
 have e2:((if x.toNat<y.toNat+b.toNat then 1 else 0:Nat):Int)=suB x y b:=by unfold suB;split<;>split<;>omega
 rw[e1,e2]
theorem mul64(x y:Int)(hx:U64 x)(hy:U64 y)(w:World):
 Calls Tryz.prog 252 #[vi vu x,vi vu y] w fun e w'=>e=.returned (.tuple #[vi vu (muH x y),vi vu (muL x y)])∧w'=w:=by
 obtain⟨x0,x1⟩:=hx;obtain⟨y0,y1⟩:=hy;have h:=Any.bits_Mul64 Tryz.mul64 x.toNat y.toNat om_ om_ w;change Calls Tryz.prog 252 _ _ _ at h;have ex:((x.toNat:Nat):Int)=x:=Int.toNat_of_nonneg x0;have ey:((y.toNat:Nat):Int)=y:=Int.toNat_of_nonneg y0;have em:((x.toNat*y.toNat:Nat):Int)=x*y:=by push_cast;rw[ex,ey]
 rw[ex,ey] at h;have e1:((x.toNat*y.toNat/18446744073709551616:Nat):Int)=muH x y:=by unfold muH;rw[←em];omega
 have e2:((x.toNat*y.toNat%18446744073709551616:Nat):Int)=muL x y:=by unfold muL;rw[←em];omega
 rw[e1,e2] at h;exact h
def nv(a0 a1 a2 a3:Int):Int:=a0*6277101735386680763835789423207666416102355444464034512896+a1*340282366920938463463374607431768211456+a2*18446744073709551616+a3
abbrev num4(a0 a1 a2 a3:Int):Value:=.agg #[vi vu a0,vi vu a1,vi vu a2,vi vu a3]
end
end Go.Proofs.YtdeiofgddhbdaaaGreat
