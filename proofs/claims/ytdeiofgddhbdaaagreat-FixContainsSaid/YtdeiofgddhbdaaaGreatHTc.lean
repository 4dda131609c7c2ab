/- Plain: the enclosures of the sine at one angle lie within 1. No program in sight. -/
import Derived.Test.YtdeiofgddhbdaaaGreatHTa
set_option linter.unusedSimpArgs false
set_option linter.unusedVariables false
set_option maxHeartbeats 4000000
set_option maxRecDepth 100000
namespace Go.Proofs.YtdeiofgddhbdaaaGreat
namespace Trig
def pf:Nat→(Nat→Nat)→Nat
 |0,_=>0
 |n+1,L=>L 0+1461501637330902918203684832716283019655932542976*pf n (fun j=>L (j+1))
abbrev E84:Nat:=19342813113834066795298816
def T1:Nat:=5626596257239020119
def T2:Nat:=T1*T1/(2*E84)
def T3:Nat:=T1*T1*T1/(6*E84*E84)
def K0:Nat:=pf 300 (fun _=>E84)
def K1:Nat:=pf 300 (fun j=>T1*j)
def K2:Nat:=pf 300 (fun j=>T2*(j*j))
def K3:Nat:=pf 300 (fun j=>T3*(j*j*j))
def KD:Nat:=pf 300 (fun _=>800*E84)
def KM:Nat:=pf 300 (fun _=>4294967296*E84-1)
def KE:Nat:=pf 300 (fun _=>4294967296*E84-1600*E84)
def KB:Nat:=pf 300 (fun _=>4294967296*E84)
def okN(N:Nat):Bool:=Nat.beq (Nat.land (Nat.land (N+KD) KM+KE) KB) KB
def chk1(s c:Nat):Bool:=
 Nat.ble s 9223372036854775808&&(Nat.ble c 9223372036854775808&&(Nat.ble s (2*c)&&(okN (s*K0+c*K1-(s*K2+c*K3))&&okN (c*K0+s*K3-(s*K1+c*K2)))))
def chk(a:Nat):Bool:=chk1 (quickN a false) (quickN a true)
def chkAll(a:Nat):Nat→Bool
 |0=>true
 |n+1=>chk (a+300*n)&&chkAll a n
abbrev BB:Nat:=1461501637330902918203684832716283019655932542976
theorem BB_eq:BB=2^160:=by decide+kernel
theorem pf_add: ∀(n:Nat) (L M:Nat→Nat),pf n L+pf n M=pf n (fun j=>L j+M j)
 |0,_,_=>rfl
 |n+1,L,M=>by
  have:=pf_add n (fun j=>L (j+1)) (fun j=>M (j+1));simp only[pf];rw[←this];omega
theorem pf_mul(a:Nat): ∀(n:Nat) (L:Nat→Nat),a*pf n L=pf n (fun j=>a*L j)
 |0,_=>by simp[pf]
 |n+1,L=>by
  have:=pf_mul a n (fun j=>L (j+1));simp only[pf];rw[←this,Nat.mul_add,Nat.mul_left_comm]
theorem pf_congr: ∀(n:Nat) (L M:Nat→Nat),(∀j,j<n→L j=M j)→pf n L=pf n M
 |0,_,_,_=>rfl
 |n+1,L,M,h=>by
  simp only[pf];rw[h 0 om_,pf_congr n (fun j=>L (j+1)) (fun j=>M (j+1)) (fun j hj=>h _ om_)]
theorem pf_sub(n:Nat)(L M:Nat→Nat)(h: ∀j,j<n→M j≤L j):pf n L-pf n M=pf n (fun j=>L j-M j):=by
 have e:=pf_add n (fun j=>L j-M j) M;have e2:pf n (fun j=>L j-M j+M j)=pf n L:=pf_congr n _ _ (fun j hj=>by have:=h j hj;omega);rw[e2] at e;omega
theorem pf_inj: ∀(n:Nat) (L M:Nat→Nat),(∀j,L j<BB)→(∀j,M j<BB)→pf n L=pf n M→ ∀j,j<n→L j=M j
 |0,_,_,_,_,_,j,hj=>by omega
 |n+1,L,M,hL,hM,h,j,hj=>by
  simp only[pf] at h;have h0:=hL 0;have h1:=hM 0;have hs:pf n (fun j=>L (j+1))=pf n (fun j=>M (j+1)):=by unfold BB at*;omega
  cases j with
  |zero=>unfold BB at*;omega
  |succ j=>exact pf_inj n (fun j=>L (j+1)) (fun j=>M (j+1)) (fun j=>hL _) (fun j=>hM _) hs j om_
theorem and_two(a b x y:Nat)(ha:a<2^160)(hb:b<2^160):(2^160*x+a) &&& (2^160*y+b)=2^160*(x &&& y)+(a &&& b):=by
 have hab:a &&& b<2^160:=Nat.lt_of_le_of_lt Nat.and_le_left ha;refine Nat.eq_of_testBit_eq fun i=>?_;rw[Nat.testBit_and,Nat.testBit_two_pow_mul_add _ ha,Nat.testBit_two_pow_mul_add _ hb,Nat.testBit_two_pow_mul_add _ hab];split
 · rw[Nat.testBit_and]
 · rw[Nat.testBit_and]
theorem pf_and: ∀(n:Nat) (L M:Nat→Nat),(∀j,L j<BB)→(∀j,M j<BB)→pf n L &&& pf n M=pf n (fun j=>L j &&& M j)
 |0,_,_,_,_=>by simp[pf]
 |n+1,L,M,hL,hM=>by
  have h0:=hL 0;have h1:=hM 0;have ih:=pf_and n (fun j=>L (j+1)) (fun j=>M (j+1)) (fun j=>hL _) (fun j=>hM _);simp only[pf];rw[←ih];have e:=BB_eq;unfold BB at e h0 h1;rw[e] at h0 h1;rw[Nat.add_comm (L 0),Nat.add_comm (M 0),e,and_two _ _ _ _ h0 h1];omega
theorem okN_lanes'(L:Nat→Nat)(hL: ∀j,L j<2^150)(h:okN (pf 300 L)=true): ∀j,j<300→1600*E84≤(L j+800*E84)%(4294967296*E84):=by
 have e0:4294967296*E84=2^116:=by decide+kernel
 have e1:2^150+800*E84<BB:=by decide+kernel
 have e2:2^116<BB:=by decide+kernel
 have e3:1600*E84<2^116:=by decide+kernel
 have e4:2*2^116<BB:=by decide+kernel
 unfold okN at h;rw[Nat.beq_eq] at h;unfold KD KM KE KB at h;rw[pf_add] at h;change (pf 300 (fun j=>L j+800*E84) &&& pf 300 (fun _=>4294967296*E84-1))+pf 300 (fun _=>4294967296*E84-1600*E84) &&& pf 300 (fun _=>4294967296*E84)=pf 300 (fun _=>4294967296*E84) at h;rw[e0] at h⊢;generalize 1600*E84=d at*;generalize 800*E84=d' at*;rw[pf_and _ _ _ (fun j=>by have:=hL j;omega) (fun j=>by omega)] at h;rw[pf_add] at h;have m1: ∀x:Nat,x &&& (2^116-1)=x%2^116:=fun x=>Nat.and_two_pow_sub_one_eq_mod x 116;have m2: ∀x:Nat,x%2^116<2^116:=fun x=>Nat.mod_lt _ (by decide+kernel);simp only[m1] at h;rw[pf_and _ _ _ (fun j=>by have:=m2 (L j+d');omega) (fun j=>by omega)] at h;have h2:=pf_inj 300 _ _ (fun j=>Nat.lt_of_le_of_lt Nat.and_le_right e2) (fun j=>e2) h;intro j hj;have h3:=h2 j hj;have h4:=m2 (L j+d');refine Nat.le_of_not_lt fun hlt=>?_;have h5:(L j+d')%2^116+(2^116-d)<2^116:=by omega
 generalize (L j+d')%2^116+(2^116-d)=z at*;have:=Nat.and_le_left (n:=z) (m:=2^116);omega
theorem okN_lanes(L:Nat→Nat)(hL: ∀j,j<300→L j<2^150)(h:okN (pf 300 L)=true): ∀j,j<300→1600*E84≤(L j+800*E84)%(4294967296*E84):=by
 intro j hj;have e:pf 300 L=pf 300 (fun j=>if j<300 then L j else 0):=pf_congr _ _ _ (fun j hj=>by rw[if_pos hj]);rw[e] at h;have:=okN_lanes' _ (fun j=>by
  by_cases hj:j<300
  · simp only[hj,if_true];exact hL j hj
  · simp only[hj,if_false];decide+kernel) h j hj
 simpa only[hj,if_true] using this
def lnS(s c j:Nat):Nat:=s*E84+c*(T1*j)-(s*(T2*(j*j))+c*(T3*(j*j*j)))
def lnC(s c j:Nat):Nat:=c*E84+s*(T3*(j*j*j))-(s*(T1*j)+c*(T2*(j*j)))
theorem T_eq:T2=818355253076∧T3=79349:=by decide+kernel
theorem chk_parts{s c:Nat}(h:chk1 s c=true): ∀j,j<300→1600*E84≤(lnS s c j+800*E84)%(4294967296*E84)∧1600*E84≤(lnC s c j+800*E84)%(4294967296*E84)∧
 s*(T2*(j*j))+c*(T3*(j*j*j))≤s*E84+c*(T1*j)∧s*(T1*j)+c*(T2*(j*j))≤c*E84+s*(T3*(j*j*j)):=by
 unfold chk1 at h;simp only[Bool.and_eq_true,Nat.ble_eq] at h;obtain⟨hs,hc,hsc,h1,h2⟩:=h;have B: ∀j,j<300→T1*j≤1687978877171706035700∧T2*(j*j)≤73651972776840000∧T3*(j*j*j)≤2142423000000∧T3*(j*j*j)≤T1*j:=by
  intro j hj;have j2:j*j≤300*300:=Nat.mul_le_mul om_ om_;have j3:j*j*j≤300*300*j:=Nat.mul_le_mul_right j j2;rw[T_eq.1,T_eq.2];unfold T1;generalize j*j*j=x at*;generalize j*j=y at*;omega
 have D: ∀j,j<300→s*(T2*(j*j))+c*(T3*(j*j*j))≤s*E84+c*(T1*j)∧s*(T1*j)+c*(T2*(j*j))≤c*E84+s*(T3*(j*j*j))∧s*E84+c*(T1*j)<2^150∧c*E84+s*(T3*(j*j*j))<2^150:=by
  intro j hj;obtain⟨b1,b2,b3,b4⟩:=B j hj;generalize T1*j=a at*;generalize T2*(j*j)=b at*;generalize T3*(j*j*j)=d at*;have k1:=Nat.mul_le_mul_left s b2;have k2:=Nat.mul_le_mul_left c b4;have k3:=Nat.mul_le_mul_left s b1;have k4:=Nat.mul_le_mul_left c b2;have k5:=Nat.mul_le_mul_left c b1;have k6:=Nat.mul_le_mul_left s b3;unfold E84 at*;have e:2^150=1427247692705959881058285969449495136382746624:=by decide+kernel
  rw[e];generalize s*d=sd at*;generalize c*d=cd at*;generalize s*b=sb at*;generalize c*b=cb at*;generalize s*a=sa at*;generalize c*a=ca at*;omega
 have hS:pf 300 (lnS s c)=s*K0+c*K1-(s*K2+c*K3):=by
  unfold K0 K1 K2 K3;rw[pf_mul,pf_mul,pf_mul,pf_mul,pf_add,pf_add,pf_sub _ _ _ (fun j hj=>(D j hj).1)];rfl
 have hC:pf 300 (lnC s c)=c*K0+s*K3-(s*K1+c*K2):=by
  unfold K0 K1 K2 K3;rw[pf_mul,pf_mul,pf_mul,pf_mul,pf_add,pf_add,pf_sub _ _ _ (fun j hj=>(D j hj).2.1)];rfl
 rw[←hS] at h1;rw[←hC] at h2;have r1:=okN_lanes (lnS s c) (fun j hj=>by have:=D j hj;unfold lnS;omega) h1;have r2:=okN_lanes (lnC s c) (fun j hj=>by have:=D j hj;unfold lnC;omega) h2;exact fun j hj=>⟨r1 j hj,r2 j hj,(D j hj).1,(D j hj).2.1⟩
abbrev E:Rat:=19342813113834066795298816
abbrev G:Rat:=9223372036854775808
theorem ln_near{s c S C h u1 u2 u3 v:Rat}(hs:Nr s (S*Y) 75)(hc:Nr c (C*Y) 75)(s0:0≤s)(c0:0≤c)(s1:s≤G)(c1:c≤G)(h0:0≤h)(h1:h≤1/10000)
 (n1:Nr u1 h (54000000/E)) (n2:Nr u2 (h*h/2) (54000000/E)) (n3:Nr u3 (h*h*h/6) (54000000/E)) (hv:Nr v (S+h*C-h*h/2*S-h*h*h/6*C) (162/Y)):
 Nr (s+c*u1-s*u2-c*u3) (v*Y) 320:=by
 have h2:h*h≤1/10000:=by
  have:=Rat.mul_nonneg (a:=h) (b:=1/10000-h) h0 (by grind);grind_linarith
 have h20:0≤h*h:=Rat.mul_nonneg h0 h0;have h3:h*h*h≤1/10000:=by
  have:=Rat.mul_nonneg (a:=h*h) (b:=1/10000-h) h20 (by grind);grind_linarith
 have h30:0≤h*h*h:=Rat.mul_nonneg h20 h0;obtain⟨a1,a2⟩:=nr_mul hc h0 h1 (by grind);obtain⟨b1,b2⟩:=nr_mul hs h20 h2 (by grind);obtain⟨d1,d2⟩:=nr_mul hc h30 h3 (by grind);have ez:G*(54000000/E)≤26:=by decide+kernel
 have e0:(0:Rat)≤54000000/E:=by decide+kernel
 obtain⟨p1,p2⟩:=nr_mono (nr_mul n1 c0 c1 e0) ez;obtain⟨q1,q2⟩:=nr_mono (nr_mul n2 s0 s1 e0) ez;obtain⟨r1,r2⟩:=nr_mono (nr_mul n3 c0 c1 e0) ez;obtain⟨v1,v2⟩:=nr_mul hv (h:=Y) (K:=Y) (by decide+kernel) (by decide+kernel) (by decide+kernel);have ev:Y*(162/Y)=162:=by decide+kernel
 rw[ev] at v1 v2;obtain⟨z1,z2⟩:=hs;clear n1 n2 n3 hc hv ez e0 ev;constructor<;>grind_linarith
theorem ln_near2{s c S C h u1 u2 u3 v:Rat}(hs:Nr s (S*Y) 75)(hc:Nr c (C*Y) 75)(s0:0≤s)(c0:0≤c)(s1:s≤G)(c1:c≤G)(h0:0≤h)(h1:h≤1/10000)
 (n1:Nr u1 h (54000000/E)) (n2:Nr u2 (h*h/2) (54000000/E)) (n3:Nr u3 (h*h*h/6) (54000000/E)) (hv:Nr v (C-h*S-h*h/2*C+h*h*h/6*S) (162/Y)):
 Nr (c-s*u1-c*u2+s*u3) (v*Y) 320:=by
 have h2:h*h≤1/10000:=by
  have:=Rat.mul_nonneg (a:=h) (b:=1/10000-h) h0 (by grind);grind_linarith
 have h20:0≤h*h:=Rat.mul_nonneg h0 h0;have h3:h*h*h≤1/10000:=by
  have:=Rat.mul_nonneg (a:=h*h) (b:=1/10000-h) h20 (by grind);grind_linarith
 have h30:0≤h*h*h:=Rat.mul_nonneg h20 h0;obtain⟨a1,a2⟩:=nr_mul hs h0 h1 (by grind);obtain⟨b1,b2⟩:=nr_mul hc h20 h2 (by grind);obtain⟨d1,d2⟩:=nr_mul hs h30 h3 (by grind);have ez:G*(54000000/E)≤26:=by decide+kernel
 have e0:(0:Rat)≤54000000/E:=by decide+kernel
 obtain⟨p1,p2⟩:=nr_mono (nr_mul n1 s0 s1 e0) ez;obtain⟨q1,q2⟩:=nr_mono (nr_mul n2 c0 c1 e0) ez;obtain⟨r1,r2⟩:=nr_mono (nr_mul n3 s0 s1 e0) ez;obtain⟨v1,v2⟩:=nr_mul hv (h:=Y) (K:=Y) (by decide+kernel) (by decide+kernel) (by decide+kernel);have ev:Y*(162/Y)=162:=by decide+kernel
 rw[ev] at v1 v2;obtain⟨z1,z2⟩:=hc;clear n1 n2 n3 hs hv ez e0 ev;constructor<;>grind_linarith
theorem nr_of{a b e:Rat}(h1:a≤b+e)(h2:b≤a+e):Nr a b e:=by unfold Nr;constructor<;>grind
theorem u1c:Nr ((T1:Rat)/E) th (1/E):=by
 have a:=th_lo;have b:=th_hi;have e1:(T1:Rat)=5626596257239020119:=by decide+kernel
 rw[e1];generalize th=t at*;unfold E;refine nr_of ?_ ?_<;>grind
theorem u2c:Nr ((T2:Rat)/E) (th*th/2) (2/E):=nr_of (by decide+kernel) (by decide+kernel)
theorem u1_near{j:Nat}(hj:j<300):Nr ((T1:Rat)/E*j) (th*j) (54000000/E):=by
 have a:=th_lo;have b:=th_hi;have h:(j:Rat)≤300:=by exact_mod_cast Nat.le_of_lt hj
 have k:=nr_mul (a:=(T1:Rat)/E) (b:=th) (e:=1/E) (h:=j) (K:=300) u1c (c0 j) h (by decide+kernel);rw[Rat.mul_comm,Rat.mul_comm th];exact nr_mono k (by decide+kernel)
theorem u2_near{j:Nat}(hj:j<300):Nr ((T2:Rat)/E*(j*j)) (th*j*(th*j)/2) (54000000/E):=by
 have h:(j:Rat)≤300:=by exact_mod_cast Nat.le_of_lt hj
 have j0:=c0 j;have h2:(j:Rat)*j≤90000:=by
  have:=Rat.mul_nonneg (a:=300-(j:Rat)) (b:=300+(j:Rat)) (by grind) (by grind);grind_linarith
 have k:=nr_mul (a:=(T2:Rat)/E) (b:=th*th/2) (e:=2/E) (h:=(j:Rat)*j) (K:=90000) u2c (Rat.mul_nonneg j0 j0) h2 (by decide+kernel);rw[show th*j*(th*j)/2=(j:Rat)*j*(th*th/2) by grind,Rat.mul_comm (_/_)];exact nr_mono k (by decide+kernel)
theorem u3_near{j:Nat}(hj:j<300):Nr ((T3:Rat)/E*(j*j*j)) (th*j*(th*j)*(th*j)/6) (54000000/E):=by
 have h:(j:Rat)≤300:=by exact_mod_cast Nat.le_of_lt hj
 have j0:=c0 j;have h2:(j:Rat)*j≤90000:=by
  have:=Rat.mul_nonneg (a:=300-(j:Rat)) (b:=300+(j:Rat)) (by grind) (by grind);grind_linarith
 have h3:(j:Rat)*j*j≤27000000:=by
  have a:=Rat.mul_nonneg (a:=90000-(j:Rat)*j) (b:=(j:Rat)) (by grind) (by grind);grind_linarith
 have k:=nr_mul (a:=(T3:Rat)/E) (b:=th*th*th/6) (e:=2/E) (h:=(j:Rat)*j*j) (K:=27000000) ⟨by decide+kernel,by decide+kernel⟩ (Rat.mul_nonneg (Rat.mul_nonneg j0 j0) j0) h3 (by decide+kernel);rw[show th*j*(th*j)*(th*j)/6=(j:Rat)*j*j*(th*th*th/6) by grind,Rat.mul_comm (_/_)];exact nr_mono k (by decide+kernel)
theorem h_bd{j:Nat}(hj:j<300):0≤th*j∧th*j≤873/10000000:=by
 have h:(j:Rat)≤300:=by exact_mod_cast Nat.le_of_lt hj
 have j0:=c0 j;have t0:0≤th:=by decide+kernel
 have t1:th*300≤873/10000000:=by decide+kernel
 refine⟨Rat.mul_nonneg t0 j0,?_⟩;have:=Rat.mul_nonneg (a:=300-(j:Rat)) (b:=th) (by grind) t0;grind_linarith
theorem h4_bd{h:Rat}(h0:0≤h)(h1:h≤873/10000000):h*h*h*h*(3/5)+1/2^65/2≤162/Y:=by
 have k1:=Rat.mul_le_mul_of_nonneg_left h1 h0;have k2:h*h≤873/10000000*(873/10000000):=Rat.le_trans k1 (Rat.mul_le_mul_of_nonneg_right h1 (by decide+kernel));have hh:0≤h*h:=Rat.mul_nonneg h0 h0;have k3:h*h*(h*h)≤873/10000000*(873/10000000)*(873/10000000*(873/10000000)):=Rat.le_trans (Rat.mul_le_mul_of_nonneg_left k2 hh) (Rat.mul_le_mul_of_nonneg_right k2 (by decide+kernel));have e:h*h*h*h=h*h*(h*h):=by grind
 rw[e];generalize h*h*(h*h)=z at*;have k4:(873/10000000*(873/10000000)*(873/10000000*(873/10000000)):Rat)*(3/5)+1/2^65/2≤162/Y:=by decide+kernel
 have k5:=Rat.mul_le_mul_of_nonneg_right k3 (show(0:Rat)≤3/5 by decide+kernel);refine Rat.le_trans ?_ k4;generalize (1:Rat)/2^65/2=w;grind
theorem lnS_near{a j:Nat}(hj:j<300)(ha:a+j≤2700000)(hs:quickN a false≤9223372036854775808)(hc:quickN a true≤9223372036854775808)
 (hle:quickN a false*(T2*(j*j))+quickN a true*(T3*(j*j*j))≤quickN a false*E84+quickN a true*(T1*j)):
 Nr (lnS (quickN a false) (quickN a true) j:Rat) ((quickN (a+j) false:Rat)*E) (395*E):=by
 have q1:=quick_sin (r:=a) om_;have q2:=quick_cos (r:=a) om_;have q3:=quick_sin (r:=a+j) ha;obtain⟨x0,x1⟩:=ang_bd (r:=a) om_;obtain⟨h0,h1⟩:=h_bd hj;have e:((a+j:Nat):Rat)*th=(a:Rat)*th+th*j:=by push_cast;grind
 rw[e] at q3;have hv:=nr_mono (sin_shift x0 h0 (by grind) (by grind)) (h4_bd h0 h1);have H1:(quickN a false:Rat)≤G:=by unfold G;exact_mod_cast hs
 have H2:(quickN a true:Rat)≤G:=by unfold G;exact_mod_cast hc
 have main:=ln_near q1 q2 (c0 _) (c0 _) H1 H2 h0 (by grind) (u1_near hj) (u2_near hj) (u3_near hj) hv;have m2:=nr_trans main (nr_symm q3);have hcast:(lnS (quickN a false) (quickN a true) j:Rat)=((quickN a false:Rat)+quickN a true*((T1:Rat)/E*j)-quickN a false*((T2:Rat)/E*(j*j))-quickN a true*((T3:Rat)/E*(j*j*j)))*E:=by
  have e1:(lnS (quickN a false) (quickN a true) j:Rat)+((quickN a false*(T2*(j*j))+quickN a true*(T3*(j*j*j)):Nat):Rat)=((quickN a false*E84+quickN a true*(T1*j):Nat):Rat):=by
   rw[←Rat.natCast_add];congr 1
   unfold lnS;omega
  push_cast at e1
  have hE:E≠0:=by decide+kernel
  have:((E84:Nat):Rat)=E:=by decide+kernel
  grind
 rw[hcast];unfold Nr at*;constructor<;>grind
theorem lnC_near{a j:Nat}(hj:j<300)(ha:a+j≤2700000)(hs:quickN a false≤9223372036854775808)(hc:quickN a true≤9223372036854775808)
 (hle:quickN a false*(T1*j)+quickN a true*(T2*(j*j))≤quickN a true*E84+quickN a false*(T3*(j*j*j))):
 Nr (lnC (quickN a false) (quickN a true) j:Rat) ((quickN (a+j) true:Rat)*E) (395*E):=by
 have q1:=quick_sin (r:=a) om_;have q2:=quick_cos (r:=a) om_;have q3:=quick_cos (r:=a+j) ha;obtain⟨x0,x1⟩:=ang_bd (r:=a) om_;obtain⟨h0,h1⟩:=h_bd hj;have e:((a+j:Nat):Rat)*th=(a:Rat)*th+th*j:=by push_cast;grind
 rw[e] at q3;have hv:=nr_mono (cos_shift x0 h0 (by grind) (by grind)) (h4_bd h0 h1);have H1:(quickN a false:Rat)≤G:=by unfold G;exact_mod_cast hs
 have H2:(quickN a true:Rat)≤G:=by unfold G;exact_mod_cast hc
 have main:=ln_near2 q1 q2 (c0 _) (c0 _) H1 H2 h0 (by grind) (u1_near hj) (u2_near hj) (u3_near hj) hv;have m2:=nr_trans main (nr_symm q3);have hcast:(lnC (quickN a false) (quickN a true) j:Rat)=((quickN a true:Rat)-quickN a false*((T1:Rat)/E*j)-quickN a true*((T2:Rat)/E*(j*j))+quickN a false*((T3:Rat)/E*(j*j*j)))*E:=by
  have e1:(lnC (quickN a false) (quickN a true) j:Rat)+((quickN a false*(T1*j)+quickN a true*(T2*(j*j)):Nat):Rat)=((quickN a true*E84+quickN a false*(T3*(j*j*j)):Nat):Rat):=by
   rw[←Rat.natCast_add];congr 1
   unfold lnC;omega
  push_cast at e1
  have hE:E≠0:=by decide+kernel
  have:((E84:Nat):Rat)=E:=by decide+kernel
  grind
 rw[hcast];unfold Nr at*;constructor<;>grind
def farB(v:Nat):Bool:=Nat.ble 300 (v%4294967296)&&Nat.ble (v%4294967296) 4294966996
theorem far_of{L v:Nat}(h:Nr (L:Rat) ((v:Rat)*E) (395*E))(hm:1600*E84≤(L+800*E84)%(4294967296*E84)):farB v=true:=by
 have h1:L≤v*E84+395*E84:=by
  have:(L:Rat)≤((v*E84+395*E84:Nat):Rat):=by
   have:=h.1;push_cast
   have e:((E84:Nat):Rat)=E:=by decide+kernel
   grind
  exact_mod_cast this
 have h2:v*E84≤L+395*E84:=by
  have:((v*E84:Nat):Rat)≤((L+395*E84:Nat):Rat):=by
   have:=h.2;push_cast
   have e:((E84:Nat):Rat)=E:=by decide+kernel
   grind
  exact_mod_cast this
 unfold farB;rw[Bool.and_eq_true,Nat.ble_eq,Nat.ble_eq];unfold E84 at*;omega
theorem chk_far{a:Nat}(h:chk a=true)(j:Nat)(hj:j<300)(ha:a+j≤2700000):farB (quickN (a+j) false)=true∧farB (quickN (a+j) true)=true:=by
 obtain⟨p1,p2,p3,p4⟩:=chk_parts h j hj;have hh:=h;unfold chk chk1 at hh;simp only[Bool.and_eq_true,Nat.ble_eq] at hh;exact⟨far_of (lnS_near hj ha hh.1 hh.2.1 p3) p1,far_of (lnC_near hj ha hh.1 hh.2.1 p4) p2⟩
theorem chkAll_far: ∀(n a:Nat),chkAll a n=true→ ∀r,a≤r→r<a+300*n→r≤2700000→farB (quickN r false)=true∧farB (quickN r true)=true
 |0,a,_,r,h1,h2,_=>by omega
 |n+1,a,h,r,h1,h2,h3=>by
  rw[chkAll,Bool.and_eq_true] at h;by_cases hr:r<a+300*n
  · exact chkAll_far n a h.2 r h1 hr h3
  · have:=chk_far h.1 (r-(a+300*n)) om_ om_
    rw[show a+300*n+(r-(a+300*n))=r by omega] at this;exact this
end Trig
namespace Trig
theorem far0:chkAll 1 1000=true:=by decide+kernel
theorem far1:chkAll 300001 1000=true:=by decide+kernel
theorem far2:chkAll 600001 1000=true:=by decide+kernel
theorem far3:chkAll 900001 1000=true:=by decide+kernel
theorem far4:chkAll 1200001 1000=true:=by decide+kernel
theorem far5:chkAll 1500001 999=true:=by decide+kernel
theorem far6:chkAll 1799700 1=true:=by decide+kernel
theorem far7:chkAll 1800001 1000=true:=by decide+kernel
theorem far8:chkAll 2100001 1000=true:=by decide+kernel
theorem far9:chkAll 2400001 1000=true:=by decide+kernel
theorem farC:farB (quickN 1800000 true)=true:=by decide+kernel
theorem far_all{r:Nat}(h1:1≤r)(h2:r≤2700000):farB (quickN r true)=true∧(r≠1800000→farB (quickN r false)=true):=by
 have c0:=chkAll_far _ _ far0 r;have c1:=chkAll_far _ _ far1 r;have c2:=chkAll_far _ _ far2 r;have c3:=chkAll_far _ _ far3 r;have c4:=chkAll_far _ _ far4 r;have c5:=chkAll_far _ _ far5 r;have c6:=chkAll_far _ _ far6 r;have c7:=chkAll_far _ _ far7 r;have c8:=chkAll_far _ _ far8 r;have c9:=chkAll_far _ _ far9 r;by_cases hr:r=1800000
 · subst hr
   exact⟨farC,fun h=>absurd rfl h⟩
 · have:farB (quickN r false)=true∧farB (quickN r true)=true:=by
    by_cases a0:r<300001
    · exact c0 om_ om_ h2
    by_cases a1:r<600001
    · exact c1 om_ om_ h2
    by_cases a2:r<900001
    · exact c2 om_ om_ h2
    by_cases a3:r<1200001
    · exact c3 om_ om_ h2
    by_cases a4:r<1500001
    · exact c4 om_ om_ h2
    by_cases a5:r<1799701
    · exact c5 om_ om_ h2
    by_cases a6:r<1800000
    · exact c6 om_ om_ h2
    by_cases a7:r<2100001
    · exact c7 om_ om_ h2
    by_cases a8:r<2400001
    · exact c8 om_ om_ h2
    · exact c9 om_ om_ h2
   exact⟨this.2,fun _=>this.1⟩
end Trig
namespace Trig
abbrev ZN:Nat:=115792089237316195423570985008687907853269984665640564039457584007913129639936
abbrev Z:Rat:=115792089237316195423570985008687907853269984665640564039457584007913129639936
def MulOk(a b v:Nat):Prop:=v*ZN≤a*b∧a*b≤(v+2)*ZN
theorem mis_bd{x:Rat}(hx:0≤x)(hx1:x≤4/5): ∀(n m:Nat),0≤mis x m n∧mis x m n≤1/2
 |0,m=>by simp[mis];grind
 |n+1,m=>by
  obtain⟨a,b⟩:=mis_bd hx hx1 n (m+2);have y1:x*x≤1:=by
   have:=Rat.mul_nonneg (a:=4/5-x) (b:=4/5+x) (by grind) (by grind);grind_linarith
  have y0:0≤x*x:=Rat.mul_nonneg hx hx;have hm:=c0 m;have hp:2≤((m:Rat)+1)*((m:Rat)+2):=by
   have:=Rat.mul_nonneg hm hm;grind_linarith
  rw[mis];generalize mis x (m+2) n=w at*;generalize x*x=y at*;generalize ((m:Rat)+1)*((m:Rat)+2)=p at*;have hq:y/p*p=y:=Rat.div_mul_cancel (by grind);generalize y/p=q at*;have q0:0≤q:=nn_of_mul (by rw[hq];exact y0) (by grind);have q1:q≤1/2:=by
   have:=Rat.mul_nonneg (a:=q) (b:=p-2) q0 (by grind);grind_linarith
  have k1:=Rat.mul_nonneg (a:=q) (b:=1-w) q0 (by grind);have k2:=Rat.mul_nonneg (a:=q) (b:=w) q0 a;constructor<;>grind
theorem mis_low{x:Rat}(hx:0≤x)(hx1:x≤4/5)(n:Nat):x*x/4≤mis x 0 (n+1):=by
 obtain⟨a,b⟩:=mis_bd hx hx1 n (0+2);have y0:0≤x*x:=Rat.mul_nonneg hx hx;rw[mis];generalize mis x (0+2) n=w at*;have e:(((0:Nat):Rat)+1)*(((0:Nat):Rat)+2)=2:=by decide+kernel
 rw[e];generalize x*x=y at*;have:=Rat.mul_nonneg (a:=y) (b:=1/2-w) y0 (by grind);grind_linarith
theorem less_step{x:Rat}(hx:0≤x)(hx1:x≤4/5){y u p m n:Nat}(hy:Nr (y:Rat) (Z*(x*x)) 4)(hu:Nr (u:Rat) (Z*mis x (m+2) n) 8)(hul:u<ZN)(hp:MulOk (y/((m+1)*(m+2))) u p):
 p≤y/((m+1)*(m+2))∧Nr ((y/((m+1)*(m+2))-p:Nat):Rat) (Z*mis x m (n+1)) 8:=by
 obtain⟨a,b⟩:=mis_bd hx hx1 n (m+2);have y1:x*x≤16/25:=by
  have:=Rat.mul_nonneg (a:=4/5-x) (b:=4/5+x) (by grind) (by grind);grind_linarith
 have y0:0≤x*x:=Rat.mul_nonneg hx hx;have hm:=c0 m;have hd2:2≤(m+1)*(m+2):=Nat.mul_le_mul (by omega:1≤m+1) (by omega:2≤m+2);have e:(((m+1)*(m+2):Nat):Rat)=((m:Rat)+1)*((m:Rat)+2):=by push_cast;rfl
 rw[mis,←e];generalize (m+1)*(m+2)=d at*;have hq1:=Nat.div_add_mod' y d;have hq2:=Nat.mod_lt y (show 0<d by omega);generalize hq:y/d=q at*;obtain⟨p1,p2⟩:=hp;have hpq:p≤q:=by
  have:q*u≤q*ZN:=Nat.mul_le_mul_left q (Nat.le_of_lt hul);exact Nat.le_of_mul_le_mul_right (Nat.le_trans p1 this) (by unfold ZN;omega)
 refine⟨hpq,?_⟩;have ec:((q-p:Nat):Rat)=(q:Rat)-(p:Rat):=by
  have:(q:Rat)=((q-p:Nat):Rat)+(p:Rat):=by rw[←Rat.natCast_add];congr 1;omega
  grind
 rw[ec];have P1:(p:Rat)*Z≤q*u:=by unfold Z;exact_mod_cast p1
 have P2:(q:Rat)*u≤(p+2)*Z:=by unfold Z;exact_mod_cast p2
 have Q1:(q:Rat)*d≤y:=by exact_mod_cast (show q*d≤y by omega)
 have Q2:(y:Rat)≤q*d+d:=by exact_mod_cast (show y≤q*d+d by omega)
 have D:(2:Rat)≤d:=by exact_mod_cast hd2
 have U:(u:Rat)≤Z:=by unfold Z;exact_mod_cast Nat.le_of_lt hul
 have U0:=c0 u;have Q0:=c0 q;generalize mis x (m+2) n=w at*;generalize x*x=t at*;generalize (q:Rat)=q at*;generalize (p:Rat)=p at*;generalize (y:Rat)=y at*;generalize (u:Rat)=u at*;generalize (d:Rat)=d at*;have hr:t/d*d=t:=Rat.div_mul_cancel (by grind);generalize t/d=r at*;have r0:0≤r:=nn_of_mul (by rw[hr];exact y0) (by grind);have r1:r≤8/25:=by
  have:=Rat.mul_nonneg (a:=r) (b:=d-2) r0 (by grind);grind_linarith
 obtain⟨h1,h2⟩:=hy;obtain⟨u1,u2⟩:=hu;have g1:q≤Z*r+2:=by
  refine Rat.le_of_mul_le_mul_right (c:=d) ?_ (by grind);have:=Rat.mul_le_mul_of_nonneg_left (a:=2) (b:=d) (c:=2) D (by grind);unfold Z at*;grind
 have g2:Z*r-3≤q:=by
  refine Rat.le_of_mul_le_mul_right (c:=d) ?_ (by grind);unfold Z at*;grind
 have k1:=Rat.mul_nonneg (a:=r) (b:=8-(u-Z*w)) r0 (by grind);have k2:=Rat.mul_nonneg (a:=r) (b:=8-(Z*w-u)) r0 (by grind);have k3:=Rat.mul_nonneg (a:=Z-u) (b:=Z*r+2-q) (by grind) (by grind);have k4:=Rat.mul_nonneg (a:=Z-u) (b:=q-(Z*r-3)) (by grind) (by grind);constructor
 · refine Rat.le_of_mul_le_mul_right (c:=Z) ?_ (by decide+kernel)
   unfold Z at*;grind_linarith
 · refine Rat.le_of_mul_le_mul_right (c:=Z) ?_ (by decide+kernel)
   unfold Z at*;grind_linarith
def radN(r:Nat):Nat:=PiN*r/10800000
theorem radN_near(r:Nat):Nr (radN r:Rat) (Z*((r:Rat)*th)) 1:=by
 have h1:radN r*10800000≤PiN*r∧PiN*r≤radN r*10800000+10800000:=by
  unfold radN;omega
 have H1:(radN r:Rat)*10800000≤PiN*r:=by exact_mod_cast h1.1
 have H2:(PiN:Rat)*r≤radN r*10800000+10800000:=by exact_mod_cast h1.2
 have e:Z*th=(PiN:Rat)/10800000:=by decide+kernel
 have e2:Z*((r:Rat)*th)=(r:Rat)*(Z*th):=by grind
 rw[e2,e];generalize (PiN:Rat)=p at*;constructor<;>grind
theorem sq_near{x:Rat}(hx:0≤x)(hx1:x≤4/5){X y:Nat}(hX:Nr (X:Rat) (Z*x) 1)(hy:MulOk X X y):Nr (y:Rat) (Z*(x*x)) 4:=by
 obtain⟨p1,p2⟩:=hy;have P1:(y:Rat)*Z≤X*X:=by unfold Z;exact_mod_cast p1
 have P2:(X:Rat)*X≤(y+2)*Z:=by unfold Z;exact_mod_cast p2
 have X0:=c0 X;generalize (X:Rat)=X at*;generalize (y:Rat)=y at*;obtain⟨a,b⟩:=hX;have k1:=Rat.mul_nonneg (a:=X+Z*x) (b:=1-(X-Z*x)) (by unfold Z at*;grind) (by grind);have k2:=Rat.mul_nonneg (a:=X+Z*x) (b:=1-(Z*x-X)) (by unfold Z at*;grind) (by grind);constructor
 · refine Rat.le_of_mul_le_mul_right (c:=Z) ?_ (by decide+kernel)
   unfold Z at*;grind_linarith
 · refine Rat.le_of_mul_le_mul_right (c:=Z) ?_ (by decide+kernel)
   unfold Z at*;grind_linarith
theorem sin_near{x:Rat}(hx:0≤x)(hx1:x≤4/5){X u p:Nat}(hX:Nr (X:Rat) (Z*x) 1)(hu:Nr (u:Rat) (Z*mis x 1 34) 8)(hul:u<ZN)(hp:MulOk X u p):p≤X∧Nr ((X-p:Nat):Rat) (Z*sinP x) 16:=by
 obtain⟨w0,w1⟩:=mis_bd hx hx1 34 1;have es:sinP x=x*(1-mis x 1 34):=by
  rw[sin_alt,alt_mis];have:mo x 1=x:=by simp[mo];grind
  rw[this]
 rw[es];obtain⟨p1,p2⟩:=hp;have hpq:p≤X:=by
  have:X*u≤X*ZN:=Nat.mul_le_mul_left X (Nat.le_of_lt hul);exact Nat.le_of_mul_le_mul_right (Nat.le_trans p1 this) (by unfold ZN;omega)
 refine⟨hpq,?_⟩;have ec:((X-p:Nat):Rat)=(X:Rat)-(p:Rat):=by
  have:(X:Rat)=((X-p:Nat):Rat)+(p:Rat):=by rw[←Rat.natCast_add];congr 1;omega
  grind
 rw[ec];have P1:(p:Rat)*Z≤X*u:=by unfold Z;exact_mod_cast p1
 have P2:(X:Rat)*u≤(p+2)*Z:=by unfold Z;exact_mod_cast p2
 have U:(u:Rat)≤Z:=by unfold Z;exact_mod_cast Nat.le_of_lt hul
 have U0:=c0 u;have X0:=c0 X;generalize mis x 1 34=w at*;generalize (X:Rat)=X at*;generalize (p:Rat)=p at*;generalize (u:Rat)=u at*;obtain⟨a,b⟩:=hX;obtain⟨u1,u2⟩:=hu;have k1:=Rat.mul_nonneg (a:=x) (b:=8-(u-Z*w)) hx (by grind);have k2:=Rat.mul_nonneg (a:=x) (b:=8-(Z*w-u)) hx (by grind);have k3:=Rat.mul_nonneg (a:=Z-u) (b:=1-(X-Z*x)) (by grind) (by grind);have k4:=Rat.mul_nonneg (a:=Z-u) (b:=1-(Z*x-X)) (by grind) (by grind);constructor
 · refine Rat.le_of_mul_le_mul_right (c:=Z) ?_ (by decide+kernel)
   unfold Z at*;grind_linarith
 · refine Rat.le_of_mul_le_mul_right (c:=Z) ?_ (by decide+kernel)
   unfold Z at*;grind_linarith
theorem cos_near{x:Rat}(hx:1/2^22≤x)(hx1:x≤4/5){u:Nat}(hu:Nr (u:Rat) (Z*mis x 0 34) 8)(hul:u<ZN):0<u∧Nr ((ZN-u:Nat):Rat) (Z*cosP x) 16:=by
 have hx0:0≤x:=Rat.le_trans (by decide+kernel) hx;have hl:=mis_low hx0 hx1 33;have es:cosP x=1-mis x 0 34:=by
  rw[cos_alt,alt_mis];have:mo x 0=1:=by simp[mo]
  rw[this];grind
 rw[es];have hy:1/2^22*(1/2^22)≤x*x:=Rat.le_trans (Rat.mul_le_mul_of_nonneg_left hx (by decide+kernel)) (Rat.mul_le_mul_of_nonneg_right hx hx0);obtain⟨u1,u2⟩:=hu;rw[show 33+1=34 from rfl] at hl;have hpos:0<u:=by
  have:(0:Rat)<(u:Rat):=by
   generalize mis x 0 34=w at*;generalize x*x=y at*;have hz:(100:Rat)≤Z*(1/2^22*(1/2^22)/4):=by decide+kernel
   generalize (1:Rat)/2^22*(1/2^22)=k at*;unfold Z at*;grind
  exact_mod_cast this
 refine⟨hpos,?_⟩;have ec:((ZN-u:Nat):Rat)=Z-(u:Rat):=by
  have:((ZN:Nat):Rat)=((ZN-u:Nat):Rat)+(u:Rat):=by rw[←Rat.natCast_add];congr 1;omega
  have e:((ZN:Nat):Rat)=Z:=by decide+kernel
  grind
 rw[ec];generalize mis x 0 34=w at*;constructor<;>grind
theorem same_floor{s v:Nat}{P:Rat}(hs:Nr (s:Rat) (Z*P) 16)(hv:Nr (v:Rat) (P*Y) 75)(hf:farB v=true):s/107839786668602559178668060348078522694548577690162289924414440996864=v/4294967296:=by
 unfold farB at hf;rw[Bool.and_eq_true,Nat.ble_eq,Nat.ble_eq] at hf;obtain⟨a,b⟩:=hs;obtain⟨c,d⟩:=hv;have e:Z=25108406941546723055343157692830665664409421777856138051584*Y:=by decide+kernel
 have k1:(s:Rat)≤((v*25108406941546723055343157692830665664409421777856138051584+76*25108406941546723055343157692830665664409421777856138051584:Nat):Rat):=by
  push_cast
  unfold Z Y at*;grind
 have k2:((v*25108406941546723055343157692830665664409421777856138051584:Nat):Rat)≤((s+76*25108406941546723055343157692830665664409421777856138051584:Nat):Rat):=by
  push_cast
  unfold Z Y at*;grind
 have k1':s≤v*25108406941546723055343157692830665664409421777856138051584+76*25108406941546723055343157692830665664409421777856138051584:=by exact_mod_cast k1
 have k2':v*25108406941546723055343157692830665664409421777856138051584≤s+76*25108406941546723055343157692830665664409421777856138051584:=by exact_mod_cast k2
 clear k1 k2 a b c d e;omega
end Trig
namespace Trig
def exN(n:Int):Bool:=decide (n=0)||decide (n=1800000)||decide (n=5400000)
def sF(n:Int):Int:=
 if n=0 then 0 else if n=1800000 then 536870912 else if n=5400000 then 1073741824
 else if 2*n≤5400000 then((quickN n.toNat false/4294967296:Nat):Int) else((quickN (5400000-n).toNat true/4294967296:Nat):Int)
def qrt(n:Int):Int:=if n%21600000>10800000 then(if n%21600000-10800000>5400000 then 10800000-(n%21600000-10800000) else n%21600000-10800000) else(if n%21600000>5400000 then 10800000-n%21600000 else n%21600000)
def sth(n:Int):Bool:=decide (n%21600000>10800000)
def upF(n:Int):Int:=if exN n=true then sF n else sF n+1
def loB(n:Int):Int:=if sth n=true then-upF (qrt n) else sF (qrt n)
def hiB(n:Int):Int:=if sth n=true then-sF (qrt n) else upF (qrt n)
def rq(n:Int):Int:=n%21600000/5400000
def rr(n:Int):Int:=if n%21600000%5400000>2700000 then 5400000-n%21600000%5400000 else n%21600000%5400000
def rc(n:Int):Bool:=if n%21600000%5400000>2700000 then !decide (rq n%2=1) else decide (rq n%2=1)
def qv(n:Int):Int:=if rq n≥2 then-(quickN (rr n).toNat (rc n):Int) else(quickN (rr n).toNat (rc n):Int)
def rEx(n:Int):Bool:=decide (n%21600000%1800000=0)&& !(decide (n%21600000/1800000%6=2)||decide (n%21600000/1800000%6=4))
def rVal(n:Int):Int:=if n%21600000/1800000=0 then 0 else if n%21600000/1800000=1 then 536870912 else if n%21600000/1800000=3 then 1073741824 else if n%21600000/1800000=5 then 536870912 else if n%21600000/1800000=6 then 0 else if n%21600000/1800000=7 then-536870912 else if n%21600000/1800000=9 then-1073741824 else-536870912
theorem same45:quickN 2700000 true/4294967296=quickN 2700000 false/4294967296:=by decide+kernel
theorem qrt_bd(n:Int):0≤qrt n∧qrt n≤5400000:=by unfold qrt;omega
theorem ex_same(n:Int):rEx n=exN (qrt n):=by
 unfold rEx exN qrt;rw[Bool.eq_iff_iff];simp only[Bool.and_eq_true,Bool.or_eq_true,Bool.not_eq_true',Bool.or_eq_false_iff,decide_eq_true_eq,decide_eq_false_iff_not];omega
theorem exact_same(n:Int)(h:rEx n=true):rVal n=loB n∧hiB n=loB n:=by
 have h2:=h;rw[ex_same] at h;unfold loB hiB upF;rw[h];simp only[if_true];unfold rEx at h2;simp only[Bool.and_eq_true,Bool.not_eq_true',Bool.or_eq_false_iff,decide_eq_true_eq,decide_eq_false_iff_not] at h2;unfold exN at h;simp only[Bool.or_eq_true,decide_eq_true_eq] at h;have hs:sF (qrt n)=if qrt n=0 then 0 else if qrt n=1800000 then 536870912 else 1073741824:=by
  unfold sF;rcases h with (h|h)|h<;>rw[h]<;>simp
 rw[hs];refine⟨?_,trivial⟩;have hm:n%21600000=1800000*(n%21600000/1800000):=by omega
 have hk:0≤n%21600000/1800000∧n%21600000/1800000≤11:=by omega
 unfold rVal sth qrt;simp only[decide_eq_true_eq];generalize n%21600000/1800000=k at*;generalize n%21600000=m at*;subst hm;have:k=0∨k=1∨k=2∨k=3∨k=4∨k=5∨k=6∨k=7∨k=8∨k=9∨k=10∨k=11:=by omega
 rcases this with rfl|rfl|rfl|rfl|rfl|rfl|rfl|rfl|rfl|rfl|rfl|rfl<;>first|(exfalso;omega)|decide
theorem quick_far(n:Int)(h:rEx n=false):farB (quickN (rr n).toNat (rc n))=true∧qv n/4294967296=loB n∧hiB n=loB n+1:=by
 have h2:=h;rw[ex_same] at h;have hr:0≤rr n∧rr n≤2700000:=by unfold rr;omega
 have hf:farB (quickN (rr n).toNat (rc n))=true:=by
  have h1:1≤(rr n).toNat:=by
   unfold exN at h;simp only[Bool.or_eq_false_iff,decide_eq_false_iff_not] at h;unfold qrt at h;unfold rr;omega
  have hh:=far_all h1 (show(rr n).toNat≤2700000 by omega);cases hc:rc n with
  |true=>exact hh.1
  |false=>
   refine hh.2 fun he=>?_;unfold exN qrt at h;simp only[Bool.or_eq_false_iff,decide_eq_false_iff_not] at h;unfold rc rq at hc;unfold rr at he;by_cases hm:n%21600000%5400000>2700000
   · rw[if_pos hm] at hc he
     simp only[Bool.not_eq_false',decide_eq_true_eq] at hc;omega
   · rw[if_neg hm] at hc he
     simp only[decide_eq_false_iff_not] at hc;omega
 refine⟨hf,?_⟩;have hq:=qrt_bd n;have hs:sF (qrt n)=((quickN (rr n).toNat (rc n)/4294967296:Nat):Int):=by
  unfold exN at h;simp only[Bool.or_eq_false_iff,decide_eq_false_iff_not] at h;unfold sF;rw[if_neg h.1.1,if_neg h.1.2,if_neg h.2];by_cases h45:n%21600000%5400000=2700000
  · have e1:rr n=2700000:=by unfold rr;omega
    have e2:qrt n=2700000:=by unfold qrt;omega
    rw[e1,e2,if_pos om_];show((quickN 2700000 false/4294967296:Nat):Int)=((quickN 2700000 (rc n)/4294967296:Nat):Int)
    cases rc n with
    |true=>rw[same45]
    |false=>rfl
  · have hc:(2*qrt n≤5400000∧rc n=false∧rr n=qrt n)∨(¬2*qrt n≤5400000∧rc n=true∧rr n=5400000-qrt n):=by
     unfold rc rr rq qrt;by_cases hm:n%21600000%5400000>2700000
     · rw[if_pos hm,if_pos hm]
       simp only[Bool.not_eq_false',Bool.not_eq_true',decide_eq_true_eq,decide_eq_false_iff_not];omega
     · rw[if_neg hm,if_neg hm]
       simp only[decide_eq_true_eq,decide_eq_false_iff_not];omega
    rcases hc with ⟨a,b,c⟩|⟨a,b,c⟩
    · rw[if_pos a,b,c]
    · rw[if_neg a,b,c]
 unfold loB hiB upF;rw[h,hs];unfold farB at hf;rw[Bool.and_eq_true,Nat.ble_eq,Nat.ble_eq] at hf;have hsq:sth n=decide (rq n≥2):=by
  unfold exN qrt at h;simp only[Bool.or_eq_false_iff,decide_eq_false_iff_not] at h;unfold sth rq;rw[decide_eq_decide];omega
 unfold qv;rw[hsq];generalize quickN (rr n).toNat (rc n)=v at*;by_cases hqq:rq n≥2
 · simp only[hqq,decide_true,if_true]
   constructor
   · simp
     omega
   · simp
     omega
 · simp only[hqq,decide_false,if_false]
   simp
end Trig
namespace Trig
theorem qgo_le{sq:Nat}(h:sq≤4611686018427387904): ∀(f t m:Nat),qgo sq f t (m+1)≤t
 |0,t,m=>by simp[qgo]
 |f+1,t,m=>by
  rw[qgo];split
  · omega
  · have h1:=tm_le (t:=t) (m:=m) h
    have h2:=tm_le (t:=tm t sq (m+1)) (m:=m+2) h;have h3:=qgo_le h f (tm (tm t sq (m+1)) sq (m+2+1)) (m+4);rw[show m+1+2=m+2+1 by omega,show m+1+4=m+4+1 by omega];omega
theorem quickN_le{r:Nat}(h:r≤2700000)(b:Bool):quickN r b≤4611686018427387904:=by
 obtain⟨x0,x1⟩:=ang_bd h;have hl:=sq_le x0 x1 (sqN_err h);have ha:arcN r≤4611686018427387904:=by
  unfold arcN;omega
 unfold quickN;cases b with
 |true=>
  rw[if_pos rfl];exact qgo_le om_ 17 _ 0
 |false=>
  rw[if_neg (by simp)];exact Nat.le_trans (qgo_le om_ 17 _ 1) ha
theorem sF_bd{q:Int}(h0:0≤q)(h1:q≤5400000):0≤sF q∧sF q≤1073741824:=by
 unfold sF;split
 · omega
 split
 · omega
 split
 · omega
 split
 · have:=quickN_le (r:=q.toNat) om_ false
   omega
 · have:=quickN_le (r:=(5400000-q).toNat) om_ true
   omega
theorem lo_bd(n:Int): -1073741825≤loB n∧loB n≤1073741824∧ -1073741824≤hiB n∧hiB n≤1073741825:=by
 have hq:=qrt_bd n;have hs:=sF_bd hq.1 hq.2;unfold loB hiB upF;split<;>split<;>omega
def metB(lo hi n:Int):Bool:=decide ((n-lo)%21600000≤hi-lo)
def enLo(lo hi:Int):Int:=if metB lo hi 16200000=true then-1073741824 else min (loB lo) (loB hi)
def enHi(lo hi:Int):Int:=if metB lo hi 5400000=true then 1073741824 else max (hiB lo) (hiB hi)
end Trig
namespace Trig
theorem upF_le{q:Int}(h0:0≤q)(h1:q≤5400000):upF q≤1073741824:=by
 unfold upF;split
 · exact(sF_bd h0 h1).2
 · rename_i hx
   have hq:qrt q=q:=by unfold qrt;omega
   have hr:rEx q=false:=by rw[ex_same,hq];simpa using hx
   obtain⟨hf,hv,-⟩:=quick_far q hr;have hs:sth q=false:=by unfold sth;rw[decide_eq_false_iff_not];omega
   have hl:loB q=sF q:=by unfold loB;rw[hs,hq];simp
   have hrq: ¬rq q≥2:=by unfold rq;omega
   have hqv:qv q=(quickN (rr q).toNat (rc q):Int):=by unfold qv;rw[if_neg hrq]
   have hrr:(rr q).toNat≤2700000:=by unfold rr;omega
   have hle:=quickN_le hrr (rc q);rw[hl,hqv] at hv;generalize quickN (rr q).toNat (rc q)=Q at*;have hne:Q≠4611686018427387904:=by
    intro e;rw[e] at hf;revert hf;decide
   omega
theorem hi_le(n:Int): -1073741824≤loB n∧loB n≤1073741824∧ -1073741824≤hiB n∧hiB n≤1073741824∧loB n≤hiB n:=by
 have hq:=qrt_bd n;have hs:=sF_bd hq.1 hq.2;have hu:=upF_le hq.1 hq.2;have hw:sF (qrt n)≤upF (qrt n):=by unfold upF;split<;>omega
 unfold loB hiB;split<;>omega
end Trig
end Go.Proofs.YtdeiofgddhbdaaaGreat
