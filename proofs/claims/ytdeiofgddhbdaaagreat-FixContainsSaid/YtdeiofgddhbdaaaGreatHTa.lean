/- Plain: alternating sums of the series, the reference's quick sine, and its error. No program in sight. -/
set_option linter.unusedSimpArgs false
set_option linter.unusedVariables false
set_option maxHeartbeats 4000000
set_option maxRecDepth 100000
namespace Go.Proofs.YtdeiofgddhbdaaaGreat
theorem om_{p:Prop}(h:p:=by omega):p:=h
theorem dc_{p:Prop}(h:p:=by decide):p:=h
theorem so_{p:Prop}(h:p:=by simp only[];omega):p:=h
namespace Trig
def Sm(f:Nat→Rat):Nat→Rat
 |0=>0
 |n+1=>Sm f n+f n
def mo(x:Rat):Nat→Rat
 |0=>1
 |i+1=>mo x i*x/((i:Rat)+1)
def sg:Nat→Rat
 |0=>1
 |1=>0
 |n+2=> -sg n
def Fs(o M:Nat)(x:Rat):Rat:=Sm (fun i=>sg (i+o)*mo x i) M
def Nr(a b e:Rat):Prop:=a-b≤e∧b-a≤e
theorem c0(i:Nat):(0:Rat)≤(i:Rat):=by exact_mod_cast Nat.zero_le i
theorem mo_succ(x:Rat)(i:Nat):mo x (i+1)*((i:Rat)+1)=mo x i*x:=by
 have:=c0 i;rw[mo,Rat.div_mul_cancel (by grind)]
theorem nn_of_mul{a b:Rat}(h:0≤a*b)(hb:0<b):0≤a:=Rat.le_of_mul_le_mul_right (c:=b) (by simpa using h) hb
theorem mo_nonneg{x:Rat}(h:0≤x): ∀i,0≤mo x i
 |0=>by simp[mo];decide
 |i+1=>by
  have h1:=mo_nonneg h i;have h2:=c0 i;have h3:=mo_succ x i;have h4:0≤mo x i*x:=Rat.mul_nonneg h1 h;rw[←h3] at h4;exact nn_of_mul h4 (by grind)
theorem mo_half{x:Rat}(h:0≤x)(h1:x≤1)(i:Nat):mo x (i+1)≤mo x i∧(1≤i→2*mo x (i+1)≤mo x i):=by
 have h0:=mo_nonneg h i;have h2:=mo_nonneg h (i+1);have h3:=mo_succ x i;have h4:0≤mo x i*(1-x):=Rat.mul_nonneg h0 (by grind);have hi:=c0 i;have h5:0≤mo x (i+1)*(i:Rat):=Rat.mul_nonneg h2 hi;refine⟨by grind,fun hi1=>?_⟩;have h6:(1:Rat)≤(i:Rat):=by exact_mod_cast hi1
 have h7:0≤mo x (i+1)*((i:Rat)-1):=Rat.mul_nonneg h2 (by grind);grind
theorem mo_le1{x:Rat}(h:0≤x)(h1:x≤1): ∀i,mo x i≤1
 |0=>by simp[mo]
 |i+1=>Rat.le_trans (mo_half h h1 i).1 (mo_le1 h h1 i)
def mk(x:Rat)(k i:Nat):Rat:=if i<k then 0 else mo x (i-k)
theorem mk_zero(x:Rat)(i:Nat):mk x 0 i=mo x i:=by simp[mk]
theorem mk_succ(x:Rat)(k i:Nat):mk x (k+1) (i+1)=mk x k i:=by
 unfold mk;by_cases h:i<k
 · rw[if_pos h,if_pos om_]
 · rw[if_neg h,if_neg om_];congr 1;omega
theorem mk_first(x:Rat)(k:Nat):mk x (k+1) 0=0:=by simp[mk]
theorem mk_bd{x:Rat}(h:0≤x)(h1:x≤1)(k i:Nat):0≤mk x k i∧mk x k i≤1:=by
 unfold mk;split
 · exact⟨dc_,dc_⟩
 · exact⟨mo_nonneg h _,mo_le1 h h1 _⟩
theorem mk_x(x:Rat)(k i:Nat):mk x (k+1) i*x=((i:Rat)-(k:Rat))*mk x k i:=by
 unfold mk;by_cases h:i<k
 · rw[if_pos h,if_pos om_];grind
 · by_cases h2:i=k
   · subst h2
     rw[if_pos om_];grind
   · obtain⟨j,rfl⟩: ∃j,i=k+1+j:=⟨i-(k+1),om_⟩
     rw[if_neg om_,if_neg om_];rw[show k+1+j-(k+1)=j by omega,show k+1+j-k=j+1 by omega];have:=mo_succ x j;push_cast
     grind
def be:Nat→Rat
 |0=>0
 |i+1=>(be i+(if i<3 then 0 else 1/6))/((i:Rat)+1)
def Ti(x h:Rat)(i:Nat):Rat:=mk x 0 i+h*mk x 1 i+h*h/2*mk x 2 i+h*h*h/6*mk x 3 i
theorem be_nonneg: ∀i,0≤be i
 |0=>by simp[be]
 |i+1=>by
  have h:=be_nonneg i;have h2:=c0 i;have h3:be (i+1)*((i:Rat)+1)=be i+(if i<3 then 0 else 1/6):=by rw[be,Rat.div_mul_cancel (by grind)]
  refine nn_of_mul (b:=(i:Rat)+1) ?_ (by grind);rw[h3];split<;>grind
theorem step_fin{X m m' T T' H b b' s k I:Rat}(e1:m'*I=m*X)(hT:X*T=I*T'+H/6*k)(hb:H*(b'*I)=H*(b+s))(hI:0<I)
 (k1:0≤X*(H*b-(m-T))) (k2:0≤X*(H*b-(T-m))) (k3:0≤(1-X)*(H*b)) (k4:0≤H*(s-k/6)) (k5:0≤H*k):Nr m' T' (H*b'):=by
 constructor
 · refine Rat.le_of_mul_le_mul_right (c:=I) ?_ hI
   grind_linarith
 · refine Rat.le_of_mul_le_mul_right (c:=I) ?_ hI
   grind_linarith
theorem Ti_succ(x h:Rat)(i:Nat):(x+h)*Ti x h i=((i:Rat)+1)*Ti x h (i+1)+h*h*h*h/6*mk x 3 i:=by
 have a1:=mk_succ x 0 i;have a2:=mk_succ x 1 i;have a3:=mk_succ x 2 i;have x0:=mk_x x 0 i;have x1:=mk_x x 1 i;have x2:=mk_x x 2 i;have z0:mk x 0 (i+1)*((i:Rat)+1)=mk x 0 i*x:=by rw[mk_zero,mk_zero];exact mo_succ x i
 unfold Ti;rw[a1,a2,a3];push_cast at x0 x1 x2
 grind
theorem shift_mo{x h:Rat}(hx:0≤x)(hh:0≤h)(h1:x+h≤1): ∀i,Nr (mo (x+h) i) (Ti x h i) (h*h*h*h*be i)
 |0=>by
  simp[Nr,Ti,mk,mo,be];grind
 |i+1=>by
  obtain⟨i1,i2⟩:=shift_mo hx hh h1 i;have hi:=c0 i;have hb:be (i+1)*((i:Rat)+1)=be i+(if i<3 then 0 else 1/6):=by rw[be,Rat.div_mul_cancel (by grind)]
  have m3:mk x 3 i/6≤(if i<3 then 0 else 1/6):=by
   have:=(mk_bd hx (by grind) 3 i).2;by_cases h3:i<3
   · rw[if_pos h3,mk,if_pos h3];grind
   · rw[if_neg h3];grind
  have m0:=(mk_bd hx (by grind) 3 i).1;have hH:0≤h*h*h*h:=Rat.mul_nonneg (Rat.mul_nonneg (Rat.mul_nonneg hh hh) hh) hh;have hbn:=be_nonneg i;refine step_fin (mo_succ (x+h) i) (Ti_succ x h i) (by rw[hb]) (by grind) (Rat.mul_nonneg (by grind) (by grind)) (Rat.mul_nonneg (by grind) (by grind)) (Rat.mul_nonneg (by grind) (Rat.mul_nonneg hH hbn)) (Rat.mul_nonneg hH ?_) (Rat.mul_nonneg hH m0);grind_linarith
theorem Sm_front(f:Nat→Rat): ∀n,Sm f (n+1)=f 0+Sm (fun i=>f (i+1)) n
 |0=>by simp[Sm];grind
 |n+1=>by rw[Sm,Sm_front f n];simp only[Sm];grind
theorem Sm_nr{a b e:Nat→Rat}(h: ∀i,Nr (a i) (b i) (e i)): ∀n,Nr (Sm a n) (Sm b n) (Sm e n)
 |0=>by simp[Sm,Nr];grind
 |n+1=>by
  have h1:=Sm_nr h n;have h2:=h n;unfold Nr at*;simp only[Sm];grind
theorem Sm_congr{a b:Nat→Rat}(h: ∀i,a i=b i)(n:Nat):Sm a n=Sm b n:=by rw[show a=b from funext h]
theorem sg_two(i:Nat):sg (i+2)= -sg i:=by rw[sg]
theorem sg_bd: ∀i,sg i=0∨sg i=1∨sg i= -1
 |0=>.inr (.inl rfl)
 |1=>.inl rfl
 |n+2=>by
  rw[sg_two];rcases sg_bd n with h|h|h<;>rw[h]<;>simp
def Gk(x:Rat)(k o M:Nat):Rat:=Sm (fun i=>sg (i+o)*mk x k i) M
theorem Gk_eq(x:Rat): ∀k o M,Gk x k o M=Fs (o+k) (M-k) x
 |0,o,M=>by
  unfold Gk Fs;exact Sm_congr (fun i=>by rw[mk_zero];simp) _
 |k+1,o,0=>by simp[Gk,Fs,Sm]
 |k+1,o,M+1=>by
  have e:Gk x (k+1) o (M+1)=Gk x k (o+1) M:=by
   unfold Gk;rw[Sm_front,mk_first];have:=Sm_congr (a:=fun i=>sg (i+1+o)*mk x (k+1) (i+1)) (b:=fun i=>sg (i+(o+1))*mk x k i) (fun i=>by rw[mk_succ,show i+1+o=i+(o+1) by omega]) M;rw[this];grind
  rw[e,Gk_eq x k (o+1) M,show o+1+k=o+(k+1) by omega,show M+1-(k+1)=M-k by omega]
theorem Sm_lin(f0 f1 f2 f3:Nat→Rat)(a b c:Rat): ∀n,Sm (fun i=>f0 i+a*f1 i+b*f2 i+c*f3 i) n=Sm f0 n+a*Sm f1 n+b*Sm f2 n+c*Sm f3 n
 |0=>by simp[Sm];grind
 |n+1=>by
  rw[Sm,Sm_lin f0 f1 f2 f3 a b c n];simp only[Sm];grind
theorem Sm_scale(f:Nat→Rat)(a:Rat): ∀n,Sm (fun i=>a*f i) n=a*Sm f n
 |0=>by simp[Sm]
 |n+1=>by rw[Sm,Sm_scale f a n,Sm];grind
theorem shift_F{x h:Rat}(hx:0≤x)(hh:0≤h)(h1:x+h≤1)(o M:Nat):
 Nr (Fs o M (x+h)) (Fs o M x+h*Fs (o+1) (M-1) x+h*h/2*Fs (o+2) (M-2) x+h*h*h/6*Fs (o+3) (M-3) x) (h*h*h*h*Sm be M):=by
 have H0:=Sm_nr (a:=fun i=>sg (i+o)*mo (x+h) i) (b:=fun i=>sg (i+o)*Ti x h i) (e:=fun i=>h*h*h*h*be i) (fun i=>by
  obtain⟨a,b⟩:=shift_mo hx hh h1 i;have hn:0≤h*h*h*h*be i:=Rat.mul_nonneg (Rat.mul_nonneg (Rat.mul_nonneg (Rat.mul_nonneg hh hh) hh) hh) (be_nonneg i);generalize h*h*h*h*be i=e at*;rcases sg_bd (i+o) with s|s|s<;>simp only[s]<;>constructor<;>grind) M
 rw[Sm_scale] at H0;have e:Sm (fun i=>sg (i+o)*Ti x h i) M=Gk x 0 o M+h*Gk x 1 o M+h*h/2*Gk x 2 o M+h*h*h/6*Gk x 3 o M:=by
  unfold Gk;rw[←Sm_lin];refine Sm_congr (fun i=>?_) M;unfold Ti;grind
 rw[e,Gk_eq,Gk_eq,Gk_eq,Gk_eq] at H0;exact H0
theorem Fs_two(o M:Nat)(x:Rat):Fs (o+2) M x= -Fs o M x:=by
 unfold Fs;have:=Sm_scale (fun i=>sg (i+o)*mo x i) (-1) M;rw[show-Sm (fun i=>sg (i+o)*mo x i) M= -1*Sm (fun i=>sg (i+o)*mo x i) M by grind,←this];exact Sm_congr (fun i=>by rw[show i+(o+2)=i+o+2 by omega,sg_two];grind) M
theorem mo_small{x:Rat}(h:0≤x)(h1:x≤1): ∀i,mo x (i+1)*(2:Rat)^i≤1
 |0=>by
  have:=mo_le1 h h1 1;rw[Rat.pow_zero];grind
 |i+1=>by
  have ih:=mo_small h h1 i;have h2:=(mo_half h h1 (i+1)).2 om_;have hp:0≤(2:Rat)^i:=Rat.pow_nonneg dc_;have h3:=Rat.mul_le_mul_of_nonneg_right h2 hp;rw[Rat.pow_succ];grind
theorem mo_mono{x:Rat}(h:0≤x)(h1:x≤1)(i:Nat): ∀j,mo x (i+j)≤mo x i
 |0=>Rat.le_refl
 |j+1=>Rat.le_trans (mo_half h h1 (i+j)).1 (mo_mono h h1 i j)
theorem mo_66{x:Rat}(h:0≤x)(h1:x≤1){M:Nat}(hM:66≤M):mo x M≤1/2^65:=by
 have h3:=mo_mono h h1 66 (M-66);rw[show 66+(M-66)=M by omega] at h3;refine Rat.le_trans h3 ?_;refine Rat.le_of_mul_le_mul_right (c:=2^65) ?_ (by decide+kernel);rw[Rat.div_mul_cancel (by decide+kernel)];exact mo_small h h1 65
theorem Fs_step{x:Rat}(h:0≤x)(h1:x≤1)(o M:Nat)(hM:66≤M):Nr (Fs o (M+1) x) (Fs o M x) (1/2^65):=by
 have e:Fs o (M+1) x=Fs o M x+sg (M+o)*mo x M:=rfl;have h3:=mo_nonneg h M;have h6:=mo_66 h h1 hM;rw[e];rcases sg_bd (M+o) with s|s|s<;>rw[s]<;>constructor<;>grind
def sinP(x:Rat):Rat:=Fs 3 70 x
def cosP(x:Rat):Rat:=Fs 0 70 x
theorem Sm_be:Sm be 70≤3/5:=by decide+kernel
theorem nr_mul{a b e h K:Rat}(hn:Nr a b e)(h0:0≤h)(hK:h≤K)(he:0≤e):Nr (h*a) (h*b) (K*e):=by
 obtain⟨h1,h2⟩:=hn;have k1:0≤h*(e-(a-b)):=Rat.mul_nonneg h0 (by grind);have k2:0≤h*(e-(b-a)):=Rat.mul_nonneg h0 (by grind);have k3:0≤(K-h)*e:=Rat.mul_nonneg (by grind) he;constructor<;>grind_linarith
theorem nr_comb{v s c c69 s68 c67 h sb e:Rat}(hh:0≤h)(hs:h≤1/10000)(he:0≤e)(H:Nr v (s+h*c69+h*h/2* -s68+h*h*h/6* -c67) (h*h*h*h*sb))
 (hb:0≤h*h*h*h*(3/5-sb)) (n1:Nr c69 c e) (n2:Nr s68 s (2*e)) (n3:Nr c67 c (3*e)):
 Nr v (s+h*c-h*h/2*s-h*h*h/6*c) (h*h*h*h*(3/5)+e/2):=by
 have q2:h*h≤1/10000:=by
  have:=Rat.mul_nonneg (a:=h) (b:=1/10000-h) hh (by grind);grind_linarith
 have q20:0≤h*h:=Rat.mul_nonneg hh hh;have q3:h*h*h≤1/10000:=by
  have:=Rat.mul_nonneg (a:=h*h) (b:=1/10000-h) q20 (by grind);grind_linarith
 have q30:0≤h*h*h:=Rat.mul_nonneg q20 hh;obtain⟨a1,a2⟩:=nr_mul n1 hh hs he;obtain⟨b1,b2⟩:=nr_mul n2 q20 q2 (by grind);obtain⟨d1,d2⟩:=nr_mul n3 q30 q3 (by grind);obtain⟨H1,H2⟩:=H;constructor<;>grind_linarith
theorem nr_trans{a b c e f:Rat}(h1:Nr a b e)(h2:Nr b c f):Nr a c (e+f):=by unfold Nr at*;constructor<;>grind
theorem nr_neg{a b e:Rat}(h:Nr a b e):Nr (-a) (-b) e:=by unfold Nr at*;constructor<;>grind
theorem nr_symm{a b e:Rat}(h:Nr a b e):Nr b a e:=⟨h.2,h.1⟩
theorem nr_mono{a b e f:Rat}(h:Nr a b e)(hf:e≤f):Nr a b f:=by unfold Nr at*;constructor<;>grind
theorem be_bd{h:Rat}(hh:0≤h):0≤h*h*h*h*(3/5-Sm be 70):=Rat.mul_nonneg (Rat.mul_nonneg (Rat.mul_nonneg (Rat.mul_nonneg hh hh) hh) hh) (by have:=Sm_be;grind)
theorem sin_shift{x h:Rat}(hx:0≤x)(hh:0≤h)(h1:x+h≤1)(hs:h≤1/10000):
 Nr (sinP (x+h)) (sinP x+h*cosP x-h*h/2*sinP x-h*h*h/6*cosP x) (h*h*h*h*(3/5)+1/2^65/2):=by
 have hx1:x≤1:=by grind
 have s1:=Fs_step hx hx1 0 69 om_;have s2:=Fs_step hx hx1 3 69 om_;have s3:=Fs_step hx hx1 3 68 om_;have s4:=Fs_step hx hx1 0 68 om_;have s5:=Fs_step hx hx1 0 67 om_;refine nr_comb hh hs (by decide+kernel) ?_ (be_bd hh) (nr_symm s1) (nr_mono (nr_trans (nr_symm s3) (nr_symm s2)) (by decide+kernel)) (nr_mono (nr_trans (nr_symm s5) (nr_trans (nr_symm s4) (nr_symm s1))) (by decide+kernel));have H:=shift_F hx hh h1 3 70;have e1:Fs 4 69 x=Fs 0 69 x:=by rw[Fs_two 2,Fs_two 0];grind
 have e2:Fs 5 68 x= -Fs 3 68 x:=Fs_two 3 68 x;have e3:Fs 6 67 x= -Fs 0 67 x:=by rw[Fs_two 4,Fs_two 2,Fs_two 0];grind
 rw[show 3+1=4 from rfl,show 3+2=5 from rfl,show 3+3=6 from rfl,show 70-1=69 from rfl,show 70-2=68 from rfl,show 70-3=67 from rfl,e1,e2,e3] at H;exact H
theorem cos_shift{x h:Rat}(hx:0≤x)(hh:0≤h)(h1:x+h≤1)(hs:h≤1/10000):
 Nr (cosP (x+h)) (cosP x-h*sinP x-h*h/2*cosP x+h*h*h/6*sinP x) (h*h*h*h*(3/5)+1/2^65/2):=by
 have hx1:x≤1:=by grind
 have s1:=Fs_step hx hx1 3 69 om_;have s2:=Fs_step hx hx1 0 69 om_;have s3:=Fs_step hx hx1 0 68 om_;have s4:=Fs_step hx hx1 3 68 om_;have s5:=Fs_step hx hx1 3 67 om_;have K:=nr_comb (v:=cosP (x+h)) (s:=cosP x) (c:= -sinP x) (c69:= -Fs 3 69 x) (s68:=Fs 0 68 x) (c67:= -Fs 3 67 x) hh hs (e:=1/2^65) (by decide+kernel) ?_ (be_bd hh) (nr_neg (nr_symm s1)) (nr_mono (nr_trans (nr_symm s3) (nr_symm s2)) (by decide+kernel)) (nr_mono (nr_neg (nr_trans (nr_symm s5) (nr_trans (nr_symm s4) (nr_symm s1)))) (by decide+kernel))
 · rw[show cosP x-h*sinP x-h*h/2*cosP x+h*h*h/6*sinP x=cosP x+h* -sinP x-h*h/2*cosP x-h*h*h/6* -sinP x by grind]
   exact K
 · have H:=shift_F hx hh h1 0 70
   have e1:Fs 1 69 x= -Fs 3 69 x:=by rw[Fs_two 1];grind
   have e2:Fs 2 68 x= -Fs 0 68 x:=Fs_two 0 68 x;rw[show 0+1=1 from rfl,show 0+2=2 from rfl,show 0+3=3 from rfl,show 70-1=69 from rfl,show 70-2=68 from rfl,show 70-3=67 from rfl,e1,e2] at H;rw[show- -Fs 3 67 x=Fs 3 67 x by grind];exact H
end Trig
namespace Trig
def alt(x:Rat):Nat→Nat→Rat
 |_,0=>0
 |m,n+1=>mo x m-alt x (m+2) n
def mis(x:Rat):Nat→Nat→Rat
 |_,0=>0
 |m,n+1=>x*x/(((m:Rat)+1)*((m:Rat)+2))*(1-mis x (m+2) n)
theorem mo_two(x:Rat)(m:Nat):mo x (m+2)=mo x m*(x*x/(((m:Rat)+1)*((m:Rat)+2))):=by
 have h:=c0 m;rw[mo,mo];push_cast
 have h1:(m:Rat)+1≠0:=by grind
 have h2:(m:Rat)+1+1≠0:=by grind
 have h3:((m:Rat)+1)*((m:Rat)+2)≠0:=by
  intro e;rcases Rat.mul_eq_zero.1 e with e|e<;>grind
 grind
theorem alt_mis(x:Rat): ∀(n m:Nat),alt x m (n+1)=mo x m*(1-mis x m n)
 |0,m=>by simp[alt,mis];grind
 |n+1,m=>by
  rw[alt,alt_mis x n (m+2),mo_two,mis];grind
def Gs(x:Rat)(o m M:Nat):Rat:=Sm (fun i=>sg (i+o)*mo x (i+m)) M
theorem Gs_front(x:Rat)(o m M:Nat):Gs x o m (M+1)=sg o*mo x m+Gs x (o+1) (m+1) M:=by
 unfold Gs;rw[Sm_front];simp only[Nat.zero_add];congr 1
 exact Sm_congr (fun i=>by rw[show i+1+o=i+(o+1) by omega,show i+1+m=i+(m+1) by omega]) M
theorem Gs_two(x:Rat)(o m M:Nat):Gs x (o+2) m M= -Gs x o m M:=by
 unfold Gs;have:=Sm_scale (fun i=>sg (i+o)*mo x (i+m)) (-1) M;rw[show-Sm (fun i=>sg (i+o)*mo x (i+m)) M= -1*Sm (fun i=>sg (i+o)*mo x (i+m)) M by grind,←this];exact Sm_congr (fun i=>by rw[show i+(o+2)=i+o+2 by omega,sg_two];grind) M
theorem Gs_alt(x:Rat): ∀(n m:Nat),Gs x 0 m (2*n)=alt x m n
 |0,m=>by simp[Gs,alt,Sm]
 |n+1,m=>by
  rw[show 2*(n+1)=2*n+1+1 by omega,Gs_front,Gs_front,Gs_two,Gs_alt x n,alt];simp[sg];grind
theorem cos_alt(x:Rat):cosP x=alt x 0 35:=by
 have:=Gs_alt x 35 0;rw[←this];unfold cosP Fs Gs;exact Sm_congr (fun i=>by simp) _
theorem sin_alt(x:Rat):sinP x=alt x 1 35:=by
 have h1:=Gs_alt x 35 1;rw[←h1];have e:sinP x=Gs x 3 0 70:=by
  unfold sinP Fs Gs;exact Sm_congr (fun i=>by simp) _
 have e2:Gs x 0 1 (2*35)=Gs x 0 1 69+sg (69+0)*mo x (69+1):=rfl;have e3:sg (69+0)=0:=by decide+kernel
 have e4:sg 3=0:=by decide+kernel
 rw[e,show 70=69+1 from rfl,Gs_front x 3 0 69,show 3+1=2+2 from rfl,Gs_two,show 2=0+2 from rfl,Gs_two,e2,e3,e4];grind
def hiN(a b:Nat):Nat:=a/2147483648*(b/2147483648)+a/2147483648*(b%2147483648)/2147483648+a%2147483648*(b/2147483648)/2147483648
theorem hi_lin{a1 a0 b1 b0 p q M:Nat}(hp1:p*M≤a1*b0)(hp2:a1*b0<p*M+M)(hq1:q*M≤a0*b1)(hq2:a0*b1<q*M+M)(h00:a0*b0<M*M):
 (a1*b1+p+q)*(M*M)≤(a1*M+a0)*(b1*M+b0)∧(a1*M+a0)*(b1*M+b0)<(a1*b1+p+q+3)*(M*M):=by
 have k1:=Nat.mul_le_mul_right M hp1;have k2:=Nat.mul_le_mul_right M (Nat.le_of_lt_succ (Nat.lt_succ_of_lt hp2));have k3:=Nat.mul_le_mul_right M hq1;have k4:=Nat.mul_le_mul_right M (Nat.le_of_lt_succ (Nat.lt_succ_of_lt hq2));constructor<;>grind
theorem hiN_bd(a b:Nat):hiN a b*4611686018427387904≤a*b∧a*b<(hiN a b+3)*4611686018427387904:=by
 have M0:0<2147483648:=by omega
 have ha:=Nat.div_add_mod' a 2147483648;have hb:=Nat.div_add_mod' b 2147483648;have r1:=Nat.mod_lt a M0;have r2:=Nat.mod_lt b M0;unfold hiN;generalize a/2147483648=a1 at*;generalize a%2147483648=a0 at*;generalize b/2147483648=b1 at*;generalize b%2147483648=b0 at*;have p1:=Nat.div_add_mod' (a1*b0) 2147483648;have q1:=Nat.div_add_mod' (a0*b1) 2147483648;have p2:=Nat.mod_lt (a1*b0) M0;have q2:=Nat.mod_lt (a0*b1) M0;have h00:a0*b0<2147483648*2147483648:=Nat.mul_lt_mul'' r1 r2;have:=hi_lin (a1:=a1) (a0:=a0) (b1:=b1) (b0:=b0) (p:=a1*b0/2147483648) (q:=a0*b1/2147483648) (M:=2147483648) om_ om_ om_ om_ h00;rw[ha,hb] at this;exact this
def tm(t sq d:Nat):Nat:=hiN t sq/(d*(d+1))
def qgo(sq:Nat):Nat→Nat→Nat→Nat
 |0,_,_=>0
 |f+1,t,d=>if t=0 then 0 else t-tm t sq d+qgo sq f (tm (tm t sq d) sq (d+2)) (d+4)
def arcN(r:Nat):Nat:=r*2620088056*512+r*658911831/4194304
def quickN(r:Nat)(cos:Bool):Nat:=
 if cos then qgo (hiN (arcN r) (arcN r)) 17 4611686018427387904 1 else qgo (hiN (arcN r) (arcN r)) 17 (arcN r) 2
abbrev Y:Rat:=4611686018427387904
theorem step_err{t sq c q hi:Nat}{x mx e μ:Rat}(hx:0≤x)(hx1:x≤4/5)(hsq:Nr (sq:Rat) (x*x*Y) 8)(h1:hi*4611686018427387904≤t*sq)(h2:t*sq<(hi+3)*4611686018427387904)
 (hc:0<c) (hq1:q*c≤hi) (hq2:hi<q*c+c) (ht:Nr (t:Rat) (mx*Y) e) (he:0≤e) (hm0:0≤mx) (hm:mx≤μ):Nr (q:Rat) (mx*(x*x/(c:Rat))*Y) ((2/3*e+8*μ+3)/(c:Rat)+1):=by
 have H1:(hi:Rat)*Y≤t*sq:=by unfold Y;exact_mod_cast h1
 have H2:(t:Rat)*sq≤(hi+3)*Y:=by unfold Y;exact_mod_cast Nat.le_of_lt h2
 have C:(0:Rat)<c:=by exact_mod_cast hc
 have Q1:(q:Rat)*c≤hi:=by exact_mod_cast hq1
 have Q2:(hi:Rat)≤q*c+c:=by exact_mod_cast Nat.le_of_lt hq2
 have y1:x*x≤16/25:=by
  have:=Rat.mul_nonneg (a:=4/5-x) (b:=4/5+x) (by grind) (by grind);grind_linarith
 have y0:0≤x*x:=Rat.mul_nonneg hx hx;obtain⟨s1,s2⟩:=hsq;have sq0:(0:Rat)≤sq:=c0 sq;have sqb:(sq:Rat)≤2/3*Y:=by unfold Y at*;grind
 obtain⟨t1,t2⟩:=ht;have a1:0≤(sq:Rat)*(e-(t-mx*Y)):=Rat.mul_nonneg sq0 (by grind);have a2:0≤(sq:Rat)*(e-(mx*Y-t)):=Rat.mul_nonneg sq0 (by grind);have a3:0≤e*(2/3*Y-sq):=Rat.mul_nonneg he (by grind);have a4:0≤mx*(8-(sq-x*x*Y)):=Rat.mul_nonneg hm0 (by grind);have a5:0≤mx*(8-(x*x*Y-sq)):=Rat.mul_nonneg hm0 (by grind);generalize x*x=y at*;have U:(hi:Rat)≤mx*y*Y+(2/3*e+8*μ):=by
  unfold Y at*;grind_linarith
 have L:mx*y*Y-(2/3*e+8*μ)-3≤hi:=by
  unfold Y at*;grind_linarith
 have hcc:(c:Rat)≠0:=by grind
 constructor
 · refine Rat.le_of_mul_le_mul_right (c:=(c:Rat)) ?_ C
   have e1:(↑q-mx*(y/ ↑c)*Y)*(c:Rat)=q*c-mx*y*Y:=by grind
   have e2:((2/3*e+8*μ+3)/(c:Rat)+1)*c=(2/3*e+8*μ+3)+c:=by grind
   rw[e1,e2];grind
 · refine Rat.le_of_mul_le_mul_right (c:=(c:Rat)) ?_ C
   have e1:(mx*(y/ ↑c)*Y- ↑q)*(c:Rat)=mx*y*Y-q*c:=by grind
   have e2:((2/3*e+8*μ+3)/(c:Rat)+1)*c=(2/3*e+8*μ+3)+c:=by grind
   rw[e1,e2];grind
theorem alt_bd{x:Rat}(h:0≤x)(h1:x≤1): ∀(n m:Nat),0≤alt x m n∧alt x m n≤mo x m
 |0,m=>by simp[alt];exact mo_nonneg h m
 |n+1,m=>by
  obtain⟨a,b⟩:=alt_bd h h1 n (m+2);have h2:=mo_mono h h1 m 2;rw[alt];constructor<;>grind
theorem alt_last{x:Rat}(h:0≤x): ∀(n m:Nat),Nr (alt x m (n+1)) (alt x m n) (mo x (m+2*n))
 |0,m=>by
  have:=mo_nonneg h m;simp[alt,Nr];grind
 |n+1,m=>by
  have:=alt_last h n (m+2);rw[show m+2+2*n=m+2*(n+1) by omega] at this;rw[alt,show alt x m (n+1)=mo x m-alt x (m+2) n from rfl];unfold Nr at*;grind
theorem tm_err{t sq m:Nat}{x e μ:Rat}(hx:0≤x)(hx1:x≤4/5)(hsq:Nr (sq:Rat) (x*x*Y) 8)(ht:Nr (t:Rat) (mo x m*Y) e)(he:0≤e)(hm:mo x m≤μ):
 Nr ((tm t sq (m+1):Nat):Rat) (mo x (m+2)*Y) ((2/3*e+8*μ+3)/(((m:Rat)+1)*((m:Rat)+2))+1):=by
 obtain⟨h1,h2⟩:=hiN_bd t sq;have hc:0<(m+1)*(m+1+1):=Nat.mul_pos om_ om_;have hq:=Nat.div_add_mod' (hiN t sq) ((m+1)*(m+1+1));have hr:=Nat.mod_lt (hiN t sq) hc;have:=step_err (q:=tm t sq (m+1)) hx hx1 hsq h1 h2 hc (by unfold tm;omega) (by unfold tm;omega) ht he (mo_nonneg hx m) hm;rw[mo_two];have e:(((m+1)*(m+1+1):Nat):Rat)=((m:Rat)+1)*((m:Rat)+2):=by push_cast;grind
 rw[e] at this;exact this
theorem tm_le{t sq m:Nat}(hsq:sq≤4611686018427387904):tm t sq (m+1)≤t:=by
 obtain⟨h1,-⟩:=hiN_bd t sq;have h3:t*sq≤t*4611686018427387904:=Nat.mul_le_mul_left t hsq;have h4:hiN t sq≤t:=Nat.le_of_mul_le_mul_right (Nat.le_trans h1 h3) om_;exact Nat.le_trans (Nat.div_le_self _ _) h4
theorem sq_le{sq:Nat}{x:Rat}(hx:0≤x)(hx1:x≤4/5)(hsq:Nr (sq:Rat) (x*x*Y) 8):sq≤3074457345618258602:=by
 have y1:x*x≤16/25:=by
  have:=Rat.mul_nonneg (a:=4/5-x) (b:=4/5+x) (by grind) (by grind);grind_linarith
 obtain⟨s1,s2⟩:=hsq;have:(sq:Rat)≤((3074457345618258602:Nat):Rat):=by unfold Y at*;push_cast;grind
 exact_mod_cast this
theorem mo_le_half{x:Rat}(h:0≤x)(h1:x≤1){m:Nat}(hm:2≤m):mo x m≤1/2:=by
 have a:=(mo_half h h1 1).2 om_;have b:=mo_le1 h h1 1;have c:=mo_mono h h1 2 (m-2);rw[show 2+(m-2)=m by omega] at c;grind
theorem err_small{m:Nat}(hm:2≤m){e:Rat}(he:e≤13/2):(2/3*e+8*(1/2)+3)/(((m:Rat)+1)*((m:Rat)+2))+1≤2:=by
 have h:(2:Rat)≤m:=by exact_mod_cast hm
 have hp:12≤((m:Rat)+1)*((m:Rat)+2):=by
  have:=Rat.mul_nonneg (a:=(m:Rat)-2) (b:=(m:Rat)+5) (by grind) (by grind);grind_linarith
 generalize ((m:Rat)+1)*((m:Rat)+2)=p at*;refine Rat.le_of_mul_le_mul_right (c:=p) ?_ (by grind);have e1:((2/3*e+8*(1/2)+3)/p+1)*p=(2/3*e+8*(1/2)+3)+p:=by
  have:p≠0:=by grind
  grind
 rw[e1];grind
theorem qgo_pair{sq m t f:Nat}{x e e1 e2:Rat}(h0:t≠0)(hsq:sq≤4611686018427387904)(h1:Nr (t:Rat) (mo x m*Y) e)(h2:Nr ((tm t sq (m+1):Nat):Rat) (mo x (m+2)*Y) e1)
 (h3:Nr ((qgo sq f (tm (tm t sq (m+1)) sq (m+2+1)) (m+4+1):Nat):Rat) (alt x (m+4) (2*f)*Y) e2):
 Nr ((qgo sq (f+1) t (m+1):Nat):Rat) (alt x m (2*(f+1))*Y) (e+e1+e2):=by
 have hl:=tm_le (t:=t) (m:=m) hsq;rw[qgo,if_neg h0,show 2*(f+1)=2*f+1+1 by omega,alt,alt];rw[show m+1+2=m+2+1 by omega,show m+1+4=m+4+1 by omega];rw[Rat.natCast_add];have hc:((t-tm t sq (m+1):Nat):Rat)=(t:Rat)-((tm t sq (m+1):Nat):Rat):=by
  have:(t:Rat)=((t-tm t sq (m+1):Nat):Rat)+((tm t sq (m+1):Nat):Rat):=by
   rw[←Rat.natCast_add];congr 1
   omega
  grind
 rw[hc];unfold Nr at*;constructor<;>grind
theorem qgo_err{sq:Nat}{x:Rat}(hx:0≤x)(hx1:x≤4/5)(hsq:Nr (sq:Rat) (x*x*Y) 8): ∀(f m t:Nat),2≤m→Nr (t:Rat) (mo x m*Y) 2→Nr ((qgo sq f t (m+1):Nat):Rat) (alt x m (2*f)*Y) (4*f)
 |0,m,t,_,_=>by
  simp[qgo,alt,Nr];grind
 |f+1,m,t,hm,ht=>by
  have hl:=sq_le hx hx1 hsq;have h1:x≤1:=by grind
  by_cases h0:t=0
  · subst h0
    obtain⟨a,b⟩:=alt_bd hx h1 (2*(f+1)) m;obtain⟨t1,t2⟩:=ht;have hq:qgo sq (f+1) 0 (m+1)=0:=by simp[qgo]
    rw[hq];have hf:=c0 f;have k1:alt x m (2*(f+1))*Y≤mo x m*Y:=Rat.mul_le_mul_of_nonneg_right b (by unfold Y;grind);have k2:0≤alt x m (2*(f+1))*Y:=Rat.mul_nonneg a (by unfold Y;grind);push_cast at*
    constructor<;>grind
  · have e1:=tm_err hx hx1 hsq ht (by grind) (mo_le_half hx h1 hm)
    have e1':=nr_mono e1 (err_small hm (by grind));have e2:=tm_err hx hx1 hsq e1' (by grind) (mo_le_half hx h1 (show 2≤m+2 by omega));have e2':=nr_mono e2 (err_small (show 2≤m+2 by omega) (by grind));have e3:=qgo_err hx hx1 hsq f (m+4) _ om_ e2';refine nr_mono (qgo_pair h0 om_ ht e1' e3) ?_;push_cast
    grind
def PiN:Nat:=363771576891766324280234942777729862653393377328392429958772151117938894466185
def th:Rat:=(PiN:Rat)/(10800000*2^256)
theorem th_lo:5626596257239020119/2^84≤th:=by decide+kernel
theorem th_hi:th≤5626596257239020120/2^84:=by decide+kernel
theorem th_bd:0<th∧th*2700000≤4/5:=by decide+kernel
theorem ang_bd{r:Nat}(h:r≤2700000):0≤(r:Rat)*th∧(r:Rat)*th≤4/5:=by
 obtain⟨a,b⟩:=th_bd;have hr:(r:Rat)≤2700000:=by exact_mod_cast h
 have h0:=c0 r;refine⟨Rat.mul_nonneg h0 (by grind),?_⟩;have:=Rat.mul_nonneg (a:=2700000-(r:Rat)) (b:=th) (by grind) (by grind);grind_linarith
theorem arcN_err{r:Nat}(h:r≤2700000):Nr (arcN r:Rat) ((r:Rat)*th*Y) 3:=by
 have a:=th_lo;have b:=th_hi;have h1:arcN r*4194304≤r*5626596257239020119∧r*5626596257239020119≤(arcN r+1)*4194304:=by
  unfold arcN;omega
 have H1:(arcN r:Rat)*4194304≤r*5626596257239020119:=by exact_mod_cast h1.1
 have H2:(r:Rat)*5626596257239020119≤(arcN r+1)*4194304:=by exact_mod_cast h1.2
 have hr:(r:Rat)≤2700000:=by exact_mod_cast h
 have h0:=c0 r;generalize (arcN r:Rat)=A at*;generalize (r:Rat)=R at*;generalize th=T at*;have a1:5626596257239020119≤T*19342813113834066795298816:=by grind
 have a2:T*19342813113834066795298816≤5626596257239020120:=by grind
 have b1:=Rat.mul_nonneg (a:=R) (b:=T*19342813113834066795298816-5626596257239020119) h0 (by grind);have b2:=Rat.mul_nonneg (a:=R) (b:=5626596257239020120-T*19342813113834066795298816) h0 (by grind);unfold Y;constructor<;>grind_linarith
theorem sqN_err{r:Nat}(h:r≤2700000):Nr (hiN (arcN r) (arcN r):Rat) ((r:Rat)*th*((r:Rat)*th)*Y) 8:=by
 have ha:=arcN_err h;obtain⟨x0,x1⟩:=ang_bd h;obtain⟨h1,h2⟩:=hiN_bd (arcN r) (arcN r);have H1:(hiN (arcN r) (arcN r):Rat)*Y≤arcN r*arcN r:=by unfold Y;exact_mod_cast h1
 have H2:(arcN r:Rat)*arcN r≤(hiN (arcN r) (arcN r)+3)*Y:=by unfold Y;exact_mod_cast Nat.le_of_lt h2
 have h0:=c0 (arcN r);generalize (hiN (arcN r) (arcN r):Rat)=S at*;generalize (arcN r:Rat)=A at*;generalize (r:Rat)*th=x at*;obtain⟨a1,a2⟩:=ha;have A1:A≤4/5*Y+3:=by unfold Y at*;grind
 have xx:x*Y+A≤17/10*Y:=by unfold Y at*;grind
 have b1:=Rat.mul_nonneg (a:=A+x*Y) (b:=3-(A-x*Y)) (by unfold Y at*;grind) (by grind);have b2:=Rat.mul_nonneg (a:=A+x*Y) (b:=3-(x*Y-A)) (by unfold Y at*;grind) (by grind);unfold Y at*;constructor<;>grind_linarith
theorem alt34{x:Rat}(h:0≤x)(h1:x≤1)(m:Nat):Nr (alt x m (2*17)*Y) (alt x m 35*Y) 1:=by
 have a:=alt_last h 34 m;have b:=mo_66 h h1 (show 66≤m+2*34 by omega);have c:=mo_nonneg h (m+2*34);unfold Nr Y at*;have hq:(1:Rat)/2^65*4611686018427387904≤1:=by decide+kernel
 generalize (1:Rat)/2^65=z at*;rw[show 2*17=34 from rfl];constructor<;>grind
theorem quick_cos{r:Nat}(h:r≤2700000):Nr (quickN r true:Rat) (cosP ((r:Rat)*th)*Y) 75:=by
 obtain⟨x0,x1⟩:=ang_bd h;have hsq:=sqN_err h;have x2:(r:Rat)*th≤1:=by grind
 rw[cos_alt];refine nr_mono (nr_trans (b:=alt ((r:Rat)*th) 0 (2*17)*Y) (e:=0+13/2+4*16) (f:=1) ?_ (alt34 x0 x2 0)) (by grind);unfold quickN;rw[if_pos rfl];generalize hiN (arcN r) (arcN r)=sq at*;have hl:=sq_le x0 x1 hsq;have h0:Nr ((4611686018427387904:Nat):Rat) (mo ((r:Rat)*th) 0*Y) 0:=by simp[mo,Nr,Y];grind
 have e1:=tm_err x0 x1 hsq h0 (by grind) (mo_le1 x0 x2 0);have e1':=nr_mono e1 (f:=13/2) (by push_cast;decide+kernel);have e2:=tm_err x0 x1 hsq e1' (by grind) (mo_le_half x0 x2 (show 2≤0+2 by omega));have e2':=nr_mono e2 (err_small (show 2≤0+2 by omega) (by grind));have e3:=qgo_err x0 x1 hsq 16 (0+4) _ om_ e2';exact qgo_pair om_ om_ h0 e1' (by push_cast at e3;exact e3)
theorem quick_sin{r:Nat}(h:r≤2700000):Nr (quickN r false:Rat) (sinP ((r:Rat)*th)*Y) 75:=by
 obtain⟨x0,x1⟩:=ang_bd h;have hsq:=sqN_err h;have x2:(r:Rat)*th≤1:=by grind
 rw[sin_alt];refine nr_mono (nr_trans (b:=alt ((r:Rat)*th) 1 (2*17)*Y) (e:=3+3+4*16) (f:=1) ?_ (alt34 x0 x2 1)) (by grind);have ha:=arcN_err h;unfold quickN;rw[if_neg (by simp)];generalize hiN (arcN r) (arcN r)=sq at*;have hl:=sq_le x0 x1 hsq;have hm1:mo ((r:Rat)*th) 1=(r:Rat)*th:=by simp[mo];grind
 have h0:Nr ((arcN r:Nat):Rat) (mo ((r:Rat)*th) 1*Y) 3:=by rw[hm1];exact ha
 by_cases hz:arcN r=0
 · rw[hz] at h0⊢
   obtain⟨a,b⟩:=alt_bd x0 x2 (2*17) 1;have hq:qgo sq 17 0 2=0:=by simp[qgo]
   rw[hq];obtain⟨-,t2⟩:=h0;have k1:alt ((r:Rat)*th) 1 (2*17)*Y≤mo ((r:Rat)*th) 1*Y:=Rat.mul_le_mul_of_nonneg_right b (by unfold Y;grind);have k2:0≤alt ((r:Rat)*th) 1 (2*17)*Y:=Rat.mul_nonneg a (by unfold Y;grind);constructor<;>grind
 · have e1:=tm_err x0 x1 hsq h0 (by grind) (show _≤(4/5:Rat) by rw[hm1];exact x1)
   have e1':=nr_mono e1 (f:=3) (by push_cast;decide+kernel);have e2:=tm_err x0 x1 hsq e1' (by grind) (mo_le_half x0 x2 (show 2≤1+2 by omega));have e2':=nr_mono e2 (err_small (show 2≤1+2 by omega) (by grind));have e3:=qgo_err x0 x1 hsq 16 (1+4) _ om_ e2';exact qgo_pair hz om_ h0 e1' (by push_cast at e3;exact e3)
end Trig
end Go.Proofs.YtdeiofgddhbdaaaGreat
