/- The sort of spans: its contract over a row of the call's own. -/
import Derived.Sort.Grow
import Derived.Lib.Small
import Derived.Shelf.Abstract
import Derived.Shelf.SlGeneric
import Derived.Shelf.SlSortCmp.WholeK
import Derived.Shelf.SlSortCmp.NoneTotal
import Derived.Ground.SlsfProg
import Derived.Test.YtdeiofgddhbdaaaGreatDoorHCanon
set_option linter.unusedSimpArgs false
set_option linter.unusedVariables false
set_option maxHeartbeats 4000000
set_option maxRecDepth 100000
open Go.RowKit
open Go.Lib (hid)
open Go.Proofs.Tryz
open Go.Value renaming int→vi
open Go.IntKind renaming i64→vk
namespace Go.Proofs.YtdeiofgddhbdaaaGreatDoor
def mort:Nat→Nat→Nat→Nat
 |0,_,c=>c
 |l+1,r,c=>4*mort l (r/2) (c/2)+2*(r%2)+c%2
theorem mort_step(m r c k:Nat):mort (m+1) (r/2^k) (c/2^k)=4*mort m (r/2^(k+1)) (c/2^(k+1))+2*(r/2^k%2)+c/2^k%2:=by
 simp only[mort,Nat.div_div_eq_div_mul,Nat.pow_succ]
theorem mort_lt(l:Nat): ∀r c:Nat,c<2*2^l→mort l r c<2*4^l:=by
 induction l with
 |zero=>intro r c h;simpa [mort] using h
 |succ l ih=>
  intro r c h;have h1:=ih (r/2) (c/2) (by rw[Nat.pow_succ] at h;omega);simp only[mort,Nat.pow_succ];omega
theorem mort_inj(l:Nat): ∀r c r' c':Nat,r<2^l→r'<2^l→mort l r c=mort l r' c'→r=r'∧c=c':=by
 induction l with
 |zero=>intro r c r' c' h h' e;simp[mort] at*;omega
 |succ l ih=>
  intro r c r' c' h h' e;simp only[mort] at e;have:=ih (r/2) (c/2) (r'/2) (c'/2) (by rw[Nat.pow_succ] at h;omega) (by rw[Nat.pow_succ] at h';omega) om_;omega
def csz(l:Nat):Nat:=4^(16-l)
theorem csz_pos(l:Nat):0<csz l:=Nat.pow_pos om_
theorem csz_le(l:Nat):csz l≤4294967296:=by
 have:csz l≤4^16:=Nat.pow_le_pow_right om_ om_;simpa using this
theorem csz_mul(l:Nat)(h:l≤16):4^l*csz l=4294967296:=by
 unfold csz;rw[←Nat.pow_add,show l+(16-l)=16 by omega]
def mortI(x:Cl):Nat:=mort x.1.toNat x.2.1.toNat x.2.2.toNat
def spF(x:Cl):Nat:=mortI x*csz x.1.toNat
def spT(x:Cl):Nat:=(mortI x+1)*csz x.1.toNat
theorem sp_bd(l r c:Nat)(hl:l≤16)(hc:c<2*2^l):mort l r c*csz l≤8589934592∧(mort l r c+1)*csz l≤8589934592:=by
 have h1:=mort_lt l r c hc;have h2:(mort l r c+1)*csz l≤(2*4^l)*csz l:=Nat.mul_le_mul_right _ om_;rw[Nat.mul_assoc,csz_mul l hl] at h2;have h3:mort l r c*csz l≤(mort l r c+1)*csz l:=Nat.mul_le_mul_right _ om_;omega
theorem mort_le(l r c:Nat)(hl:l≤16)(hc:c<2*2^l):mort l r c<8589934592:=by
 have h1:=mort_lt l r c hc;have:(4:Nat)^l≤4^16:=Nat.pow_le_pow_right om_ hl;omega
theorem csz_shift'(l:Nat):(2:Int)^(2*(16-l))=(csz l:Int):=by
 have h:(2:Nat)^(2*(16-l))=csz l:=by rw[Nat.pow_mul];rfl
 exact_mod_cast h
def rwTo:Nat→Nat→Nat
 |0,_=>0
 |k+1,n=>rwTo k n+n/4^k%4/2*2^k
def clTo:Nat→Nat→Nat
 |0,_=>0
 |k+1,n=>clTo k n+n/4^k%4%2*2^k
theorem rwTo_lt(k n:Nat):rwTo k n<2^k:=by
 induction k with
 |zero=>simp[rwTo]
 |succ k ih=>
  simp only[rwTo,Nat.pow_succ];have h:n/4^k%4/2≤1:=by omega
  have:=Nat.mul_le_mul_right (2^k) h;omega
theorem clTo_lt(k n:Nat):clTo k n<2^k:=by
 induction k with
 |zero=>simp[clTo]
 |succ k ih=>
  simp only[clTo,Nat.pow_succ];have h:n/4^k%4%2≤1:=by omega
  have:=Nat.mul_le_mul_right (2^k) h;omega
theorem or_top(a b k:Nat)(h:a<2^k):a ||| (b*2^k)=a+b*2^k:=by
 rw[Nat.or_comm,Nat.mul_comm b,←Nat.two_pow_add_eq_or_of_lt h,Nat.add_comm]
theorem rwTo_low(k n:Nat):rwTo (k+1) n=2*rwTo k (n/4)+n%4/2:=by
 induction k with
 |zero=>simp[rwTo]
 |succ k ih=>
  rw[rwTo,ih,rwTo,Nat.pow_succ,Nat.pow_succ,Nat.mul_comm (4^k) 4,←Nat.div_div_eq_div_mul,←Nat.mul_assoc];omega
theorem clTo_low(k n:Nat):clTo (k+1) n=2*clTo k (n/4)+n%4%2:=by
 induction k with
 |zero=>simp[clTo]
 |succ k ih=>
  rw[clTo,ih,clTo,Nat.pow_succ,Nat.pow_succ,Nat.mul_comm (4^k) 4,←Nat.div_div_eq_div_mul,←Nat.mul_assoc];omega
def colOf(l n:Nat):Nat:=clTo l n+n/4^l*2^l
theorem mort_of(l:Nat): ∀n:Nat,mort l (rwTo l n) (colOf l n)=n:=by
 induction l with
 |zero=>intro n;simp[mort,colOf,clTo]
 |succ l ih=>
  intro n;have h:=ih (n/4);have e1:rwTo (l+1) n/2=rwTo l (n/4):=by rw[rwTo_low];omega
  have e2:rwTo (l+1) n%2=n%4/2:=by rw[rwTo_low];omega
  have hx:colOf (l+1) n=2*colOf l (n/4)+n%4%2:=by
   unfold colOf;rw[clTo_low,Nat.pow_succ,Nat.pow_succ,Nat.mul_comm (4^l) 4,←Nat.div_div_eq_div_mul,←Nat.mul_assoc];omega
  have e3:colOf (l+1) n/2=colOf l (n/4):=by rw[hx];omega
  have e4:colOf (l+1) n%2=n%4%2:=by rw[hx];omega
  simp only[mort];rw[e1,e2,e3,e4,h];omega
theorem colOf_lt(l n:Nat)(h:n<2*4^l):colOf l n<2*2^l:=by
 have h1:=clTo_lt l n;have h2:n/4^l<2:=by rw[Nat.div_lt_iff_lt_mul (Nat.pow_pos om_)];exact h
 have h3:=Nat.mul_le_mul_right (2^l) (show n/4^l≤1 by omega);unfold colOf;omega
theorem ofInt_i64(a:Nat)(ha:a<9223372036854775808):(BitVec.ofInt 64 (a:Int)).toNat=a:=by
 rw[BitVec.ofInt_natCast,BitVec.toNat_ofNat];exact Nat.mod_eq_of_lt om_
theorem i64_and_nat(a b:Nat)(ha:a<9223372036854775808)(hb:b<9223372036854775808):bits .and .i64 (a:Int) (b:Int)=((a &&& b:Nat):Int):=by
 have hx:a &&& b<2^63:=Nat.and_lt_two_pow _ om_;show IntKind.i64.wrap ((BitVec.ofInt 64 (a:Int) &&& BitVec.ofInt 64 (b:Int)).toNat:Int)=_
 rw[BitVec.toNat_and,ofInt_i64 a ha,ofInt_i64 b hb,IntKind.wrap_i64];omega
theorem i64_or_nat(a b:Nat)(ha:a<9223372036854775808)(hb:b<9223372036854775808):bits .or .i64 (a:Int) (b:Int)=((a ||| b:Nat):Int):=by
 have hx:a ||| b<2^63:=Nat.or_lt_two_pow om_ om_;show IntKind.i64.wrap ((BitVec.ofInt 64 (a:Int) ||| BitVec.ofInt 64 (b:Int)).toNat:Int)=_
 rw[BitVec.toNat_or,ofInt_i64 a ha,ofInt_i64 b hb,IntKind.wrap_i64];omega
theorem and_one(a:Nat)(ha:a<9223372036854775808):bits .and .i64 (a:Int) 1=((a%2:Nat):Int):=by
 have:=i64_and_nat a 1 ha om_;rw[Nat.and_one_is_mod] at this;exact this
def sh(c k:Nat):Int:=(c/2^k:Nat)
def bt(c k:Nat):Int:=(c/2^k%2:Nat)
def mI(l r c m:Nat):Int:=(mort (l-m) (r/2^m) (c/2^m):Nat)
theorem sh_eq(c k:Nat):(c:Int)/2^k=sh c k:=by simp[sh]
theorem bt_eq(c k:Nat)(h:c<131072):bits .and .i64 (sh c k) 1=bt c k:=by
 have:=Nat.div_le_self c (2^k);exact and_one _ om_
theorem bt_bd(c k:Nat):0≤bt c k∧bt c k≤1:=by unfold bt;omega
theorem mI_top(l r c:Nat):mI l r c l=sh c l:=by simp[mI,mort,sh]
theorem mI_zero(l r c:Nat):mI l r c 0=(mort l r c:Nat):=by simp[mI]
theorem mI_step(l r c k:Nat)(h:k+1≤l):mI l r c k=4*mI l r c (k+1)+2*bt r k+bt c k:=by
 have:=mort_step (l-(k+1)) r c k;have e:l-(k+1)+1=l-k:=by omega
 rw[e] at this;unfold mI bt;omega
theorem mI_bd(l r c m:Nat)(hl:l≤16)(hm:m≤l)(h3:c<2*2^l):0≤mI l r c m∧mI l r c m<8589934592:=by
 have h:=mort_le (l-m) (r/2^m) (c/2^m) om_ (by
  rw[Nat.div_lt_iff_lt_mul (Nat.pow_pos om_),Nat.mul_assoc,←Nat.pow_add,show l-m+m=l by omega];exact h3)
 unfold mI;omega
theorem spanOf_nat(l r c:Nat)(w:World)(h1:l≤16)(h2:r<2^l)(h3:c<2*2^l):
 Calls Tryz.prog 148 #[.agg #[vi vk l,vi vk r,vi vk c]] w fun e w'=>e=.returned (.agg #[vi vk (mort l r c*csz l:Nat),vi vk ((mort l r c+1)*csz l:Nat)])∧Below w.heap.size w w':=by
 have hp:2^l≤65536:=by
  have:2^l≤2^16:=Nat.pow_le_pow_right om_ h1;simpa using this
 have hr:r<131072:=by omega
 have hc:c<131072:=by omega
 have h3':=hid h3;clear h3 h2 hp;have e1:=sh_eq c l;go_enter func148,ntmps148;go_wp2;clear e1;go_loopw [3,4] (fun n i wr=> ∃(m q:Nat) (i':Int),m≤l∧(m:Int)=i'+1∧i=vi vk i'∧n=vi vk (mI l r c m)∧wr=((w.alloc (.cells #[vi vk l,vi vk r,vi vk c] 58)).alloc (.cells #[vi vk 0,vi vk 0] 186)).drewN q) (fun _ i _=>(intOf i+1).toNat)
 case atStart=>exact⟨l,0,_,Nat.le_refl _,om_,rfl,by rw[mI_top],rfl⟩
 case round=>
  obtain⟨m,q,i',hm,hi,rfl,rfl,rfl⟩:=hrel;match m,hm,hi with
  |0,hm,hi=>
   obtain rfl:i'= -1:=by omega
   have hb:=sp_bd l r c h1 h3'.out;have hb2:=mI_bd l r c 0 h1 om_ h3'.out;have hz:=csz_le l;have e2:wrap64 ((2:Int)^(2*(16-l)))=(csz l:Int):=by rw[csz_shift' l];exact IntWalk.wrap64_in _ om_
   have e3:wrap64 (mI l r c 0*(csz l:Int))=((mort l r c*csz l:Nat):Int):=by rw[mI_zero,←Int.natCast_mul];exact IntWalk.wrap64_in _ om_
   have e4:wrap64 ((mI l r c 0+1)*(csz l:Int))=(((mort l r c+1)*csz l:Nat):Int):=by
    rw[mI_zero];have e:(((mort l r c:Nat):Int)+1)*(csz l:Int)=(((mort l r c+1)*csz l:Nat):Int):=by simp
    rw[e];exact IntWalk.wrap64_in _ om_
   have E3:=hid e3;have E4:=hid e4;clear e3 e4 hb hi;go_wp2;have hv:(Value.agg #[vi vk (mort l r c*csz l:Nat),vi vk ((mort l r c+1)*csz l:Nat)])=.agg #[vi vk (wrap64 (mI l r c 0*(csz l:Int))),vi vk (wrap64 ((mI l r c 0+1)*(csz l:Int)))]:=by rw[E3.out,E4.out]
   rw[hv];refine bodyPost_ret (v:=.agg #[vi vk (wrap64 (mI l r c 0*(csz l:Int))),vi vk (wrap64 ((mI l r c 0+1)*(csz l:Int)))]) (by simp[results,results148,go_sem]) rfl ⟨rfl,?_⟩;exact bl_
  |k+1,hm,hi=>
   obtain rfl:i'=(k:Int):=by omega
   have hms:=hid (mI_step l r c k hm);have hb:=mI_bd l r c (k+1) h1 hm h3'.out;have hb':=mI_bd l r c k h1 om_ h3'.out;have b1:=bt_bd r k;have b2:=bt_bd c k;have f1:=sh_eq r k;have f2:=sh_eq c k;have f3:=bt_eq r k hr;have f4:=bt_eq c k hc;have s1:IntKind.i64.wrap (4*mI l r c (k+1))=4*mI l r c (k+1):=IntWalk.i64_in _ (by clear f1 f2 f3 f4;omega);have s2:IntKind.i64.wrap (2*bt r k)=2*bt r k:=IntWalk.i64_in _ (by clear f1 f2 f3 f4 s1;omega);have s3:IntKind.i64.wrap (4*mI l r c (k+1)+2*bt r k)=4*mI l r c (k+1)+2*bt r k:=IntWalk.i64_in _ (by clear f1 f2 f3 f4 s1 s2;omega);have s4:IntKind.i64.wrap (4*mI l r c (k+1)+2*bt r k+bt c k)=4*mI l r c (k+1)+2*bt r k+bt c k:=IntWalk.i64_in _ (by clear f1 f2 f3 f4 s1 s2 s3;omega);clear hi;go_wp2;go_quiet (fail);clear f1 f2 f3 f4 s1 s2 s3 s4;go_wp2;go_roundw
   case rel=>exact⟨k,q+nq,(k:Int)-1,om_,om_,rfl,by rw[hms.out],rfl⟩
   case measure=>simp[intOf]
def sh4(n k:Nat):Int:=(n/4^k:Nat)
def dg(n k:Nat):Int:=(n/4^k%4:Nat)
def rI(n k:Nat):Int:=(rwTo k n:Nat)
def cI(n k:Nat):Int:=(clTo k n:Nat)
def d2(n k:Nat):Int:=(n/4^k%4/2:Nat)
def d1(n k:Nat):Int:=(n/4^k%4%2:Nat)
def rb(n k:Nat):Int:=(n/4^k%4/2*2^k:Nat)
def cb(n k:Nat):Int:=(n/4^k%4%2*2^k:Nat)
def tb(n k:Nat):Int:=(n/4^k*2^k:Nat)
theorem sh4_eq(n k:Nat):(n:Int)/2^(2*k)=sh4 n k:=by
 unfold sh4;rw[show(4:Nat)=2^2 from rfl,←Nat.pow_mul];simp
theorem dg_eq(n k:Nat)(h:n<8589934592):bits .and .i64 (sh4 n k) 3=dg n k:=by
 have h2:=Nat.div_le_self n (4^k);have:=i64_and_nat (n/4^k) 3 om_ om_;rw[show(3:Nat)=2^2-1 from rfl,Nat.and_two_pow_sub_one_eq_mod] at this;exact this
theorem d2_eq(n k:Nat):dg n k/2=d2 n k:=by unfold dg d2;omega
theorem d1_eq(n k:Nat):bits .and .i64 (dg n k) 1=d1 n k:=and_one _ om_
theorem pow16{k:Nat}(h:k≤16):1≤2^k∧2^k≤65536:=by
 have:2^k≤2^16:=Nat.pow_le_pow_right om_ h;have:0<2^k:=Nat.pow_pos om_;omega
theorem rb_eq(n k:Nat)(h:k≤16):IntKind.i64.wrap (d2 n k*2^k)=rb n k:=by
 have e:d2 n k*2^k=rb n k:=by unfold d2 rb;simp
 have hp:=pow16 h;have hb:n/4^k%4/2*2^k≤1*2^k:=Nat.mul_le_mul_right _ om_;rw[e];refine IntWalk.i64_in _ ?_;unfold rb;omega
theorem cb_eq(n k:Nat)(h:k≤16):IntKind.i64.wrap (d1 n k*2^k)=cb n k:=by
 have e:d1 n k*2^k=cb n k:=by unfold d1 cb;simp
 have hp:=pow16 h;have hb:n/4^k%4%2*2^k≤1*2^k:=Nat.mul_le_mul_right _ om_;rw[e];refine IntWalk.i64_in _ ?_;unfold cb;omega
theorem tb_eq(n l:Nat)(h:l≤16)(hn:n<2*4^l):IntKind.i64.wrap (sh4 n l*2^l)=tb n l:=by
 have e:sh4 n l*2^l=tb n l:=by unfold sh4 tb;simp
 have hp:=pow16 h;have h2:n/4^l<2:=by rw[Nat.div_lt_iff_lt_mul (Nat.pow_pos om_)];exact hn
 have hb:n/4^l*2^l≤1*2^l:=Nat.mul_le_mul_right _ om_;rw[e];refine IntWalk.i64_in _ ?_;unfold tb;omega
theorem rI_step(n k:Nat)(h:k<16):bits .or .i64 (rI n k) (rb n k)=rI n (k+1):=by
 have hp:=pow16 (k:=k) om_;have hb:n/4^k%4/2*2^k≤1*2^k:=Nat.mul_le_mul_right _ om_;have hl:=rwTo_lt k n;have:=i64_or_nat (rwTo k n) (n/4^k%4/2*2^k) om_ om_;rw[or_top _ _ _ hl] at this;exact this
theorem cI_step(n k:Nat)(h:k<16):bits .or .i64 (cI n k) (cb n k)=cI n (k+1):=by
 have hp:=pow16 (k:=k) om_;have hb:n/4^k%4%2*2^k≤1*2^k:=Nat.mul_le_mul_right _ om_;have hl:=clTo_lt k n;have:=i64_or_nat (clTo k n) (n/4^k%4%2*2^k) om_ om_;rw[or_top _ _ _ hl] at this;exact this
theorem cI_top(n l:Nat)(h:l≤16)(hn:n<2*4^l):bits .or .i64 (cI n l) (tb n l)=(colOf l n:Nat):=by
 have hp:=pow16 h;have h2:n/4^l<2:=by rw[Nat.div_lt_iff_lt_mul (Nat.pow_pos om_)];exact hn
 have hb:n/4^l*2^l≤1*2^l:=Nat.mul_le_mul_right _ om_;have hl:=clTo_lt l n;have:=i64_or_nat (clTo l n) (n/4^l*2^l) om_ om_;rw[or_top _ _ _ hl] at this;exact this
theorem set_three1(W:World)(a b c:Value)(t:TypeId)(q g:Nat)(v:Value)(hg:g=W.heap.size):((W.alloc (.cells #[a,b,c] t)).drewN q).setCell ⟨g,1,none⟩ v=(W.alloc (.cells #[a,v,c] t)).drewN q:=set_new W _ t q 1 g v hg
theorem set_three2(W:World)(a b c:Value)(t:TypeId)(q g:Nat)(v:Value)(hg:g=W.heap.size):((W.alloc (.cells #[a,b,c] t)).drewN q).setCell ⟨g,2,none⟩ v=(W.alloc (.cells #[a,b,v] t)).drewN q:=set_new W _ t q 2 g v hg
theorem cellOf_nat(n l:Nat)(w:World)(h1:l≤16)(h2:n<2*4^l):
 Calls Tryz.prog 147 #[vi vk n,vi vk l] w fun e w'=>e=.returned (.agg #[vi vk l,vi vk (rwTo l n:Nat),vi vk (colOf l n:Nat)])∧Below w.heap.size w w':=by
 have hn:n<8589934592:=by
  have:(4:Nat)^l≤4^16:=Nat.pow_le_pow_right om_ h1;omega
 have H2:=hid h2;clear h2;go_enter func147,ntmps147;go_wp2;go_loopw [11] (fun i wr=> ∃k q:Nat,k≤l∧i=vi vk k∧wr=((w.alloc (.cells #[vi vk 0,vi vk 0,vi vk 0] 58)).alloc (.cells #[vi vk l,vi vk (rI n k),vi vk (cI n k)] 58)).drewN q) (fun i _=>l-(intOf i).toNat)
 case atStart=>exact⟨0,0,Nat.zero_le _,rfl,by simp[rI,cI,rwTo,clTo];rfl⟩
 case round=>
  obtain⟨k,q,hk,rfl,rfl⟩:=hrel;by_cases hlt:k<l
  · have f1:=sh4_eq n k
    have f2:=dg_eq n k hn;have f3:=d2_eq n k;have f4:=d1_eq n k;have f5:=rb_eq n k om_;have f6:=cb_eq n k om_;have f7:=rI_step n k om_;have f8:=cI_step n k om_;go_wp2;refine wp_still_tail 8 (by kernel_rfl) (by kernel_rfl) ?_;simp only[List.take_succ_cons,List.take_zero,List.drop_succ_cons,List.drop_zero];repeat still_step
    refine wpStill_nil ?_;go_wp2;rw[set_three1 _ _ _ _ _ _ _ _ (by simp)];refine wp_still_tail 8 (by kernel_rfl) (by kernel_rfl) ?_;simp only[List.take_succ_cons,List.take_zero,List.drop_succ_cons,List.drop_zero];repeat still_step
    refine wpStill_nil ?_;clear f1 f2 f3 f4 f5 f6 f7 f8;go_wp2;go_roundw
    case rel=>exact⟨k+1,q+1+1,om_,by go_num,set_three2 _ _ _ _ _ _ _ _ (by simp)⟩
    case measure=>simp[intOf];omega
  · have hkl:k=l:=by omega
    subst hkl;have f1:=sh4_eq n k;have f2:=tb_eq n k h1 H2.out;have f3:=cI_top n k h1 H2.out;have f4:IntKind.i64.wrap (2*(k:Int))=2*(k:Int):=IntWalk.i64_in _ (by clear f1 f2 f3;omega);have f5:(2*(k:Int)).toNat=2*k:=by clear f1 f2 f3 f4;omega
    have f6:0≤2*(k:Int):=by clear f1 f2 f3 f4;omega
    have f7:2*(k:Int)≤64:=by clear f1 f2 f3 f4;omega
    go_wp2;refine wp_still_tail 10 (by kernel_rfl) (by kernel_rfl) ?_;simp only[List.take_succ_cons,List.take_zero,List.drop_succ_cons,List.drop_zero];repeat still_step
    refine wpStill_nil ?_;clear f1 f2 f3 f4 f5 f6 f7;go_wp2;refine bodyPost_ret (v:=.agg #[vi vk k,vi vk (rwTo k n:Nat),vi vk (colOf k n:Nat)]) (by simp[results,results147,go_sem,rI]) rfl ⟨rfl,?_⟩;exact bl_
section
open Go.Sort
theorem isNaN_any(a:Int)(w:World):Calls Tryz.prog 156 #[vi vk a] w fun e w'=>e=.returned (.bool false)∧w'=w:=by
 have h:(a != a)=false:=by simp
 go_enter func156,ntmps156;go_wp2;go_ret;exact⟨rfl,rfl⟩
theorem compare_any(a b:Int)(w:World):Calls Tryz.prog 117 #[vi vk a,vi vk b] w fun e w'=>e=.returned (vi vk (Lib.compareInt a b))∧w'=w:=by
 rcases Int.lt_trichotomy a b with h|h|h
 · have e:Lib.compareInt a b= -1:=by simp[Lib.compareInt,h]
   rw[e];clear e;go_enter func117,ntmps117;go_wp2_with (go_at_call 156;refine(isNaN_any _ _).mono ?_;rintro e w' ⟨rfl,rfl⟩);go_ret;exact⟨rfl,rfl⟩
 · subst h
   have e:Lib.compareInt a a=0:=by simp[Lib.compareInt]
   rw[e];clear e;go_enter func117,ntmps117;go_wp2_with (go_at_call 156;refine(isNaN_any _ _).mono ?_;rintro e w' ⟨rfl,rfl⟩);go_ret;exact⟨rfl,rfl⟩
 · have h': ¬a<b:=by omega
   have e:Lib.compareInt a b=1:=by simp[Lib.compareInt,h,h']
   rw[e];clear e;go_enter func117,ntmps117;go_wp2_with (go_at_call 156;refine(isNaN_any _ _).mono ?_;rintro e w' ⟨rfl,rfl⟩);go_ret;exact⟨rfl,rfl⟩
def orI(x y:Int):Int:=if x=0 then y else x
theorem or_any(b:Nat)(x y:Int)(w:World)(h1:w.cell? ⟨b,0,none⟩=some (vi vk x))(h2:w.cell? ⟨b,1,none⟩=some (vi vk y)):
 Calls Tryz.prog 151 #[.slice (some ⟨b,0,none⟩) 2 2] w fun e w'=>e=.returned (vi vk (orI x y))∧w'=w:=by
 go_enter func151,ntmps151;go_wp2;go_loop [8] (fun i=> ∃k:Nat,k≤2∧i=vi vk k∧(1≤k→x=0)∧(2≤k→y=0)) (fun i=>2-(intOf i).toNat)
 case atStart=>exact⟨0,om_,rfl,om_,om_⟩
 case round=>
  obtain⟨k,hk,rfl,hx,hy⟩:=hrel;match k,hk,hx,hy with
  |0,_,_,_=>
   clear hx hy hk;by_cases h:x=0
   · have H:=hid h
     have h':(x != 0)=false:=by simp[h]
     clear h;go_wp2;go_round
     case rel=>exact⟨1,om_,rfl,fun _=>H.out,om_⟩
     case measure=>simp[intOf]
   · have h':(x != 0)=true:=by simp[h]
     have H:=hid h;clear h;go_wp2;go_ret;exact⟨ret_int (by simp[orI,H.out]),rfl⟩
  |1,_,hx,_=>
   have HX:=hid (hx om_);clear hx hk;by_cases h:y=0
   · have H:=hid h
     have h':(y != 0)=false:=by simp[h]
     clear h;go_wp2;go_round
     case rel=>exact⟨2,om_,rfl,fun _=>HX.out,fun _=>H.out⟩
     case measure=>simp[intOf]
   · have h':(y != 0)=true:=by simp[h]
     clear h;go_wp2;go_ret;exact⟨ret_int (by simp[orI,HX.out]),rfl⟩
  |2,_,hx,hy=>
   have HX:=hid (hx om_);have HY:=hid (hy om_);clear hx hy hk;go_wp2;go_ret;exact⟨ret_int (by simp[orI,HX.out,HY.out]),rfl⟩
def cmpS(x y:Int×Int):Int:=orI (Lib.compareInt x.1 y.1) (Lib.compareInt y.2 x.2)
theorem coverCmp_any(x y:Int×Int)(W:World):Calls Tryz.prog 150 #[.agg #[vi vk x.1,vi vk x.2],.agg #[vi vk y.1,vi vk y.2]] W fun e w'=>e=.returned (vi vk (cmpS x y))∧ ∃q os',w'=grow (W.drewN q) os':=by
 have C1:=fun W=>compare_any x.1 y.1 W;have C2:=fun W=>compare_any y.2 x.2 W;unfold cmpS;generalize Lib.compareInt x.1 y.1=u at C1⊢;generalize Lib.compareInt y.2 x.2=v at C2⊢;have C1:=hid C1;have C2:=hid C2;go_enter func150,ntmps150;go_wp2;refine wp_still_tail 10 (by kernel_rfl) (by kernel_rfl) ?_;simp only[List.take_succ_cons,List.take_zero,List.drop_succ_cons,List.drop_zero];repeat still_step
 still_call (C1.out _)
 repeat still_step
 still_call (C2.out _)
 repeat still_step
 refine wpStill_nil ?_;go_wp2_with (go_at_call 151;refine(or_any _ u v _ (by go_simp) (by go_simp)).mono ?_;rintro e w' ⟨rfl,rfl⟩);go_ret;refine⟨rfl,1,#[.cells #[vi vk x.1,vi vk x.2] 186,.cells #[vi vk y.1,vi vk y.2] 186,.cells #[vi vk u,vi vk v] 3],?_⟩;rw[alloc_eq_grow,alloc_eq_grow,alloc_eq_grow,grow_grow];rfl
end
def IdxPost(w:World)(b:Bool)(e:Ending)(w':World):Prop:= ∃k:Int,e=.returned (vi vk k)∧decide (0≤k)=b∧Below w.heap.size w w'
theorem invalid_any(x:Cl)(w:World):Calls Tryz.prog 108 #[cva x] w fun e w'=>e=.returned (.bool (!(vldB x.1 x.2.1 x.2.2)))∧Below w.heap.size w w':=by
 obtain⟨l,r,c⟩:=x;have V:=hid (fun w=>valid_any l r c w);generalize vldB l r c=b at V⊢;go_enter func108,ntmps108;go_wp2_with (go_at_call 112;refine(V.out _).mono ?_;rintro e w1 ⟨rfl,hb⟩);go_ret;exact⟨rfl,one_bl hb⟩
theorem any_take_succ(L:List Cl)(p:Cl→Bool)(k:Nat)(hk:k<L.length)(h:(L.take k).any p=false)(hp:p (gt L k)=false):(L.take (k+1)).any p=false:=by
 rw[List.take_succ_eq_append_getElem hk,List.any_append,h];simp[gt,hk] at hp;simp[hp]
theorem any_of_gt(L:List Cl)(p:Cl→Bool)(k:Nat)(hk:k<L.length)(hp:p (gt L k)=true):L.any p=true:=by
 rw[List.any_eq_true];simp[gt,hk] at hp;exact⟨L[k],List.getElem_mem hk,hp⟩
theorem idxFunc_any(g:Nat)(lb:Array Value)(p:Cl→Bool)(eg: ∀args w,(callFunc g args).run Tryz.prog w=.ok (.enter g args) w)(A:Option Addr)(n c:Nat)(L:List Cl)(w:World)
 (hr:Reads w w.heap.size 3 A n (cvs L)) (hn:n≤maxLen) (hp: ∀(W:World) (x:Cl),Below w.heap.size w W→Calls Tryz.prog g (#[cva x]++lb) W fun e w'=>e=.returned (.bool (p x))∧Below W.heap.size W w'):
 Calls Tryz.prog 146 #[.slice A n c,.func (.func g) #[] lb] w (IdxPost w (L.any p)):=by
 have HL:=hid hr.len;have HR:=hid hr;have HP:=hid hp;clear hr hp;unfold maxLen at hn;go_enter func146,ntmps146;go_wp2;go_loopg [8] n (fun gg s8 wr=> ∃kk:Nat,kk≤n∧n-kk≤gg∧s8=vi vk kk∧Below w.heap.size w wr∧(L.take kk).any p=false)
 case atStart=>exact⟨0,Nat.zero_le _,om_,rfl,Below.refl _ w,rfl⟩
 case round=>
  obtain⟨kk,hkk,hg,rfl,BW,HA⟩:=hrel;have HA:=hid HA;by_cases hlt:kk<n
  · obtain⟨b,off,rfl,hb,x1,x2,x3⟩:=HR.out.elem hlt
    have y1:=(BW.cell (p:=⟨b,off+kk*3,none⟩) hb).trans x1;have y2:=(BW.cell (p:=⟨b,off+kk*3+1,none⟩) hb).trans x2;have y3:=(BW.cell (p:=⟨b,off+kk*3+2,none⟩) hb).trans x3;clear x1 x2 x3;have hcall:=HP.out wr (gt L kk) BW;have h1:=hid (any_take_succ L p kk (by rw[HL.out];exact hlt) HA.out);have h2:=hid (any_of_gt L p kk (by rw[HL.out];exact hlt));cases hq:p (gt L kk) with
    |true=>
     have h3:=hid (h2.out hq);rw[hq] at hcall;have hcall:=hid hcall;clear hq h1 h2;go_wp2_with (go_at_fn g;refine hcall.out.mono ?_;rintro e w' ⟨rfl,hb'⟩);go_ret;exact⟨kk,rfl,by rw[h3.out];simp,BW.trans (hb'.mono BW.size)⟩
    |false=>
     have h3:=hid (h1.out hq);rw[hq] at hcall;have hcall:=hid hcall;clear hq h1 h2;go_wp2_with (go_at_fn g;refine hcall.out.mono ?_;rintro e w' ⟨rfl,hb'⟩);go_roundg (n-(kk+1))
     case measure=>omega
     case rel=>exact⟨kk+1,om_,om_,by go_num,BW.trans (hb'.mono BW.size),h3.out⟩
  · go_wp2
    go_ret;have h:=HA.out;rw[List.take_of_length_le (by rw[HL.out];omega)] at h;exact⟨-1,rfl,by rw[h];rfl,BW⟩
theorem contFunc_any(g:Nat)(lb:Array Value)(p:Cl→Bool)(eg: ∀args w,(callFunc g args).run Tryz.prog w=.ok (.enter g args) w)(A:Option Addr)(n c:Nat)(L:List Cl)(w:World)
 (hr:Reads w w.heap.size 3 A n (cvs L)) (hn:n≤maxLen) (hp: ∀(W:World) (x:Cl),Below w.heap.size w W→Calls Tryz.prog g (#[cva x]++lb) W fun e w'=>e=.returned (.bool (p x))∧Below W.heap.size W w'):
 Calls Tryz.prog 107 #[.slice A n c,.func (.func g) #[] lb] w fun e w'=>e=.returned (.bool (L.any p))∧Below w.heap.size w w':=by
 have H:=hid (idxFunc_any g lb p eg A n c L w hr hn hp);clear hp hr hn eg;go_enter func107,ntmps107;go_wp2_with (go_at_call 146;refine H.out.mono ?_;rintro e w1 ⟨k,rfl,hk,hb⟩;have HK:=hid hk;clear hk);go_ret;exact⟨ret_bool HK.out,hb⟩
theorem allValid_any(A:Option Addr)(n c:Nat)(L:List Cl)(w:World)(hr:Reads w w.heap.size 3 A n (cvs L))(hn:n≤maxLen):
 Calls Tryz.prog 107 #[.slice A n c,.func (.func 108) #[] #[]] w fun e w'=>e=.returned (.bool (L.any fun x=> !(vldB x.1 x.2.1 x.2.2)))∧Below w.heap.size w w':=
 contFunc_any _ _ _ (enters_of func108 (by kernel_rfl) rfl) A n c L w hr hn fun W x _=>invalid_any x W
end Go.Proofs.YtdeiofgddhbdaaaGreatDoor
namespace Go.Proofs
open YtdeiofgddhbdaaaGreatDoor (om_ dc_ so_)
open Go.Shelf
def Tryz.sortSpan_ren:Go.Shelf.Ren:=⟨fun|6=>149|15=>188|14=>187|28=>213|29=>172|20=>205|21=>206|22=>207|23=>208|24=>209|25=>210|26=>211|27=>212|46=>235|47=>236|48=>237|49=>238|50=>239|57=>257|n=>n,fun|22=>149|24=>186|25=>191|3=>3|39=>91|0=>0|53=>206|55=>170|4=>4|46=>225|45=>224|50=>80|5=>5|9=>9|66=>242|70=>246|76=>259|77=>112|n=>n,fun|n=>n⟩
theorem Tryz.sortSpan:Go.Proofs.SlLaysF0.n6 Tryz.prog Tryz.sortSpan_ren:={
 mixed:=by kernel_rfl
 f6:=⟨Tryz.f149.name,dc_,Tryz.func149.trans (congrArg some (by kernel_rfl))⟩
 f14:=⟨Tryz.f187.name,dc_,Tryz.func187.trans (congrArg some (by kernel_rfl))⟩
 f15:=Tryz.func188.trans (congrArg some (by kernel_rfl))
 f20:=⟨Tryz.f205.name,dc_,Tryz.func205.trans (congrArg some (by kernel_rfl))⟩
 f21:=⟨Tryz.f206.name,dc_,Tryz.func206.trans (congrArg some (by kernel_rfl))⟩
 f22:=⟨Tryz.f207.name,dc_,Tryz.func207.trans (congrArg some (by kernel_rfl))⟩
 f23:=⟨Tryz.f208.name,dc_,Tryz.func208.trans (congrArg some (by kernel_rfl))⟩
 f24:=⟨Tryz.f209.name,dc_,Tryz.func209.trans (congrArg some (by kernel_rfl))⟩
 f25:=⟨Tryz.f210.name,dc_,Tryz.func210.trans (congrArg some (by kernel_rfl))⟩
 f26:=⟨Tryz.f211.name,dc_,Tryz.func211.trans (congrArg some (by kernel_rfl))⟩
 f27:=⟨Tryz.f212.name,dc_,Tryz.func212.trans (congrArg some (by kernel_rfl))⟩
 f28:=Tryz.func213.trans (congrArg some (by kernel_rfl))
 f29:=Tryz.func172.trans (congrArg some (by kernel_rfl))
 f46:=⟨Tryz.f235.name,dc_,Tryz.func235.trans (congrArg some (by kernel_rfl))⟩
 f47:=Tryz.func236.trans (congrArg some (by kernel_rfl))
 f48:=Tryz.func237.trans (congrArg some (by kernel_rfl))
 f49:=⟨Tryz.f238.name,dc_,Tryz.func238.trans (congrArg some (by kernel_rfl))⟩
 f50:=⟨Tryz.f239.name,dc_,Tryz.func239.trans (congrArg some (by kernel_rfl))⟩
 f57:=⟨Tryz.f257.name,dc_,Tryz.func257.trans (congrArg some (by kernel_rfl))⟩
 t0:=underlying0
 a0:=Tryz.isAgg0
 z0:=Tryz.sizeOf0
 v0:=Tryz.zeroValue0
 t3:=underlying3
 a3:=Tryz.isAgg3
 z3:=Tryz.sizeOf3
 v3:=Tryz.zeroValue3
 t4:=underlying4
 a4:=Tryz.isAgg4
 z4:=Tryz.sizeOf4
 v4:=Tryz.zeroValue4
 t5:=underlying5
 a5:=Tryz.isAgg5
 z5:=Tryz.sizeOf5
 v5:=Tryz.zeroValue5
 t9:=underlying9
 a9:=Tryz.isAgg9
 z9:=Tryz.sizeOf9
 v9:=Tryz.zeroValue9
 t22:=underlying149
 a22:=Tryz.isAgg149
 z22:=Tryz.sizeOf149
 v22:=Tryz.zeroValue149
 t25:=underlying191
 a25:=Tryz.isAgg191
 z25:=Tryz.sizeOf191
 v25:=Tryz.zeroValue191
 t39:=underlying91
 a39:=Tryz.isAgg91
 z39:=Tryz.sizeOf91
 v39:=Tryz.zeroValue91
 t45:=underlying224
 a45:=Tryz.isAgg224
 z45:=Tryz.sizeOf224
 v45:=Tryz.zeroValue224
 t46:=underlying225
 a46:=Tryz.isAgg225
 z46:=Tryz.sizeOf225
 v46:=Tryz.zeroValue225
 t50:=underlying80
 a50:=Tryz.isAgg80
 z50:=Tryz.sizeOf80
 v50:=Tryz.zeroValue80
 t53:=underlying206
 a53:=Tryz.isAgg206
 z53:=Tryz.sizeOf206
 v53:=Tryz.zeroValue206
 t55:=underlying170
 a55:=Tryz.isAgg170
 z55:=Tryz.sizeOf170
 v55:=Tryz.zeroValue170
 t66:=underlying242
 a66:=Tryz.isAgg242
 z66:=Tryz.sizeOf242
 v66:=Tryz.zeroValue242
 t70:=underlying246
 a70:=Tryz.isAgg246
 z70:=Tryz.sizeOf246
 v70:=Tryz.zeroValue246
 t76:=underlying259
 a76:=Tryz.isAgg259
 z76:=Tryz.sizeOf259
 v76:=Tryz.zeroValue259
 t77:=underlying112
 a77:=Tryz.isAgg112
 z77:=Tryz.sizeOf112
 v77:=Tryz.zeroValue112}
def Tryz.sortArc_ren:Go.Shelf.Ren:=⟨fun|6=>154|15=>188|14=>190|28=>213|29=>172|20=>214|21=>215|22=>216|23=>217|24=>218|25=>219|26=>220|27=>221|46=>240|47=>236|48=>237|49=>241|50=>242|57=>258|n=>n,fun|22=>102|24=>33|25=>156|3=>3|39=>91|0=>0|53=>206|55=>170|4=>4|46=>225|45=>224|50=>80|5=>5|9=>9|66=>242|70=>246|76=>259|77=>112|n=>n,fun|n=>n⟩
theorem Tryz.sortArc:Go.Proofs.SlLaysF0.n6 Tryz.prog Tryz.sortArc_ren:={
 mixed:=by kernel_rfl
 f6:=⟨Tryz.f154.name,dc_,Tryz.func154.trans (congrArg some (by kernel_rfl))⟩
 f14:=⟨Tryz.f190.name,dc_,Tryz.func190.trans (congrArg some (by kernel_rfl))⟩
 f15:=Tryz.func188.trans (congrArg some (by kernel_rfl))
 f20:=⟨Tryz.f214.name,dc_,Tryz.func214.trans (congrArg some (by kernel_rfl))⟩
 f21:=⟨Tryz.f215.name,dc_,Tryz.func215.trans (congrArg some (by kernel_rfl))⟩
 f22:=⟨Tryz.f216.name,dc_,Tryz.func216.trans (congrArg some (by kernel_rfl))⟩
 f23:=⟨Tryz.f217.name,dc_,Tryz.func217.trans (congrArg some (by kernel_rfl))⟩
 f24:=⟨Tryz.f218.name,dc_,Tryz.func218.trans (congrArg some (by kernel_rfl))⟩
 f25:=⟨Tryz.f219.name,dc_,Tryz.func219.trans (congrArg some (by kernel_rfl))⟩
 f26:=⟨Tryz.f220.name,dc_,Tryz.func220.trans (congrArg some (by kernel_rfl))⟩
 f27:=⟨Tryz.f221.name,dc_,Tryz.func221.trans (congrArg some (by kernel_rfl))⟩
 f28:=Tryz.func213.trans (congrArg some (by kernel_rfl))
 f29:=Tryz.func172.trans (congrArg some (by kernel_rfl))
 f46:=⟨Tryz.f240.name,dc_,Tryz.func240.trans (congrArg some (by kernel_rfl))⟩
 f47:=Tryz.func236.trans (congrArg some (by kernel_rfl))
 f48:=Tryz.func237.trans (congrArg some (by kernel_rfl))
 f49:=⟨Tryz.f241.name,dc_,Tryz.func241.trans (congrArg some (by kernel_rfl))⟩
 f50:=⟨Tryz.f242.name,dc_,Tryz.func242.trans (congrArg some (by kernel_rfl))⟩
 f57:=⟨Tryz.f258.name,dc_,Tryz.func258.trans (congrArg some (by kernel_rfl))⟩
 t0:=underlying0
 a0:=Tryz.isAgg0
 z0:=Tryz.sizeOf0
 v0:=Tryz.zeroValue0
 t3:=underlying3
 a3:=Tryz.isAgg3
 z3:=Tryz.sizeOf3
 v3:=Tryz.zeroValue3
 t4:=underlying4
 a4:=Tryz.isAgg4
 z4:=Tryz.sizeOf4
 v4:=Tryz.zeroValue4
 t5:=underlying5
 a5:=Tryz.isAgg5
 z5:=Tryz.sizeOf5
 v5:=Tryz.zeroValue5
 t9:=underlying9
 a9:=Tryz.isAgg9
 z9:=Tryz.sizeOf9
 v9:=Tryz.zeroValue9
 t22:=underlying102
 a22:=Tryz.isAgg102
 z22:=Tryz.sizeOf102
 v22:=Tryz.zeroValue102
 t25:=underlying156
 a25:=Tryz.isAgg156
 z25:=Tryz.sizeOf156
 v25:=Tryz.zeroValue156
 t39:=underlying91
 a39:=Tryz.isAgg91
 z39:=Tryz.sizeOf91
 v39:=Tryz.zeroValue91
 t45:=underlying224
 a45:=Tryz.isAgg224
 z45:=Tryz.sizeOf224
 v45:=Tryz.zeroValue224
 t46:=underlying225
 a46:=Tryz.isAgg225
 z46:=Tryz.sizeOf225
 v46:=Tryz.zeroValue225
 t50:=underlying80
 a50:=Tryz.isAgg80
 z50:=Tryz.sizeOf80
 v50:=Tryz.zeroValue80
 t53:=underlying206
 a53:=Tryz.isAgg206
 z53:=Tryz.sizeOf206
 v53:=Tryz.zeroValue206
 t55:=underlying170
 a55:=Tryz.isAgg170
 z55:=Tryz.sizeOf170
 v55:=Tryz.zeroValue170
 t66:=underlying242
 a66:=Tryz.isAgg242
 z66:=Tryz.sizeOf242
 v66:=Tryz.zeroValue242
 t70:=underlying246
 a70:=Tryz.isAgg246
 z70:=Tryz.sizeOf246
 v70:=Tryz.zeroValue246
 t76:=underlying259
 a76:=Tryz.isAgg259
 z76:=Tryz.sizeOf259
 v76:=Tryz.zeroValue259
 t77:=underlying112
 a77:=Tryz.isAgg112
 z77:=Tryz.sizeOf112
 v77:=Tryz.zeroValue112}
end Go.Proofs
namespace Go.Proofs.YtdeiofgddhbdaaaGreatDoor
section
open Go.Sort Go.Shelf
abbrev Sp:=Int×Int
def spv(x:Sp):List Value:=[vi vk x.1,vi vk x.2]
def spvs(D:List Sp):List Value:=D.flatMap spv
theorem spvs_length(D:List Sp):(spvs D).length=D.length*2:=by
 induction D with
 |nil=>rfl
 |cons x r ih=>simp[spvs,spv] at ih⊢;omega
theorem spvs_append(L M:List Sp):spvs (L++M)=spvs L++spvs M:=by simp[spvs]
theorem spv_one(x:Sp): ∀u∈spv x,u.oneCell'=true:=by
 intro u hu;simp[spv] at hu;rcases hu with rfl|rfl<;>rfl
def gs(L:List Sp)(k:Nat):Sp:=L.getD k (0,0)
theorem spvs_at(L:List Sp)(k:Nat)(hk:k<L.length):(spvs L)[k*2]? =some (vi vk (gs L k).1)∧(spvs L)[k*2+1]? =some (vi vk (gs L k).2):=by
 induction L generalizing k with
 |nil=>simp at hk
 |cons x r ih=>
  have hc:spvs (x::r)=vi vk x.1::vi vk x.2::spvs r:=rfl;rw[hc];match k with
  |0=>simp[gs]
  |k+1=>
   have:=ih k (by simpa using hk);have e1:(k+1)*2=k*2+2:=by omega
   have e2:(k+1)*2+1=(k*2+1)+2:=by omega
   rw[e2,e1];simpa [gs] using this
theorem ltOf_cmpS(x y:Sp):ltOf cmpS x y=decide (x.1<y.1∨x.1=y.1∧y.2<x.2):=by
 unfold ltOf cmpS orI Lib.compareInt;by_cases h1:x.1<y.1
 · simp[h1]
 · by_cases h2:y.1<x.1
   · have: ¬x.1=y.1:=by omega
     simp[h1,h2,this]
   · have h3:x.1=y.1:=by omega
     by_cases h4:y.2<x.2
     · simp[h3,h4]
     · by_cases h5:x.2<y.2<;>simp[h3,h4,h5]
theorem swo_cmpS:SWO (ltOf cmpS) where
 irrefl x:=by rw[ltOf_cmpS];simp
 trans x y z h1 h2:=by rw[ltOf_cmpS] at*;simp only[decide_eq_true_eq] at*;omega
 ntrans x y z h1 h2:=by rw[ltOf_cmpS] at*;simp only[decide_eq_false_iff_not] at*;omega
theorem total_cmpS(x y:Sp)(h1:ltOf cmpS x y=false)(h2:ltOf cmpS y x=false):x=y:=by
 rw[ltOf_cmpS] at*;simp only[decide_eq_false_iff_not] at*;exact Prod.ext om_ om_
def sortS(D:List Sp):List Sp:=D.mergeSort fun x y=> !(ltOf cmpS) y x
theorem sortS_length(D:List Sp):(sortS D).length=D.length:=List.length_mergeSort _
theorem flat2(D:List Sp):flatK spv 2 D.toArray=(spvs D).toArray:=by
 refine ext_get! (by simp[spvs_length]) fun t ht=>?_;have ht':t<D.toArray.size*2:=by simpa using ht
 rw[get_flatK _ _ _ _ ht'];have hk:t/2<D.length:=by simp at ht';omega
 obtain⟨a1,a2⟩:=spvs_at D (t/2) hk;have hg:D.toArray[t/2]! =gs D (t/2):=by simp[gs,hk]
 rw[hg];rcases Nat.mod_two_eq_zero_or_one t with h|h
 · have e:t/2*2=t:=by omega
   rw[e] at a1;simp[spv,a1,h]
 · have e:t/2*2+1=t:=by omega
   rw[e] at a2;simp[spv,a2,h]
theorem own_row(w:World)(base:Nat)(t:TypeId)(size n cap g m:Nat)(xs:List Value)(F:Array Value)(os:Array Obj)(h:w.ownsRow base t size (.slice (some ⟨g,0,none⟩) n cap) n xs)(hF:F.size=n*size):
 (grow (putRow id (Sort.ahead w m) g 0 F) os).ownsRow base t size (.slice (some ⟨g,0,none⟩) n cap) n F.toList∧w.grownBy (grow (putRow id (Sort.ahead w m) g 0 F) os) (some g):=by
 rcases h.2 with ⟨h1,_⟩|⟨g',cap',cur,hv,hg,hh,hnc,hcm,hcs,htk⟩
 · cases h1
 · injection hv with e1 e2 e3
   injection e1 with e1
   injection e1 with e1
   subst e1 e3;have hlt:g<w.heap.size:=by
    rcases Nat.lt_or_ge g w.heap.size with hlt|hge
    · exact hlt
    · rw[Array.getElem?_eq_none hge] at hh;cases hh
   have hnew:(grow (putRow id (Sort.ahead w m) g 0 F) os).heap[g]? =some (.cells (putCells id 0 F cur) t (0,0)):=by
    rw[heap_grow_old _ _ (by simpa using hlt)];simp[putRow,mapBlock,Array.getElem?_modify,hh,onCells]
   refine⟨⟨by simpa using hF,.inr ⟨g,cap,putCells id 0 F cur,rfl,hg,hnew,hnc,hcm,by simpa [putCells] using hcs,?_⟩⟩,⟨rfl,rfl,rfl,by simp,fun i hi hne=>?_⟩⟩
   · apply List.ext_getElem?
     intro i;rw[List.getElem?_take];by_cases hi:i<n*size
     · have h2:n*size≤cap*size:=Nat.mul_le_mul_right _ hnc
       simp[hi,putCells,hF,hcs,show i<cap*size by omega]
     · simp only[hi,if_false]
       rw[List.getElem?_eq_none];simp[hF];omega
   · rw[heap_grow_old _ _ (by simpa using hi)]
     have hne': ¬g=i:=fun e=>hne (by rw[e]);simp[putRow,mapBlock,Array.getElem?_modify,hne']
theorem sortSpan_any(base:Nat)(v:Value)(D:List Sp)(w:World)(h:w.ownsRow base 186 2 v D.length (spvs D))(hn:D.length<4611686018427387904):
 Calls Tryz.prog 149 #[v,.func (.func 150) #[] #[]] w fun e w'=>e=.returned (.tuple #[])∧w'.ownsRow base 186 2 v D.length (spvs (sortS D))∧w.grownBy w' v.ownBlock:=by
 rcases Nat.eq_zero_or_pos D.length with h0|h0
 · have hD:D=[]:=List.eq_nil_of_length_eq_zero h0
   subst hD;have hs:sortS []=[]:=by simp[sortS]
   rw[hs];obtain⟨A,c,rfl,_⟩:=own_form h;have hcon:=AnyF.slices_SortFunc_none Tryz.sortSpan A c (.func (.func 150) #[] #[]) w;change Calls Tryz.prog 149 _ _ _ at hcon;refine hcon.mono ?_;rintro e w' ⟨rfl,rfl⟩
   exact⟨rfl,h,World.grownBy.refl _ _⟩
 · obtain⟨g,cap,rfl,hg,hlt⟩:=h.form h0
   have eg: ∀args w,(callFunc 150 args).run Tryz.prog w=.ok (.enter 150 args) w:=enters_of func150 (by kernel_rfl) rfl;have hH:HoldsK spv 2 w g 0 D.toArray:=by
    intro j hj;rw[flat2] at hj⊢;rcases h.2 with ⟨h1,_⟩|⟨g',cap',cur,hv,_,hh,hnc,hcm,hcs,htk⟩
    · cases h1
    · injection hv with e1 e2 e3
      injection e1 with e1
      injection e1 with e1
      subst e1;have hj':j<(spvs D).length:=by simpa using hj
      have hc:cur[j]? =some ((spvs D)[j]):=by
       have:=congrArg (·[j]?) htk;simp only[List.getElem?_take] at this;rw[spvs_length] at hj';rw[if_pos hj'] at this;rw[spvs_length] at*;rw[Array.getElem?_toList] at this;rw[this,List.getElem?_eq_getElem]
      refine⟨?_,?_⟩
      · simp[World.cell?,hh,hc,hj']
      · simp[World.frozen?,hh]
   have hcon:=AnyQ.slices_SortFunc_total Tryz.sortSpan 2 Tryz.isAgg186 Tryz.sizeOf186 spv (fun _=>rfl) (fun x v hv=>spv_one x v hv) cmpS swo_cmpS 150 #[] g 0 cap D.toArray w eg (fun _ _ _ _ x y=>coverCmp_any x y _) hH hlt (by simpa using hn) total_cmpS;change Calls Tryz.prog 149 _ _ _ at hcon;simp only[List.size_toArray] at hcon;refine hcon.mono ?_;rintro e w' ⟨rfl,m,os,rfl⟩
   have hF:=flat2 (sortS D);have hr:=own_row w base _ 2 D.length cap g m _ (flatK spv 2 (sortS D).toArray) os h (by simp[sortS_length]);refine⟨rfl,?_,hr.2⟩;have e:spvs (sortS D)=(flatK spv 2 (sortS D).toArray).toList:=by rw[hF]
   rw[e];exact hr.1
end
end Go.Proofs.YtdeiofgddhbdaaaGreatDoor
