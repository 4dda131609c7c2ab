/- Walks of invalid, slices.IndexFunc and slices.ContainsFunc at cells. -/
import Derived.Sort.Grow
import Derived.Lib.Small
import Derived.Shelf.Abstract
import Derived.Test.YtdeiofgddhbdaaaGreatHAh
set_option linter.unusedSimpArgs false
set_option linter.unusedVariables false
set_option maxHeartbeats 4000000
set_option maxRecDepth 100000
open Go.RowKit
open Go.Lib (hid)
open Go.Proofs.Tryz
open Go.Value renaming int→vi
open Go.IntKind renaming i64→vk
namespace Go.Proofs.YtdeiofgddhbdaaaGreat
theorem Parent_no(l r c:Int)(w:World)(hv:vldB l r c=false):
 Calls Tryz.prog 138 #[.agg #[vi vk l,vi vk r,vi vk c]] w fun e w'=>e=.returned (.tuple #[.agg #[vi vk 0,vi vk 0,vi vk 0],vi vk 1])∧Below w.heap.size w w':=by
 have V:=hid (valid_no l r c hv);clear hv;go_enter func138,ntmps138;go_wp2_with (go_at_call 107;refine(V.out _).mono ?_;rintro e w1 ⟨rfl,hb⟩;obtain⟨hc,hf⟩:=bcell hb;obtain⟨hz0,hz1⟩:=two_lt hb);refine bodyPost_ret (v:=.tuple #[.agg #[vi vk 0,vi vk 0,vi vk 0],vi vk 1]) (by simp[results,results138,go_sem,hc]) rfl ⟨rfl,?_⟩;have hb1:=two_bl hb;exact bl_
theorem Parent_top(l r c:Int)(w:World)(hv:vldB l r c=true)(hl:(l==0)=true):
 Calls Tryz.prog 138 #[.agg #[vi vk l,vi vk r,vi vk c]] w fun e w'=>e=.returned (.tuple #[.agg #[vi vk 0,vi vk 0,vi vk 0],vi vk 12])∧Below w.heap.size w w':=by
 have V:=hid (valid_yes l r c hv);clear hv;go_enter func138,ntmps138;go_wp2_with (go_at_call 107;refine(V.out _).mono ?_;rintro e w1 ⟨rfl,hb⟩;obtain⟨hc,hf⟩:=bcell hb;obtain⟨hz0,hz1⟩:=two_lt hb);refine bodyPost_ret (v:=.tuple #[.agg #[vi vk 0,vi vk 0,vi vk 0],vi vk 12]) (by simp[results,results138,go_sem,hc]) rfl ⟨rfl,?_⟩;have hb1:=two_bl hb;exact bl_
theorem Parent_yes(l r c:Int)(w:World)(hv:vldB l r c=true)(hl:(l==0)=false):
 Calls Tryz.prog 138 #[.agg #[vi vk l,vi vk r,vi vk c]] w fun e w'=>e=.returned (.tuple #[.agg #[vi vk (l-1),vi vk (r/2),vi vk (c/2)],vi vk 0])∧Below w.heap.size w w':=by
 have V:=hid (valid_yes l r c hv);obtain⟨h0,h1,h2,h3,h4,h5⟩:=vldB_true.1 hv;clear hv;have hp:=pw_bd h1;have r1:r≤131072:=by omega
 have c1:c≤131072:=by omega
 clear hp h3 h5;go_enter func138,ntmps138;go_wp2_with (go_at_call 107;refine(V.out _).mono ?_;rintro e w1 ⟨rfl,hb⟩;obtain⟨hc,hf⟩:=bcell hb;obtain⟨hz0,hz1⟩:=two_lt hb);refine bodyPost_ret (v:=.tuple #[.agg #[vi vk (l-1),vi vk (r/2),vi vk (c/2)],vi vk 0]) (by simp[results,results138,go_sem,hc]) rfl ⟨rfl,?_⟩;have hb1:=two_bl hb;exact bl_
theorem refParent_any(l r c:Int)(w:World)(h0:1≤l)(h1:l≤16)(h2:0≤r)(r1:r≤131072)(h4:0≤c)(c1:c≤131072):
 Calls Tryz.prog 133 #[.agg #[vi vk l,vi vk r,vi vk c]] w fun e w'=>e=.returned (.agg #[vi vk (l-1),vi vk (r/2),vi vk (c/2)])∧Below w.heap.size w w':=by
 go_enter func133,ntmps133;go_wp2;refine bodyPost_ret (v:=.agg #[vi vk (l-1),vi vk (r/2),vi vk (c/2)]) (by simp[results,results133,go_sem]) rfl ⟨rfl,?_⟩;exact bl_
def vptB(a b:Int):Bool:=decide (-5400000≤a∧a≤5400000∧ -10800000≤b∧b<10800000)
theorem vptB_true{a b:Int}:vptB a b=true↔(-5400000≤a∧a≤5400000∧ -10800000≤b∧b<10800000):=by simp[vptB]
theorem vpt_any(a b:Int)(w:World):
 Calls Tryz.prog 5 #[.agg #[vi vk a,vi vk b]] w fun e w'=>e=.returned (.bool (vptB a b))∧Below w.heap.size w w':=by
 unfold vptB;go_enter func5,ntmps5;go_wp2;all_goals
  go_ret;refine⟨ret_bool (by first|(simp_all;done)|(simp_all;omega)),?_⟩;exact bl_
def pn(n l:Int):Int:=(n+1)*pw l
def idx(n l m:Int):Int:=min ((pn n l+10799999)/10800000-1) m
theorem Children_no(l r c:Int)(w:World)(hv:vldB l r c=false):
 Calls Tryz.prog 101 #[.agg #[vi vk l,vi vk r,vi vk c]] w (RetCells w [] 1):=by
 have V:=hid (valid_no l r c hv);clear hv;go_enter func101,ntmps101;go_wp2_with (go_at_call 107;refine(V.out _).mono ?_;rintro e w1 ⟨rfl,hb⟩;obtain⟨hc,hf⟩:=bcell hb);go_ret2
 exact⟨_,rfl,⟨rfl,.inl ⟨rfl,rfl⟩⟩,one_bl hb⟩
theorem Children_yes(l r c:Int)(w:World)(hv:vldB l r c=true)(hl:(l==16)=false):
 Calls Tryz.prog 101 #[.agg #[vi vk l,vi vk r,vi vk c]] w (RetCells w (kids l r c) 0):=by
 have V:=hid (valid_yes l r c hv);obtain⟨h0,h1,h2,h3,h4,h5⟩:=vldB_true.1 hv;clear hv;have hp:=pw_bd h1;have r1:r≤131072:=by omega
 have c1:c≤131072:=by omega
 clear hp h3 h5;obtain⟨i0,hi0,hz0,hz1,hz2⟩:=info_parts Tryz.infoCell;go_enter func101,ntmps101;go_wp2_with (go_at_call 107;refine(V.out _).mono ?_;rintro e w1 ⟨rfl,hb⟩;obtain⟨hc,hf⟩:=bcell hb);have hlt:=one_lt hb;have hbl:=one_bl hb;have q0:w1.cell? ⟨w.heap.size,0,none⟩=some (vi vk l):=by rw[hc _ _ (by simp)];simp
 have q1:w1.cell? ⟨w.heap.size,1,none⟩=some (vi vk r):=by rw[hc _ _ (by simp)];simp
 have q2:w1.cell? ⟨w.heap.size,2,none⟩=some (vi vk c):=by rw[hc _ _ (by simp)];simp
 clear hc hf hb V;go_loopw [4,14] (fun v k wr=> ∃j:Nat,j≤4∧k=vi vk j∧wr.ownsRow w1.heap.size 55 3 v j (cvs ((kids l r c).take j))∧Below w1.heap.size w1 wr) (fun _ k _=>4-(intOf k).toNat)
 case atStart=>exact⟨0,om_,rfl,⟨rfl,.inl ⟨rfl,rfl⟩⟩,Below.refl _ _⟩
 case round=>
  obtain⟨j,hj,rfl,hown,hbr⟩:=hrel;have g0:wr.cell? ⟨w.heap.size,0,none⟩=some (vi vk l):=(hbr.cell (p:=⟨w.heap.size,0,none⟩) hlt).trans q0;have g1:wr.cell? ⟨w.heap.size,1,none⟩=some (vi vk r):=(hbr.cell (p:=⟨w.heap.size,1,none⟩) hlt).trans q1;have g2:wr.cell? ⟨w.heap.size,2,none⟩=some (vi vk c):=(hbr.cell (p:=⟨w.heap.size,2,none⟩) hlt).trans q2;by_cases hlt4:j<4
  · have hk:=hid (kids_take l r c hlt4)
    have hz:=hbr.size;go_wp2_with (at_builtin;(refine wpList_append_any _ rfl (.tmp 17) (.tmp 34) _ rfl w1.heap.size 55 i0 _ 3 24 underlying44 hi0 hz0 hz1 hz2 rfl dc_ u4 j (cvs ((kids l r c).take j)) rfl (hown.alloc _) (wr.heap.size+1) (some ⟨wr.heap.size,0,none⟩) 1 1 (cv (l+1,2*r+(j:Int)/2,2*c+(j:Int)%2)) rfl (reads_new wr _ _ _ _) (cv_one _) (by simp only[maxLen];omega) om_ (by simp;omega) ?_);intro v2 w2 hown2 hg2 hat2);go_roundw
    case rel=>exact⟨j+1,om_,by go_num,by rw[hk.out];exact hown2,(hbr.alloc hz _).grown hg2 (by simp;omega) (own_base hown)⟩
    case measure=>simp[intOf];omega
  · go_wp2
    have h4:j=4:=by omega
    subst h4;go_ret2
    exact⟨_,rfl,own_mono hown om_,hbl.trans (hbr.mono om_)⟩
theorem refChildren_any(l r c:Int)(w:World)(h0:0≤l)(h1:l≤16)(h2:0≤r)(r1:r≤131072)(h4:0≤c)(c1:c≤131072):
 Calls Tryz.prog 88 #[.agg #[vi vk l,vi vk r,vi vk c]] w (RetCells1 w (kids l r c)):=by
 have s1:IntKind.i64.wrap (2*r)=2*r:=IntWalk.i64_in _ om_;have s2:IntKind.i64.wrap (2*c)=2*c:=IntWalk.i64_in _ (by clear s1;omega);go_enter func88,ntmps88;go_wp2;go_quiet (fail);clear s1 s2;go_wp2;go_ret;refine⟨.slice (some ⟨w.heap.size+1,0,none⟩) 4 4,rfl,own_new _ _ _ 3 4 _ _ (by simp) (by simp) rfl (by simp[maxLen]),?_⟩;exact bl_
theorem vpt_yes(a b:Int)(hv:vptB a b=true)(w:World):Calls Tryz.prog 5 #[.agg #[vi vk a,vi vk b]] w fun e w'=>e=.returned (.bool true)∧Below w.heap.size w w':=by
 rw[←hv];exact vpt_any a b w
theorem refValid_any(l r c:Int)(w:World):
 Calls Tryz.prog 90 #[.agg #[vi vk l,vi vk r,vi vk c]] w fun e w'=>e=.returned (.bool (vldB l r c))∧Below w.heap.size w w':=by
 by_cases h0:0≤l
 · by_cases h1:l≤16
   · have e1:wrap64 (2^l.toNat)=pw l:=by rw[←IntWalk.i64_left];exact pw_wrap h1
     have hp:=pw_bd h1;have hv:vldB l r c=decide (0≤r∧r<pw l∧0≤c∧c<2*pw l):=by simp[vldB,h0,h1]
     rw[hv];clear hv;have h0': ¬l<0:=by omega
     go_enter func90,ntmps90;go_wp2;all_goals
      go_ret;refine⟨ret_bool (by clear e1;first|(simp_all;done)|(simp_all;omega)),?_⟩;exact bl_
   · have hv:vldB l r c=false:=by simp[vldB,h1]
     rw[hv];have h0': ¬l<0:=by omega
     have h1':16<l:=by omega
     clear hv;go_enter func90,ntmps90;go_wp2;go_ret;refine⟨rfl,?_⟩;exact bl_
 · have hv:vldB l r c=false:=by simp[vldB,h0]
   rw[hv];have h0':l<0:=by omega
   clear hv;go_enter func90,ntmps90;go_wp2;go_ret;refine⟨rfl,?_⟩;exact bl_
theorem edg_le_iff{k l N:Int}(h1:l≤16):edg k l≤N↔k≤(pn N l-1)/10800000:=by
 have hp:=pw_bd h1;unfold edg pn;rw[←Int.lt_add_one_iff,Int.ediv_lt_iff_lt_mul om_,Int.le_ediv_iff_mul_le om_];omega
def mort:Nat→Nat→Nat→Nat
 |0,_,c=>c
 |l+1,r,c=>4*mort l (r/2) (c/2)+2*(r%2)+c%2
theorem mort_step(m r c k:Nat):mort (m+1) (r/2^k) (c/2^k)=4*mort m (r/2^(k+1)) (c/2^(k+1))+2*(r/2^k%2)+c/2^k%2:=by
 simp only[mort,Nat.div_div_eq_div_mul,Nat.pow_succ]
theorem mort_lt(l:Nat): ∀r c:Nat,c<2*2^l→mort l r c<2*4^l:=by
 induction l with
 |zero=>intro r c h;simpa [mort] using h
 |succ l ih=>
  intro r c h;have h1:=ih (r/2) (c/2) (by rw[Nat.pow_succ] at h;omega);simp only[mort,Nat.pow_succ];omega
theorem mort_inj(l:Nat): ∀r c r' c':Nat,r<2^l→r'<2^l→mort l r c=mort l r' c'→r=r'∧c=c':=by
 induction l with
 |zero=>intro r c r' c' h h' e;simp[mort] at*;omega
 |succ l ih=>
  intro r c r' c' h h' e;simp only[mort] at e;have:=ih (r/2) (c/2) (r'/2) (c'/2) (by rw[Nat.pow_succ] at h;omega) (by rw[Nat.pow_succ] at h';omega) om_;omega
def csz(l:Nat):Nat:=4^(16-l)
theorem csz_pos(l:Nat):0<csz l:=Nat.pow_pos om_
theorem csz_le(l:Nat):csz l≤4294967296:=by
 have:csz l≤4^16:=Nat.pow_le_pow_right om_ om_;simpa using this
theorem csz_mul(l:Nat)(h:l≤16):4^l*csz l=4294967296:=by
 unfold csz;rw[←Nat.pow_add,show l+(16-l)=16 by omega]
def mortI(x:Cl):Nat:=mort x.1.toNat x.2.1.toNat x.2.2.toNat
def spF(x:Cl):Nat:=mortI x*csz x.1.toNat
def spT(x:Cl):Nat:=(mortI x+1)*csz x.1.toNat
theorem sp_bd(l r c:Nat)(hl:l≤16)(hc:c<2*2^l):mort l r c*csz l≤8589934592∧(mort l r c+1)*csz l≤8589934592:=by
 have h1:=mort_lt l r c hc;have h2:(mort l r c+1)*csz l≤(2*4^l)*csz l:=Nat.mul_le_mul_right _ om_;rw[Nat.mul_assoc,csz_mul l hl] at h2;have h3:mort l r c*csz l≤(mort l r c+1)*csz l:=Nat.mul_le_mul_right _ om_;omega
theorem mort_le(l r c:Nat)(hl:l≤16)(hc:c<2*2^l):mort l r c<8589934592:=by
 have h1:=mort_lt l r c hc;have:(4:Nat)^l≤4^16:=Nat.pow_le_pow_right om_ hl;omega
theorem csz_shift'(l:Nat):(2:Int)^(2*(16-l))=(csz l:Int):=by
 have h:(2:Nat)^(2*(16-l))=csz l:=by rw[Nat.pow_mul];rfl
 exact_mod_cast h
def rwTo:Nat→Nat→Nat
 |0,_=>0
 |k+1,n=>rwTo k n+n/4^k%4/2*2^k
def clTo:Nat→Nat→Nat
 |0,_=>0
 |k+1,n=>clTo k n+n/4^k%4%2*2^k
theorem rwTo_lt(k n:Nat):rwTo k n<2^k:=by
 induction k with
 |zero=>simp[rwTo]
 |succ k ih=>
  simp only[rwTo,Nat.pow_succ];have h:n/4^k%4/2≤1:=by omega
  have:=Nat.mul_le_mul_right (2^k) h;omega
theorem clTo_lt(k n:Nat):clTo k n<2^k:=by
 induction k with
 |zero=>simp[clTo]
 |succ k ih=>
  simp only[clTo,Nat.pow_succ];have h:n/4^k%4%2≤1:=by omega
  have:=Nat.mul_le_mul_right (2^k) h;omega
theorem or_top(a b k:Nat)(h:a<2^k):a ||| (b*2^k)=a+b*2^k:=by
 rw[Nat.or_comm,Nat.mul_comm b,←Nat.two_pow_add_eq_or_of_lt h,Nat.add_comm]
theorem rwTo_low(k n:Nat):rwTo (k+1) n=2*rwTo k (n/4)+n%4/2:=by
 induction k with
 |zero=>simp[rwTo]
 |succ k ih=>
  rw[rwTo,ih,rwTo,Nat.pow_succ,Nat.pow_succ,Nat.mul_comm (4^k) 4,←Nat.div_div_eq_div_mul,←Nat.mul_assoc];omega
theorem clTo_low(k n:Nat):clTo (k+1) n=2*clTo k (n/4)+n%4%2:=by
 induction k with
 |zero=>simp[clTo]
 |succ k ih=>
  rw[clTo,ih,clTo,Nat.pow_succ,Nat.pow_succ,Nat.mul_comm (4^k) 4,←Nat.div_div_eq_div_mul,←Nat.mul_assoc];omega
def colOf(l n:Nat):Nat:=clTo l n+n/4^l*2^l
theorem mort_of(l:Nat): ∀n:Nat,mort l (rwTo l n) (colOf l n)=n:=by
 induction l with
 |zero=>intro n;simp[mort,colOf,clTo]
 |succ l ih=>
  intro n;have h:=ih (n/4);have e1:rwTo (l+1) n/2=rwTo l (n/4):=by rw[rwTo_low];omega
  have e2:rwTo (l+1) n%2=n%4/2:=by rw[rwTo_low];omega
  have hx:colOf (l+1) n=2*colOf l (n/4)+n%4%2:=by
   unfold colOf;rw[clTo_low,Nat.pow_succ,Nat.pow_succ,Nat.mul_comm (4^l) 4,←Nat.div_div_eq_div_mul,←Nat.mul_assoc];omega
  have e3:colOf (l+1) n/2=colOf l (n/4):=by rw[hx];omega
  have e4:colOf (l+1) n%2=n%4%2:=by rw[hx];omega
  simp only[mort];rw[e1,e2,e3,e4,h];omega
theorem colOf_lt(l n:Nat)(h:n<2*4^l):colOf l n<2*2^l:=by
 have h1:=clTo_lt l n;have h2:n/4^l<2:=by rw[Nat.div_lt_iff_lt_mul (Nat.pow_pos om_)];exact h
 have h3:=Nat.mul_le_mul_right (2^l) (show n/4^l≤1 by omega);unfold colOf;omega
theorem ofInt_i64(a:Nat)(ha:a<9223372036854775808):(BitVec.ofInt 64 (a:Int)).toNat=a:=by
 rw[BitVec.ofInt_natCast,BitVec.toNat_ofNat];exact Nat.mod_eq_of_lt om_
theorem i64_and_nat(a b:Nat)(ha:a<9223372036854775808)(hb:b<9223372036854775808):bits .and .i64 (a:Int) (b:Int)=((a &&& b:Nat):Int):=by
 have hx:a &&& b<2^63:=Nat.and_lt_two_pow _ om_;show IntKind.i64.wrap ((BitVec.ofInt 64 (a:Int) &&& BitVec.ofInt 64 (b:Int)).toNat:Int)=_
 rw[BitVec.toNat_and,ofInt_i64 a ha,ofInt_i64 b hb,IntKind.wrap_i64];omega
theorem i64_or_nat(a b:Nat)(ha:a<9223372036854775808)(hb:b<9223372036854775808):bits .or .i64 (a:Int) (b:Int)=((a ||| b:Nat):Int):=by
 have hx:a ||| b<2^63:=Nat.or_lt_two_pow om_ om_;show IntKind.i64.wrap ((BitVec.ofInt 64 (a:Int) ||| BitVec.ofInt 64 (b:Int)).toNat:Int)=_
 rw[BitVec.toNat_or,ofInt_i64 a ha,ofInt_i64 b hb,IntKind.wrap_i64];omega
theorem and_one(a:Nat)(ha:a<9223372036854775808):bits .and .i64 (a:Int) 1=((a%2:Nat):Int):=by
 have:=i64_and_nat a 1 ha om_;rw[Nat.and_one_is_mod] at this;exact this
def sh(c k:Nat):Int:=(c/2^k:Nat)
def bt(c k:Nat):Int:=(c/2^k%2:Nat)
def mI(l r c m:Nat):Int:=(mort (l-m) (r/2^m) (c/2^m):Nat)
theorem sh_eq(c k:Nat):(c:Int)/2^k=sh c k:=by simp[sh]
theorem bt_eq(c k:Nat)(h:c<131072):bits .and .i64 (sh c k) 1=bt c k:=by
 have:=Nat.div_le_self c (2^k);exact and_one _ om_
theorem bt_bd(c k:Nat):0≤bt c k∧bt c k≤1:=by unfold bt;omega
theorem mI_top(l r c:Nat):mI l r c l=sh c l:=by simp[mI,mort,sh]
theorem mI_zero(l r c:Nat):mI l r c 0=(mort l r c:Nat):=by simp[mI]
theorem mI_step(l r c k:Nat)(h:k+1≤l):mI l r c k=4*mI l r c (k+1)+2*bt r k+bt c k:=by
 have:=mort_step (l-(k+1)) r c k;have e:l-(k+1)+1=l-k:=by omega
 rw[e] at this;unfold mI bt;omega
theorem mI_bd(l r c m:Nat)(hl:l≤16)(hm:m≤l)(h3:c<2*2^l):0≤mI l r c m∧mI l r c m<8589934592:=by
 have h:=mort_le (l-m) (r/2^m) (c/2^m) om_ (by
  rw[Nat.div_lt_iff_lt_mul (Nat.pow_pos om_),Nat.mul_assoc,←Nat.pow_add,show l-m+m=l by omega];exact h3)
 unfold mI;omega
theorem spanOf_nat(l r c:Nat)(w:World)(h1:l≤16)(h2:r<2^l)(h3:c<2*2^l):
 Calls Tryz.prog 70 #[.agg #[vi vk l,vi vk r,vi vk c]] w fun e w'=>e=.returned (.agg #[vi vk (mort l r c*csz l:Nat),vi vk ((mort l r c+1)*csz l:Nat)])∧Below w.heap.size w w':=by
 have hp:2^l≤65536:=by
  have:2^l≤2^16:=Nat.pow_le_pow_right om_ h1;simpa using this
 have hr:r<131072:=by omega
 have hc:c<131072:=by omega
 have h3':=hid h3;clear h3 h2 hp;have e1:=sh_eq c l;go_enter func70,ntmps70;go_wp2;clear e1;go_loopw [3,4] (fun n i wr=> ∃(m q:Nat) (i':Int),m≤l∧(m:Int)=i'+1∧i=vi vk i'∧n=vi vk (mI l r c m)∧wr=((w.alloc (.cells #[vi vk l,vi vk r,vi vk c] 55)).alloc (.cells #[vi vk 0,vi vk 0] 115)).drewN q) (fun _ i _=>(intOf i+1).toNat)
 case atStart=>exact⟨l,0,_,Nat.le_refl _,om_,rfl,by rw[mI_top],rfl⟩
 case round=>
  obtain⟨m,q,i',hm,hi,rfl,rfl,rfl⟩:=hrel;match m,hm,hi with
  |0,hm,hi=>
   obtain rfl:i'= -1:=by omega
   have hb:=sp_bd l r c h1 h3'.out;have hb2:=mI_bd l r c 0 h1 om_ h3'.out;have hz:=csz_le l;have e2:wrap64 ((2:Int)^(2*(16-l)))=(csz l:Int):=by rw[csz_shift' l];exact IntWalk.wrap64_in _ om_
   have e3:wrap64 (mI l r c 0*(csz l:Int))=((mort l r c*csz l:Nat):Int):=by rw[mI_zero,←Int.natCast_mul];exact IntWalk.wrap64_in _ om_
   have e4:wrap64 ((mI l r c 0+1)*(csz l:Int))=(((mort l r c+1)*csz l:Nat):Int):=by
    rw[mI_zero];have e:(((mort l r c:Nat):Int)+1)*(csz l:Int)=(((mort l r c+1)*csz l:Nat):Int):=by simp
    rw[e];exact IntWalk.wrap64_in _ om_
   have E3:=hid e3;have E4:=hid e4;clear e3 e4 hb hi;go_wp2;have hv:(Value.agg #[vi vk (mort l r c*csz l:Nat),vi vk ((mort l r c+1)*csz l:Nat)])=.agg #[vi vk (wrap64 (mI l r c 0*(csz l:Int))),vi vk (wrap64 ((mI l r c 0+1)*(csz l:Int)))]:=by rw[E3.out,E4.out]
   rw[hv];refine bodyPost_ret (v:=.agg #[vi vk (wrap64 (mI l r c 0*(csz l:Int))),vi vk (wrap64 ((mI l r c 0+1)*(csz l:Int)))]) (by simp[results,results70,go_sem]) rfl ⟨rfl,?_⟩;exact bl_
  |k+1,hm,hi=>
   obtain rfl:i'=(k:Int):=by omega
   have hms:=hid (mI_step l r c k hm);have hb:=mI_bd l r c (k+1) h1 hm h3'.out;have hb':=mI_bd l r c k h1 om_ h3'.out;have b1:=bt_bd r k;have b2:=bt_bd c k;have f1:=sh_eq r k;have f2:=sh_eq c k;have f3:=bt_eq r k hr;have f4:=bt_eq c k hc;have s1:IntKind.i64.wrap (4*mI l r c (k+1))=4*mI l r c (k+1):=IntWalk.i64_in _ (by clear f1 f2 f3 f4;omega);have s2:IntKind.i64.wrap (2*bt r k)=2*bt r k:=IntWalk.i64_in _ (by clear f1 f2 f3 f4 s1;omega);have s3:IntKind.i64.wrap (4*mI l r c (k+1)+2*bt r k)=4*mI l r c (k+1)+2*bt r k:=IntWalk.i64_in _ (by clear f1 f2 f3 f4 s1 s2;omega);have s4:IntKind.i64.wrap (4*mI l r c (k+1)+2*bt r k+bt c k)=4*mI l r c (k+1)+2*bt r k+bt c k:=IntWalk.i64_in _ (by clear f1 f2 f3 f4 s1 s2 s3;omega);clear hi;go_wp2;go_quiet (fail);clear f1 f2 f3 f4 s1 s2 s3 s4;go_wp2;go_roundw
   case rel=>exact⟨k,q+nq,(k:Int)-1,om_,om_,rfl,by rw[hms.out],rfl⟩
   case measure=>simp[intOf]
def sh4(n k:Nat):Int:=(n/4^k:Nat)
def dg(n k:Nat):Int:=(n/4^k%4:Nat)
def rI(n k:Nat):Int:=(rwTo k n:Nat)
def cI(n k:Nat):Int:=(clTo k n:Nat)
def d2(n k:Nat):Int:=(n/4^k%4/2:Nat)
def d1(n k:Nat):Int:=(n/4^k%4%2:Nat)
def rb(n k:Nat):Int:=(n/4^k%4/2*2^k:Nat)
def cb(n k:Nat):Int:=(n/4^k%4%2*2^k:Nat)
def tb(n k:Nat):Int:=(n/4^k*2^k:Nat)
theorem sh4_eq(n k:Nat):(n:Int)/2^(2*k)=sh4 n k:=by
 unfold sh4;rw[show(4:Nat)=2^2 from rfl,←Nat.pow_mul];simp
theorem dg_eq(n k:Nat)(h:n<8589934592):bits .and .i64 (sh4 n k) 3=dg n k:=by
 have h2:=Nat.div_le_self n (4^k);have:=i64_and_nat (n/4^k) 3 om_ om_;rw[show(3:Nat)=2^2-1 from rfl,Nat.and_two_pow_sub_one_eq_mod] at this;exact this
theorem d2_eq(n k:Nat):dg n k/2=d2 n k:=by unfold dg d2;omega
theorem d1_eq(n k:Nat):bits .and .i64 (dg n k) 1=d1 n k:=and_one _ om_
theorem pow16{k:Nat}(h:k≤16):1≤2^k∧2^k≤65536:=by
 have:2^k≤2^16:=Nat.pow_le_pow_right om_ h;have:0<2^k:=Nat.pow_pos om_;omega
theorem rb_eq(n k:Nat)(h:k≤16):IntKind.i64.wrap (d2 n k*2^k)=rb n k:=by
 have e:d2 n k*2^k=rb n k:=by unfold d2 rb;simp
 have hp:=pow16 h;have hb:n/4^k%4/2*2^k≤1*2^k:=Nat.mul_le_mul_right _ om_;rw[e];refine IntWalk.i64_in _ ?_;unfold rb;omega
theorem cb_eq(n k:Nat)(h:k≤16):IntKind.i64.wrap (d1 n k*2^k)=cb n k:=by
 have e:d1 n k*2^k=cb n k:=by unfold d1 cb;simp
 have hp:=pow16 h;have hb:n/4^k%4%2*2^k≤1*2^k:=Nat.mul_le_mul_right _ om_;rw[e];refine IntWalk.i64_in _ ?_;unfold cb;omega
theorem tb_eq(n l:Nat)(h:l≤16)(hn:n<2*4^l):IntKind.i64.wrap (sh4 n l*2^l)=tb n l:=by
 have e:sh4 n l*2^l=tb n l:=by unfold sh4 tb;simp
 have hp:=pow16 h;have h2:n/4^l<2:=by rw[Nat.div_lt_iff_lt_mul (Nat.pow_pos om_)];exact hn
 have hb:n/4^l*2^l≤1*2^l:=Nat.mul_le_mul_right _ om_;rw[e];refine IntWalk.i64_in _ ?_;unfold tb;omega
theorem rI_step(n k:Nat)(h:k<16):bits .or .i64 (rI n k) (rb n k)=rI n (k+1):=by
 have hp:=pow16 (k:=k) om_;have hb:n/4^k%4/2*2^k≤1*2^k:=Nat.mul_le_mul_right _ om_;have hl:=rwTo_lt k n;have:=i64_or_nat (rwTo k n) (n/4^k%4/2*2^k) om_ om_;rw[or_top _ _ _ hl] at this;exact this
theorem cI_step(n k:Nat)(h:k<16):bits .or .i64 (cI n k) (cb n k)=cI n (k+1):=by
 have hp:=pow16 (k:=k) om_;have hb:n/4^k%4%2*2^k≤1*2^k:=Nat.mul_le_mul_right _ om_;have hl:=clTo_lt k n;have:=i64_or_nat (clTo k n) (n/4^k%4%2*2^k) om_ om_;rw[or_top _ _ _ hl] at this;exact this
theorem cI_top(n l:Nat)(h:l≤16)(hn:n<2*4^l):bits .or .i64 (cI n l) (tb n l)=(colOf l n:Nat):=by
 have hp:=pow16 h;have h2:n/4^l<2:=by rw[Nat.div_lt_iff_lt_mul (Nat.pow_pos om_)];exact hn
 have hb:n/4^l*2^l≤1*2^l:=Nat.mul_le_mul_right _ om_;have hl:=clTo_lt l n;have:=i64_or_nat (clTo l n) (n/4^l*2^l) om_ om_;rw[or_top _ _ _ hl] at this;exact this
theorem set_three1(W:World)(a b c:Value)(t:TypeId)(q g:Nat)(v:Value)(hg:g=W.heap.size):((W.alloc (.cells #[a,b,c] t)).drewN q).setCell ⟨g,1,none⟩ v=(W.alloc (.cells #[a,v,c] t)).drewN q:=set_new W _ t q 1 g v hg
theorem set_three2(W:World)(a b c:Value)(t:TypeId)(q g:Nat)(v:Value)(hg:g=W.heap.size):((W.alloc (.cells #[a,b,c] t)).drewN q).setCell ⟨g,2,none⟩ v=(W.alloc (.cells #[a,b,v] t)).drewN q:=set_new W _ t q 2 g v hg
theorem cellOf_nat(n l:Nat)(w:World)(h1:l≤16)(h2:n<2*4^l):
 Calls Tryz.prog 108 #[vi vk n,vi vk l] w fun e w'=>e=.returned (.agg #[vi vk l,vi vk (rwTo l n:Nat),vi vk (colOf l n:Nat)])∧Below w.heap.size w w':=by
 have hn:n<8589934592:=by
  have:(4:Nat)^l≤4^16:=Nat.pow_le_pow_right om_ h1;omega
 have H2:=hid h2;clear h2;go_enter func108,ntmps108;go_wp2;go_loopw [11] (fun i wr=> ∃k q:Nat,k≤l∧i=vi vk k∧wr=((w.alloc (.cells #[vi vk 0,vi vk 0,vi vk 0] 55)).alloc (.cells #[vi vk l,vi vk (rI n k),vi vk (cI n k)] 55)).drewN q) (fun i _=>l-(intOf i).toNat)
 case atStart=>exact⟨0,0,Nat.zero_le _,rfl,by simp[rI,cI,rwTo,clTo];rfl⟩
 case round=>
  obtain⟨k,q,hk,rfl,rfl⟩:=hrel;by_cases hlt:k<l
  · have f1:=sh4_eq n k
    have f2:=dg_eq n k hn;have f3:=d2_eq n k;have f4:=d1_eq n k;have f5:=rb_eq n k om_;have f6:=cb_eq n k om_;have f7:=rI_step n k om_;have f8:=cI_step n k om_;go_wp2;refine wp_still_tail 8 (by kernel_rfl) (by kernel_rfl) ?_;simp only[List.take_succ_cons,List.take_zero,List.drop_succ_cons,List.drop_zero];repeat still_step
    refine wpStill_nil ?_;go_wp2;rw[set_three1 _ _ _ _ _ _ _ _ (by simp)];refine wp_still_tail 8 (by kernel_rfl) (by kernel_rfl) ?_;simp only[List.take_succ_cons,List.take_zero,List.drop_succ_cons,List.drop_zero];repeat still_step
    refine wpStill_nil ?_;clear f1 f2 f3 f4 f5 f6 f7 f8;go_wp2;go_roundw
    case rel=>exact⟨k+1,q+1+1,om_,by go_num,set_three2 _ _ _ _ _ _ _ _ (by simp)⟩
    case measure=>simp[intOf];omega
  · have hkl:k=l:=by omega
    subst hkl;have f1:=sh4_eq n k;have f2:=tb_eq n k h1 H2.out;have f3:=cI_top n k h1 H2.out;have f4:IntKind.i64.wrap (2*(k:Int))=2*(k:Int):=IntWalk.i64_in _ (by clear f1 f2 f3;omega);have f5:(2*(k:Int)).toNat=2*k:=by clear f1 f2 f3 f4;omega
    have f6:0≤2*(k:Int):=by clear f1 f2 f3 f4;omega
    have f7:2*(k:Int)≤64:=by clear f1 f2 f3 f4;omega
    go_wp2;refine wp_still_tail 10 (by kernel_rfl) (by kernel_rfl) ?_;simp only[List.take_succ_cons,List.take_zero,List.drop_succ_cons,List.drop_zero];repeat still_step
    refine wpStill_nil ?_;clear f1 f2 f3 f4 f5 f6 f7;go_wp2;refine bodyPost_ret (v:=.agg #[vi vk k,vi vk (rwTo k n:Nat),vi vk (colOf k n:Nat)]) (by simp[results,results108,go_sem,rI]) rfl ⟨rfl,?_⟩;exact bl_
section
open Go.Sort
theorem isNaN_any(a:Int)(w:World):Calls Tryz.prog 112 #[vi vk a] w fun e w'=>e=.returned (.bool false)∧w'=w:=by
 have h:(a != a)=false:=by simp
 go_enter func112,ntmps112;go_wp2;go_ret;exact⟨rfl,rfl⟩
theorem compare_any(a b:Int)(w:World):Calls Tryz.prog 74 #[vi vk a,vi vk b] w fun e w'=>e=.returned (vi vk (Lib.compareInt a b))∧w'=w:=by
 rcases Int.lt_trichotomy a b with h|h|h
 · have e:Lib.compareInt a b= -1:=by simp[Lib.compareInt,h]
   rw[e];clear e;go_enter func74,ntmps74;go_wp2_with (go_at_call 112;refine(isNaN_any _ _).mono ?_;rintro e w' ⟨rfl,rfl⟩);go_ret;exact⟨rfl,rfl⟩
 · subst h
   have e:Lib.compareInt a a=0:=by simp[Lib.compareInt]
   rw[e];clear e;go_enter func74,ntmps74;go_wp2_with (go_at_call 112;refine(isNaN_any _ _).mono ?_;rintro e w' ⟨rfl,rfl⟩);go_ret;exact⟨rfl,rfl⟩
 · have h': ¬a<b:=by omega
   have e:Lib.compareInt a b=1:=by simp[Lib.compareInt,h,h']
   rw[e];clear e;go_enter func74,ntmps74;go_wp2_with (go_at_call 112;refine(isNaN_any _ _).mono ?_;rintro e w' ⟨rfl,rfl⟩);go_ret;exact⟨rfl,rfl⟩
def orI(x y:Int):Int:=if x=0 then y else x
theorem or_any(b:Nat)(x y:Int)(w:World)(h1:w.cell? ⟨b,0,none⟩=some (vi vk x))(h2:w.cell? ⟨b,1,none⟩=some (vi vk y)):
 Calls Tryz.prog 73 #[.slice (some ⟨b,0,none⟩) 2 2] w fun e w'=>e=.returned (vi vk (orI x y))∧w'=w:=by
 go_enter func73,ntmps73;go_wp2;go_loop [8] (fun i=> ∃k:Nat,k≤2∧i=vi vk k∧(1≤k→x=0)∧(2≤k→y=0)) (fun i=>2-(intOf i).toNat)
 case atStart=>exact⟨0,om_,rfl,om_,om_⟩
 case round=>
  obtain⟨k,hk,rfl,hx,hy⟩:=hrel;match k,hk,hx,hy with
  |0,_,_,_=>
   clear hx hy hk;by_cases h:x=0
   · have H:=hid h
     have h':(x != 0)=false:=by simp[h]
     clear h;go_wp2;go_round
     case rel=>exact⟨1,om_,rfl,fun _=>H.out,om_⟩
     case measure=>simp[intOf]
   · have h':(x != 0)=true:=by simp[h]
     have H:=hid h;clear h;go_wp2;go_ret;exact⟨ret_int (by simp[orI,H.out]),rfl⟩
  |1,_,hx,_=>
   have HX:=hid (hx om_);clear hx hk;by_cases h:y=0
   · have H:=hid h
     have h':(y != 0)=false:=by simp[h]
     clear h;go_wp2;go_round
     case rel=>exact⟨2,om_,rfl,fun _=>HX.out,fun _=>H.out⟩
     case measure=>simp[intOf]
   · have h':(y != 0)=true:=by simp[h]
     clear h;go_wp2;go_ret;exact⟨ret_int (by simp[orI,HX.out]),rfl⟩
  |2,_,hx,hy=>
   have HX:=hid (hx om_);have HY:=hid (hy om_);clear hx hy hk;go_wp2;go_ret;exact⟨ret_int (by simp[orI,HX.out,HY.out]),rfl⟩
def cmpS(x y:Int×Int):Int:=orI (Lib.compareInt x.1 y.1) (Lib.compareInt y.2 x.2)
theorem coverCmp_any(x y:Int×Int)(W:World):Calls Tryz.prog 72 #[.agg #[vi vk x.1,vi vk x.2],.agg #[vi vk y.1,vi vk y.2]] W fun e w'=>e=.returned (vi vk (cmpS x y))∧ ∃q os',w'=grow (W.drewN q) os':=by
 have C1:=fun W=>compare_any x.1 y.1 W;have C2:=fun W=>compare_any y.2 x.2 W;unfold cmpS;generalize Lib.compareInt x.1 y.1=u at C1⊢;generalize Lib.compareInt y.2 x.2=v at C2⊢;have C1:=hid C1;have C2:=hid C2;go_enter func72,ntmps72;go_wp2;refine wp_still_tail 10 (by kernel_rfl) (by kernel_rfl) ?_;simp only[List.take_succ_cons,List.take_zero,List.drop_succ_cons,List.drop_zero];repeat still_step
 still_call (C1.out _)
 repeat still_step
 still_call (C2.out _)
 repeat still_step
 refine wpStill_nil ?_;go_wp2_with (go_at_call 73;refine(or_any _ u v _ (by go_simp) (by go_simp)).mono ?_;rintro e w' ⟨rfl,rfl⟩);go_ret;refine⟨rfl,1,#[.cells #[vi vk x.1,vi vk x.2] 115,.cells #[vi vk y.1,vi vk y.2] 115,.cells #[vi vk u,vi vk v] 3],?_⟩;rw[alloc_eq_grow,alloc_eq_grow,alloc_eq_grow,grow_grow];rfl
end
def IdxPost(w:World)(b:Bool)(e:Ending)(w':World):Prop:= ∃k:Int,e=.returned (vi vk k)∧decide (0≤k)=b∧Below w.heap.size w w'
theorem invalid_any(x:Cl)(w:World):Calls Tryz.prog 61 #[cva x] w fun e w'=>e=.returned (.bool (!(vldB x.1 x.2.1 x.2.2)))∧Below w.heap.size w w':=by
 obtain⟨l,r,c⟩:=x;have V:=hid (fun w=>valid_any l r c w);generalize vldB l r c=b at V⊢;go_enter func61,ntmps61;go_wp2_with (go_at_call 107;refine(V.out _).mono ?_;rintro e w1 ⟨rfl,hb⟩);go_ret;exact⟨rfl,one_bl hb⟩
theorem any_take_succ(L:List Cl)(p:Cl→Bool)(k:Nat)(hk:k<L.length)(h:(L.take k).any p=false)(hp:p (gt L k)=false):(L.take (k+1)).any p=false:=by
 rw[List.take_succ_eq_append_getElem hk,List.any_append,h];simp[gt,hk] at hp;simp[hp]
theorem any_of_gt(L:List Cl)(p:Cl→Bool)(k:Nat)(hk:k<L.length)(hp:p (gt L k)=true):L.any p=true:=by
 rw[List.any_eq_true];simp[gt,hk] at hp;exact⟨L[k],List.getElem_mem hk,hp⟩
theorem idxFunc_any(g:Nat)(lb:Array Value)(p:Cl→Bool)(eg: ∀args w,(callFunc g args).run Tryz.prog w=.ok (.enter g args) w)(A:Option Addr)(n c:Nat)(L:List Cl)(w:World)
 (hr:Reads w w.heap.size 3 A n (cvs L)) (hn:n≤maxLen) (hp: ∀(W:World) (x:Cl),Below w.heap.size w W→Calls Tryz.prog g (#[cva x]++lb) W fun e w'=>e=.returned (.bool (p x))∧Below W.heap.size W w'):
 Calls Tryz.prog 106 #[.slice A n c,.func (.func g) #[] lb] w (IdxPost w (L.any p)):=by
 have HL:=hid hr.len;have HR:=hid hr;have HP:=hid hp;clear hr hp;unfold maxLen at hn;go_enter func106,ntmps106;go_wp2;go_loopg [8] n (fun gg s8 wr=> ∃kk:Nat,kk≤n∧n-kk≤gg∧s8=vi vk kk∧Below w.heap.size w wr∧(L.take kk).any p=false)
 case atStart=>exact⟨0,Nat.zero_le _,om_,rfl,Below.refl _ w,rfl⟩
 case round=>
  obtain⟨kk,hkk,hg,rfl,BW,HA⟩:=hrel;have HA:=hid HA;by_cases hlt:kk<n
  · obtain⟨b,off,rfl,hb,x1,x2,x3⟩:=HR.out.elem hlt
    have y1:=(BW.cell (p:=⟨b,off+kk*3,none⟩) hb).trans x1;have y2:=(BW.cell (p:=⟨b,off+kk*3+1,none⟩) hb).trans x2;have y3:=(BW.cell (p:=⟨b,off+kk*3+2,none⟩) hb).trans x3;clear x1 x2 x3;have hcall:=HP.out wr (gt L kk) BW;have h1:=hid (any_take_succ L p kk (by rw[HL.out];exact hlt) HA.out);have h2:=hid (any_of_gt L p kk (by rw[HL.out];exact hlt));cases hq:p (gt L kk) with
    |true=>
     have h3:=hid (h2.out hq);rw[hq] at hcall;have hcall:=hid hcall;clear hq h1 h2;go_wp2_with (go_at_fn g;refine hcall.out.mono ?_;rintro e w' ⟨rfl,hb'⟩);go_ret;exact⟨kk,rfl,by rw[h3.out];simp,BW.trans (hb'.mono BW.size)⟩
    |false=>
     have h3:=hid (h1.out hq);rw[hq] at hcall;have hcall:=hid hcall;clear hq h1 h2;go_wp2_with (go_at_fn g;refine hcall.out.mono ?_;rintro e w' ⟨rfl,hb'⟩);go_roundg (n-(kk+1))
     case measure=>omega
     case rel=>exact⟨kk+1,om_,om_,by go_num,BW.trans (hb'.mono BW.size),h3.out⟩
  · go_wp2
    go_ret;have h:=HA.out;rw[List.take_of_length_le (by rw[HL.out];omega)] at h;exact⟨-1,rfl,by rw[h];rfl,BW⟩
theorem contFunc_any(g:Nat)(lb:Array Value)(p:Cl→Bool)(eg: ∀args w,(callFunc g args).run Tryz.prog w=.ok (.enter g args) w)(A:Option Addr)(n c:Nat)(L:List Cl)(w:World)
 (hr:Reads w w.heap.size 3 A n (cvs L)) (hn:n≤maxLen) (hp: ∀(W:World) (x:Cl),Below w.heap.size w W→Calls Tryz.prog g (#[cva x]++lb) W fun e w'=>e=.returned (.bool (p x))∧Below W.heap.size W w'):
 Calls Tryz.prog 60 #[.slice A n c,.func (.func g) #[] lb] w fun e w'=>e=.returned (.bool (L.any p))∧Below w.heap.size w w':=by
 have H:=hid (idxFunc_any g lb p eg A n c L w hr hn hp);clear hp hr hn eg;go_enter func60,ntmps60;go_wp2_with (go_at_call 106;refine H.out.mono ?_;rintro e w1 ⟨k,rfl,hk,hb⟩;have HK:=hid hk;clear hk);go_ret;exact⟨ret_bool HK.out,hb⟩
theorem allValid_any(A:Option Addr)(n c:Nat)(L:List Cl)(w:World)(hr:Reads w w.heap.size 3 A n (cvs L))(hn:n≤maxLen):
 Calls Tryz.prog 60 #[.slice A n c,.func (.func 61) #[] #[]] w fun e w'=>e=.returned (.bool (L.any fun x=> !(vldB x.1 x.2.1 x.2.2)))∧Below w.heap.size w w':=
 contFunc_any _ _ _ (enters_of func61 (by kernel_rfl) rfl) A n c L w hr hn fun W x _=>invalid_any x W
end Go.Proofs.YtdeiofgddhbdaaaGreat
