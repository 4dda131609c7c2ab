/- The walks of the reference's Times, Plus and Sine. -/
import Derived.Test.YtdeiofgddhbdaaaGreatDoorHAo
set_option linter.unusedSimpArgs false
set_option linter.unusedVariables false
set_option maxHeartbeats 4000000
set_option maxRecDepth 100000
open Go.RowKit
open Go.Lib (hid)
open Go.Proofs.Tryz
open Go.Value renaming int→vi
open Go.IntKind renaming i64→vk
namespace Go.Proofs.YtdeiofgddhbdaaaGreatDoor
theorem fAdd_any(a b c d:Int)(w:World)(h:fvB a b=true)(g:fvB c d=true):Calls Tryz.prog 160 #[.agg #[vi vk a,vi vk b],.agg #[vi vk c,vi vk d]] w fun e w'=>e=.returned (fitV (a+c) (b+d))∧Below w.heap.size w w':=by
 have KB:=hid (fun W=>both_any a b c d W h g);have KF:=hid (fun W=>ffit_any (a+c) (b+d) W);rw[fv_iff] at h g;have s1:wrap64 (a+c)=a+c:=IntWalk.wrap64_in _ om_;have s2:wrap64 (b+d)=b+d:=IntWalk.wrap64_in _ om_;clear h g;unfold fitV at*;generalize fvB (a+c) (b+d)=s at*;obtain⟨p,hp⟩: ∃p,a+c=p:=⟨_,rfl⟩;obtain⟨q,hq⟩: ∃q,b+d=q:=⟨_,rfl⟩;rw[hp] at s1 KF⊢;rw[hq] at s2 KF⊢;cases s
 all_goals
  simp only[Bool.false_eq_true,if_false,if_true] at*;go_enter func160,ntmps160;go_wp2_with fail;(with_reducible refine(KB.out _).mono ?_)
  rintro e w1 ⟨rfl,hb1⟩
  obtain⟨hbl1,A1,B1,C1⟩:=three_D2 hb1;replace C1:=hid C1
  obtain⟨at1,a1,a2,af1,af2⟩:=A1;obtain⟨bt1,b1,b2,bf1,bf2⟩:=B1;clear hb1;go_wp2_with fail;(with_reducible refine(KF.out _).mono ?_)
  rintro e w2 ⟨rfl,hb2⟩
  have hbl2:=hbl1.trans (hb2.mono hbl1.size);have R2:=hid (C1.out.below hb2 C1.out.lt);obtain⟨rt,r0,r1,rf0,rf1⟩:=R2.out;clear hb2;go_wp2;first
   |refine bodyPost_ret (v:=.tuple #[.agg #[vi vk p,vi vk q],vi vk 0]) (by simp[results,results160,go_sem, *];done) rfl ⟨rfl,?_⟩
   |refine bodyPost_ret (v:=.tuple #[.agg #[vi vk 0,vi vk 0],vi vk 5]) (by simp[results,results160,go_sem, *];done) rfl ⟨rfl,?_⟩
  exact(hbl2.setCell (by simp;omega) _).setCell (by simp;omega) _
theorem min_e(x y:Int):(if y<x then y else x)=min x y:=by rw[Int.min_def];split<;>split<;>omega
theorem max_e(x y:Int):(if y>x then y else x)=max x y:=by rw[Int.max_def];split<;>split<;>omega
@[go_sem high] theorem run_min4 {P:Program} (w:World) (ts:Array TypeId) (t:TypeId) (x y z u:Int):
   (Builtin.min_ ts t #[vi vk x,vi vk y,vi vk z,vi vk u]).run P w=.ok (vi vk (min x (min y (min z u)))) w:=by
  simp[Builtin.min_,Builtin.min2,min_e,Int.min_assoc]
@[go_sem high] theorem run_max4 {P:Program} (w:World) (ts:Array TypeId) (t:TypeId) (x y z u:Int):
   (Builtin.max_ ts t #[vi vk x,vi vk y,vi vk z,vi vk u]).run P w=.ok (vi vk (max x (max y (max z u)))) w:=by
  simp[Builtin.max_,Builtin.max2,max_e,Int.max_assoc]
theorem fMul_any(a b c d:Int)(w:World)(h:fvB a b=true)(g:fvB c d=true):Calls Tryz.prog 161 #[.agg #[vi vk a,vi vk b],.agg #[vi vk c,vi vk d]] w fun e w'=>e=.returned (fitV (min (a*c) (min (a*d) (min (b*c) (b*d)))/1073741824) (-(-(max (a*c) (max (a*d) (max (b*c) (b*d))))/1073741824)))∧Below w.heap.size w w':=by
 have KB:=hid (fun W=>both_any a b c d W h g);rw[fv_iff] at h g;have m1:=mul_bd31 (a:=a) (b:=c) om_ om_ om_ om_;have m2:=mul_bd31 (a:=a) (b:=d) om_ om_ om_ om_;have m3:=mul_bd31 (a:=b) (b:=c) om_ om_ om_ om_;have m4:=mul_bd31 (a:=b) (b:=d) om_ om_ om_ om_;have s1:wrap64 (a*c)=a*c:=IntWalk.wrap64_in _ om_;have s2:wrap64 (a*d)=a*d:=IntWalk.wrap64_in _ om_;have s3:wrap64 (b*c)=b*c:=IntWalk.wrap64_in _ om_;have s4:wrap64 (b*d)=b*d:=IntWalk.wrap64_in _ om_;clear h g;obtain⟨x,hx⟩: ∃p,a*c=p:=⟨_,rfl⟩;obtain⟨y,hy⟩: ∃p,a*d=p:=⟨_,rfl⟩;obtain⟨z,hz⟩: ∃p,b*c=p:=⟨_,rfl⟩;obtain⟨u,hu⟩: ∃p,b*d=p:=⟨_,rfl⟩;rw[hx] at s1 m1⊢;rw[hy] at s2 m2⊢;rw[hz] at s3 m3⊢;rw[hu] at s4 m4⊢;have KL:=hid (fun W=>ffloor_any (min x (min y (min z u))) W om_ om_);have KC:=hid (fun W=>fceil_any (max x (max y (max z u))) W om_ om_);clear m1 m2 m3 m4;generalize hl:min x (min y (min z u))/1073741824=p at*;generalize hh: -(-(max x (max y (max z u)))/1073741824)=q at*;clear hl hh;have KF:=hid (fun W=>ffit_any p q W);unfold fitV at*;generalize fvB p q=s at*;cases s
 all_goals
  simp only[Bool.false_eq_true,if_false,if_true] at*;go_enter func161,ntmps161;go_wp2_with fail;(with_reducible refine(KB.out _).mono ?_)
  rintro e w1 ⟨rfl,hb1⟩
  obtain⟨hbl1,A1,B1,C1⟩:=three_D2 hb1;replace C1:=hid C1
  obtain⟨at1,a1,a2,af1,af2⟩:=A1;obtain⟨bt1,b1,b2,bf1,bf2⟩:=B1;clear hb1;go_wp2;go_quiet (fail);go_wp2_with fail;(with_reducible refine(KL.out _).mono ?_)
  rintro e w3 ⟨rfl,rfl⟩
  go_wp2_with fail;(with_reducible refine(KC.out _).mono ?_)
  rintro e w4 ⟨rfl,rfl⟩
  go_wp2_with fail;(with_reducible refine(KF.out _).mono ?_)
  rintro e w2 ⟨rfl,hb2⟩
  rename_i nq _ _ _ _;have hb3:=(bl_drewN (Below.refl _ w1) nq).trans hb2;have hbl2:=hbl1.trans (hb3.mono hbl1.size);have R2:=hid (C1.out.below hb3 C1.out.lt);obtain⟨rt,r0,r1,rf0,rf1⟩:=R2.out;clear hb2 hb3;go_wp2;first
   |refine bodyPost_ret (v:=.tuple #[.agg #[vi vk p,vi vk q],vi vk 0]) (by simp[results,results161,go_sem, *];done) rfl ⟨rfl,?_⟩
   |refine bodyPost_ret (v:=.tuple #[.agg #[vi vk 0,vi vk 0],vi vk 5]) (by simp[results,results161,go_sem, *];done) rfl ⟨rfl,?_⟩
  exact(hbl2.setCell (by simp;omega) _).setCell (by simp;omega) _
theorem rfit_any(lo hi:Int)(w:World)(hl:lo≤hi):Calls Tryz.prog 228 #[vi vk lo,vi vk hi] w fun e w'=>e=.returned (fitV lo hi)∧Below w.heap.size w w':=by
 have hs:fvB lo hi=(!(decide (lo< -2147483648))&& !(decide (2147483648<hi))):=by
  unfold fvB;rw[Bool.eq_iff_iff];simp only[decide_eq_true_eq,Bool.and_eq_true,Bool.not_eq_true',decide_eq_false_iff_not];omega
 unfold fitV;rw[hs];clear hs hl;cases hx:decide (lo< -2147483648)<;>cases hy:decide (2147483648<hi)
 all_goals
  simp only[Bool.not_true,Bool.not_false,Bool.and_self,Bool.and_true,Bool.true_and,Bool.and_false,Bool.false_and,Bool.false_eq_true,if_false,if_true];go_enter func228,ntmps228;go_wp2;first
   |refine bodyPost_ret (v:=.tuple #[.agg #[vi vk lo,vi vk hi],vi vk 0]) (by simp[results,results228,go_sem, *];done) rfl ⟨rfl,?_⟩
   |refine bodyPost_ret (v:=.tuple #[.agg #[vi vk 0,vi vk 0],vi vk 5]) (by simp[results,results228,go_sem, *];done) rfl ⟨rfl,?_⟩
  exact bl_
theorem rAdd_any(a b c d:Int)(w:World)(h:fvB a b=true)(g:fvB c d=true):Calls Tryz.prog 202 #[.agg #[vi vk a,vi vk b],.agg #[vi vk c,vi vk d]] w fun e w'=>e=.returned (fitV (a+c) (b+d))∧Below w.heap.size w w':=by
 rw[fv_iff] at h g;have KF:=hid (fun W=>rfit_any (a+c) (b+d) W om_);have s1:wrap64 (a+c)=a+c:=IntWalk.wrap64_in _ om_;have s2:wrap64 (b+d)=b+d:=IntWalk.wrap64_in _ om_;clear h g;unfold fitV at*;generalize fvB (a+c) (b+d)=s at*;obtain⟨p,hp⟩: ∃p,a+c=p:=⟨_,rfl⟩;obtain⟨q,hq⟩: ∃q,b+d=q:=⟨_,rfl⟩;rw[hp] at s1 KF⊢;rw[hq] at s2 KF⊢;cases s
 all_goals
  simp only[Bool.false_eq_true,if_false,if_true] at*;go_enter func202,ntmps202;go_wp2_with fail;(with_reducible refine(KF.out _).mono ?_)
  rintro e w2 ⟨rfl,hb2⟩
  obtain⟨hbl2,A1,B1,C1⟩:=three_D2 hb2;obtain⟨rt,r0,r1,rf0,rf1⟩:=C1;clear hb2 A1 B1;go_wp2;first
   |refine bodyPost_ret (v:=.tuple #[.agg #[vi vk p,vi vk q],vi vk 0]) (by simp[results,results202,go_sem, *];done) rfl ⟨rfl,?_⟩
   |refine bodyPost_ret (v:=.tuple #[.agg #[vi vk 0,vi vk 0],vi vk 5]) (by simp[results,results202,go_sem, *];done) rfl ⟨rfl,?_⟩
  exact(hbl2.setCell (by simp;omega) _).setCell (by simp;omega) _
theorem rFloor_any(a:Int)(w:World)(a0: -4611686018427387904≤a)(a1:a≤4611686018427387904):Calls Tryz.prog 231 #[vi vk a,vi vk 1073741824] w fun e w'=>e=.returned (vi vk (a/1073741824))∧w'=w:=by
 have h1:=Int.mul_tdiv_add_tmod a 1073741824;have h3:=Int.tmod_lt_of_pos a (show(0:Int)<1073741824 by omega);have h4:=Int.tmod_lt_of_pos (-a) (show(0:Int)<1073741824 by omega);rw[Int.neg_tmod] at h4;have h5:a<0→Int.tmod a 1073741824≤0:=fun h=>by
  have h2:=Int.tmod_nonneg 1073741824 (show 0≤ -a by omega);rw[Int.neg_tmod] at h2;omega
 have h6: ¬a<0→0≤Int.tmod a 1073741824:=fun h=>Int.tmod_nonneg 1073741824 (show 0≤a by omega);have s1:wrap64 (Int.tdiv a 1073741824-1)=Int.tdiv a 1073741824-1:=IntWalk.wrap64_in _ om_;have s2:wrap64 (Int.tdiv a 1073741824)=Int.tdiv a 1073741824:=IntWalk.wrap64_in _ om_;have H:=hid (And.intro h1 (And.intro h3 (And.intro h4 (And.intro h5 h6))));clear h1 h3 h4 h5 h6;cases hx:decide (a<0)
 all_goals
  go_enter func231,ntmps231;go_wp2;all_goals
   go_ret;refine⟨ret_int ?_,rfl⟩;obtain⟨h1,h3,h4,h5,h6⟩:=H.out;try rw[s1]
   simp only[bne_iff_ne,ne_eq,bne_eq_false_iff_eq,decide_eq_true_eq,decide_eq_false_iff_not] at*;omega
theorem rCeil_any(a:Int)(w:World)(a0: -4611686018427387904≤a)(a1:a≤4611686018427387904):Calls Tryz.prog 232 #[vi vk a,vi vk 1073741824] w fun e w'=>e=.returned (vi vk (-(-a/1073741824)))∧w'=w:=by
 have KF:=hid (fun W=>rFloor_any (-a) W om_ om_);have s1:wrap64 (-a)= -a:=IntWalk.wrap64_in _ om_;have s2:wrap64 (-(-a/1073741824))= -(-a/1073741824):=IntWalk.wrap64_in _ om_;generalize-a/1073741824=q at*;go_enter func232,ntmps232;go_wp2_with fail;(with_reducible refine(KF.out _).mono ?_)
 rintro e w1 ⟨rfl,rfl⟩
 go_wp2;go_ret;exact⟨ret_int s2,rfl⟩
theorem rLeast_any(a b:Int)(w:World):Calls Tryz.prog 229 #[vi vk a,vi vk b] w fun e w'=>e=.returned (vi vk (min a b))∧w'=w:=by
 rw[←min_e];go_enter func229,ntmps229;go_wp2;all_goals
  go_ret;refine⟨ret_int (by simp_all),rfl⟩
theorem rMost_any(a b:Int)(w:World):Calls Tryz.prog 230 #[vi vk a,vi vk b] w fun e w'=>e=.returned (vi vk (max a b))∧w'=w:=by
 rw[←max_e];go_enter func230,ntmps230;go_wp2;all_goals
  go_ret;refine⟨ret_int (by simp_all),rfl⟩
theorem rMul_any(a b c d:Int)(w:World)(h:fvB a b=true)(g:fvB c d=true):Calls Tryz.prog 203 #[.agg #[vi vk a,vi vk b],.agg #[vi vk c,vi vk d]] w fun e w'=>e=.returned (fitV (min (a*c) (min (a*d) (min (b*c) (b*d)))/1073741824) (-(-(max (a*c) (max (a*d) (max (b*c) (b*d))))/1073741824)))∧Below w.heap.size w w':=by
 rw[fv_iff] at h g;have m1:=mul_bd31 (a:=a) (b:=c) om_ om_ om_ om_;have m2:=mul_bd31 (a:=a) (b:=d) om_ om_ om_ om_;have m3:=mul_bd31 (a:=b) (b:=c) om_ om_ om_ om_;have m4:=mul_bd31 (a:=b) (b:=d) om_ om_ om_ om_;have s1:wrap64 (a*c)=a*c:=IntWalk.wrap64_in _ om_;have s2:wrap64 (a*d)=a*d:=IntWalk.wrap64_in _ om_;have s3:wrap64 (b*c)=b*c:=IntWalk.wrap64_in _ om_;have s4:wrap64 (b*d)=b*d:=IntWalk.wrap64_in _ om_;clear h g;obtain⟨x,hx⟩: ∃p,a*c=p:=⟨_,rfl⟩;obtain⟨y,hy⟩: ∃p,a*d=p:=⟨_,rfl⟩;obtain⟨z,hz⟩: ∃p,b*c=p:=⟨_,rfl⟩;obtain⟨u,hu⟩: ∃p,b*d=p:=⟨_,rfl⟩;rw[hx] at s1 m1⊢;rw[hy] at s2 m2⊢;rw[hz] at s3 m3⊢;rw[hu] at s4 m4⊢;have KL:=hid (fun W=>rFloor_any (min x (min y (min z u))) W om_ om_);have KC:=hid (fun W=>rCeil_any (max x (max y (max z u))) W om_ om_);have M1:=hid (fun W=>rLeast_any x y W);have M2:=hid (fun W=>rLeast_any z u W);have M3:=hid (fun W=>rLeast_any (min x y) (min z u) W);have M4:=hid (fun W=>rMost_any x y W);have M5:=hid (fun W=>rMost_any z u W);have M6:=hid (fun W=>rMost_any (max x y) (max z u) W);rw[Int.min_assoc] at M3;rw[Int.max_assoc] at M6;clear m1 m2 m3 m4;have hpq:min x (min y (min z u))/1073741824≤ -(-(max x (max y (max z u)))/1073741824):=by omega
 generalize hl:min x (min y (min z u))/1073741824=p at*;generalize hh: -(-(max x (max y (max z u)))/1073741824)=q at*;clear hl hh;have KF:=hid (fun W=>rfit_any p q W hpq);unfold fitV at*;generalize fvB p q=s at*;cases s
 all_goals
  simp only[Bool.false_eq_true,if_false,if_true] at*;go_enter func203,ntmps203;go_wp2;go_quiet (fail);go_wp2_with (first
   |(go_at_call 229;(first|(with_reducible refine(M1.out _).mono ?_)|(with_reducible refine(M2.out _).mono ?_)|(with_reducible refine(M3.out _).mono ?_));rintro e w3 ⟨rfl,rfl⟩)
   |(go_at_call 230;(first|(with_reducible refine(M4.out _).mono ?_)|(with_reducible refine(M5.out _).mono ?_)|(with_reducible refine(M6.out _).mono ?_));rintro e w3 ⟨rfl,rfl⟩)
   |(go_at_call 231;(with_reducible refine(KL.out _).mono ?_);rintro e w3 ⟨rfl,rfl⟩)
   |(go_at_call 232;(with_reducible refine(KC.out _).mono ?_);rintro e w3 ⟨rfl,rfl⟩)
   |fail)
  (with_reducible refine(KF.out _).mono ?_)
  rintro e w2 ⟨rfl,hb2⟩
  rename_i nq _ _ _ _;obtain⟨hbl2,A1,B1,C1⟩:=three_D2 ((bl_drewN (Below.refl _ _) nq).trans hb2);obtain⟨rt,r0,r1,rf0,rf1⟩:=C1;clear hb2 A1 B1;go_wp2;first
   |refine bodyPost_ret (v:=.tuple #[.agg #[vi vk p,vi vk q],vi vk 0]) (by simp[results,results203,go_sem, *];done) rfl ⟨rfl,?_⟩
   |refine bodyPost_ret (v:=.tuple #[.agg #[vi vk 0,vi vk 0],vi vk 5]) (by simp[results,results203,go_sem, *];done) rfl ⟨rfl,?_⟩
  exact(hbl2.setCell (by simp;omega) _).setCell (by simp;omega) _
namespace Trig
theorem hi_upF{n:Int}(h0:0≤n)(h1:n≤5400000):hiB n=upF n:=by
 have e:sth n=false:=by unfold sth;rw[decide_eq_false_iff_not];omega
 have q:qrt n=n:=by unfold qrt;omega
 unfold hiB;rw[e,q];rfl
theorem hi_sF{n:Int}(h0:0<n)(h1:n≤5400000):hiB (-n)= -sF n:=by
 have e:sth (-n)=true:=by unfold sth;rw[decide_eq_true_eq];omega
 have q:qrt (-n)=n:=by unfold qrt;omega
 unfold hiB;rw[e,q];rfl
theorem hiB_neg{n:Int}(h0: -5400000≤n)(h1:n≤5400000):hiB (-n)= -loB n:=by
 rcases Int.lt_trichotomy n 0 with g|g|g
 · have h2:=low_upF (n:= -n) om_ om_
   rw[Int.neg_neg] at h2;rw[h2,hi_upF om_ om_];omega
 · subst g;decide+kernel
 · rw[hi_sF g h1,low_sF om_ h1]
theorem hiB_mono{a b:Int}(h0: -5400000≤a)(h:a≤b)(h1:b≤5400000):hiB a≤hiB b:=by
 have h2:=loB_mono (a:= -b) (b:= -a) om_ om_ om_;have ea:=hiB_neg (n:= -a) om_ om_;have eb:=hiB_neg (n:= -b) om_ om_;rw[Int.neg_neg] at ea eb;omega
structure IsAsn(v r:Int):Prop where
 lo: -5400000≤r
 hi:r≤5400000
 le:hiB r≤v
 gt:r<5400000→v<hiB (r+1)
theorem IsAsn.unique{v r s:Int}(h:IsAsn v r)(k:IsAsn v s):r=s:=by
 rcases Int.lt_trichotomy r s with g|g|g
 · have h1:=h.gt (by have:=k.hi;omega)
   have h2:=hiB_mono (a:=r+1) (b:=s) (by have:=h.lo;omega) om_ k.hi;have:=k.le;omega
 · exact g
 · have h1:=k.gt (by have:=h.hi;omega)
   have h2:=hiB_mono (a:=s+1) (b:=r) (by have:=k.lo;omega) om_ h.hi;have:=h.le;omega
open Classical in
noncomputable def asnV (v:Int):Int:=if h: ∃r,IsAsn v r then h.choose else 0
theorem asn_is{v r:Int}(h:IsAsn v r):r=asnV v:=by
 have hx: ∃r,IsAsn v r:=⟨r,h⟩;unfold asnV;rw[dif_pos hx];exact h.unique hx.choose_spec
theorem hiB_south:hiB (-5400000)= -1073741824:=by decide+kernel
theorem asn_bd(v:Int): -5400000≤asnV v∧asnV v≤5400000:=by
 unfold asnV;split
 · rename_i h;exact⟨h.choose_spec.lo,h.choose_spec.hi⟩
 · omega
def BelP(h v s:Int):Prop:=(h≤v→s≤0)∧(v<h→0<s)
end Trig
theorem Below_any(n v:Int)(w:World):Calls Tryz.prog 197 #[vi vk n,vi vk v] w fun e w'=>(∃s:Int,e=.returned (vi vk s)∧Trig.BelP (Trig.hiB n) v s)∧Below w.heap.size w w':=by
 have KB:=hid (fun W=>bounds_any n W);have hl:=Trig.hiB_lo n;generalize Trig.loB n=lo at*;generalize Trig.hiB n=hi at*;have ret: ∀(s:Int) (w1:World),Below w.heap.size w w1→(hi≤v→s≤0)→(v<hi→0<s)→(∃s':Int,Ending.returned (vi vk s)=.returned (vi vk s')∧Trig.BelP hi v s')∧Below w.heap.size w w1:=fun s w1 hb h1 h2=>⟨⟨s,rfl,h1,h2⟩,hb⟩;by_cases hA:hi≤v∧lo<v
 · obtain⟨a1,a2⟩:=hA
   go_enter func197,ntmps197;go_wp2_with fail;(with_reducible refine(KB.out _).mono ?_)
   rintro e w1 ⟨rfl,hb1⟩
   go_wp2;go_ret;exact ret (-1) _ hb1 (fun _=>by decide) (fun h=>by omega)
 · by_cases hB:v≤lo∧v<hi
   · obtain⟨a1,a2⟩:=hB
     have a3: ¬hi≤v:=by omega
     clear hA;go_enter func197,ntmps197;go_wp2_with fail;(with_reducible refine(KB.out _).mono ?_)
     rintro e w1 ⟨rfl,hb1⟩
     go_wp2;go_ret;exact ret 1 _ hb1 (fun h=>by omega) (fun _=>by decide)
   · obtain rfl:lo=v:=by omega
     obtain rfl:hi=lo:=by omega
     clear hA hB hl;have a1: ¬hi<hi:=by omega
     go_enter func197,ntmps197;go_wp2_with fail;(with_reducible refine(KB.out _).mono ?_)
     rintro e w1 ⟨rfl,hb1⟩
     go_wp2;go_ret;exact ret 0 _ hb1 (fun _=>by decide) (fun h=>by omega)
theorem asin_any(v:Int)(w:World)(h0: -1073741824≤v):Calls Tryz.prog 164 #[vi vk v] w fun e w'=>e=.returned (vi vk (Trig.asnV v))∧Below w.heap.size w w':=by
 have KB:=hid (fun n W=>Below_any n v W);have HS:Hid (Trig.hiB (-5400000)≤v):=hid (by rw[Trig.hiB_south];exact h0);go_enter func164,ntmps164;go_wp2;go_loopw [3,4] (fun s3 s4 wr=> ∃a b:Int,s3=vi vk a∧s4=vi vk b∧ -5400000≤a∧a<b∧b≤5400001∧Trig.hiB a≤v∧(b≤5400000→v<Trig.hiB b)∧Below w.heap.size w wr) (fun s3 s4 _=>(intOf s4-intOf s3).toNat)
 case atStart=>exact⟨-5400000,5400001,rfl,rfl,dc_,dc_,dc_,HS.out,fun h=>by omega,Below.refl _ _⟩
 case round=>
  obtain⟨a,b,rfl,rfl,ha,hab,hb,hle,hgt,hbl⟩:=hrel;have HLE:=hid hle;have HGT:=hid hgt;have HB:=hid hbl;clear hle hgt hbl;by_cases hlt:1<b-a
  · obtain⟨m,hm⟩: ∃m:Int,(a+b)/2=m:=⟨_,rfl⟩
    have hm1:a<m∧m<b:=by omega
    go_wp2_with fail;(with_reducible refine(KB.out m _).mono ?_)
    rintro e w5 ⟨⟨s,rfl,hs1,hs2⟩,hb5⟩
    have B5:=hid (HB.out.trans (hb5.mono HB.out.size));by_cases hv:Trig.hiB m≤v
    · have hs:=hs1 hv
      clear hs1 hs2;go_wp2;go_roundw
      case rel=>exact⟨m,b,rfl,rfl,om_,om_,hb,hv,HGT.out,B5.out⟩
      case measure=>simp[intOf];omega
    · have hs:=hs2 om_
      clear hs1 hs2;go_wp2;go_roundw
      case rel=>exact⟨a,m,rfl,rfl,ha,om_,om_,HLE.out,fun _=>by omega,B5.out⟩
      case measure=>simp[intOf];omega
  · obtain rfl:b=a+1:=by omega
    have hr:a=Trig.asnV v:=Trig.asn_is ⟨ha,om_,HLE.out,fun h=>HGT.out om_⟩;have HRR:=hid hr;clear hr;go_wp2;go_ret;exact⟨ret_int HRR.out,HB.out⟩
theorem apart_any(lo hi L H:Int)(w:World):Calls Tryz.prog 163 #[.agg #[vi vk lo,vi vk hi],vi vk L,vi vk H] w fun e w'=>e=.returned (.tuple #[.agg #[vi vk (max lo L),vi vk (min hi H)],.bool (decide (max lo L≤min hi H))])∧Below w.heap.size w w':=by
 obtain⟨p,hp⟩: ∃p,max lo L=p:=⟨_,rfl⟩;obtain⟨q,hq⟩: ∃q,min hi H=q:=⟨_,rfl⟩;rw[hp,hq];go_enter func163,ntmps163;go_upto_region 2 with (fail)
 go_region_held3 (fun w'=>w'.cell? ⟨w.heap.size,0,none⟩=some (vi vk p)∧w'.cell? ⟨w.heap.size,1,none⟩=some (vi vk q)) (simp) (fail)
 all_goals
  go_wp2;refine bodyPost_ret (v:=.tuple #[.agg #[vi vk p,vi vk q],.bool (decide (p≤q))]) (by simp[results,results163,go_sem, *];done) rfl ⟨rfl,?_⟩;exact bl_
theorem first_b{W w9:World}(h:Below W.drew.heap.size W.drew w9):Below W.heap.size W w9:=(bl_drew (Below.refl _ _)).trans h
theorem Asin_yes(lo hi:Int)(w:World)(h0: -2147483648≤lo)(h1:lo≤hi)(h2:hi≤2147483648)(h3:lo≤1073741824)(h4: -1073741824≤hi):
 Calls Tryz.prog 122 #[.agg #[vi vk lo,vi vk hi]] w fun e w'=>e=.returned (.tuple #[.agg #[vi vk (Trig.asnV (max lo (-1073741824))),vi vk (-Trig.asnV (-(min hi 1073741824)))],vi vk 0])∧Below w.heap.size w w':=by
 have KV:=fun W=>fValid_any lo hi W;rw[show fvB lo hi=true by unfold fvB;rw[decide_eq_true_eq];exact⟨h0,h1,h2⟩] at KV;have KV:=hid KV;have KP:=fun W=>apart_any lo hi (-1073741824) 1073741824 W;obtain⟨p,hp⟩: ∃p,max lo (-1073741824)=p:=⟨_,rfl⟩;obtain⟨q,hq⟩: ∃q,min hi 1073741824=q:=⟨_,rfl⟩;rw[hp,hq];simp only[hp,hq] at KP;rw[show decide (p≤q)=true by rw[decide_eq_true_eq];omega] at KP;have KP:=hid KP;have K1:=hid (fun W=>asin_any p W om_);have K2:=hid (fun W=>asin_any (-q) W om_);have hb1:=Trig.asn_bd p;have hb2:=Trig.asn_bd (-q);obtain⟨r1,hr1⟩: ∃r,Trig.asnV p=r:=⟨_,rfl⟩;obtain⟨r2,hr2⟩: ∃r,Trig.asnV (-q)=r:=⟨_,rfl⟩;rw[hr1] at K1 hb1⊢;rw[hr2] at K2 hb2⊢;have hpq: -1073741824≤p∧p≤1073741824∧ -1073741824≤q∧q≤1073741824:=by omega
 clear hp hq h0 h1 h2 h3 h4 hr1 hr2;have T1:=hid ((D2.new w lo hi 160).alloc (.cells #[vi vk 0,vi vk 0] 33));have T2:Hid (D2 ((w.alloc (.cells #[vi vk lo,vi vk hi] 160)).alloc (.cells #[vi vk 0,vi vk 0] 33)) (w.heap.size+1) 0 0):=hid (by
  have:=D2.new (w.alloc (.cells #[vi vk lo,vi vk hi] 160)) 0 0 33;rwa [World.size_alloc] at this)
 have B0:=hid ((bl_alloc w (.cells #[vi vk lo,vi vk hi] 160)).alloc (by simp) (.cells #[vi vk 0,vi vk 0] 33));go_enter func122,ntmps122;go_wp2_with fail;(with_reducible refine(KV.out _).mono ?_)
 rintro e w1 ⟨rfl,hb1⟩
 have T1:=hid (T1.out.below hb1 T1.out.lt);have T2:=hid (T2.out.below hb1 T2.out.lt);have B0:=hid (B0.out.trans (hb1.mono B0.out.size));clear hb1 KV;obtain⟨at1,a0,a1,af0,af1⟩:=T1.out;go_wp2_with fail;(with_reducible refine(KP.out _).mono ?_)
 rintro e w2 ⟨rfl,hb2⟩
 have T1:=hid (T1.out.below hb2 T1.out.lt);have T2:=hid (T2.out.below hb2 T2.out.lt);have B0:=hid (B0.out.trans (hb2.mono B0.out.size));clear hb2 KP at1 a0 a1 af0 af1;obtain⟨at1,a0,a1,af0,af1⟩:=T1.out;have hn1: ¬w.heap.size+1=w.heap.size:=by omega
 go_upto_region 6 with (fail)
 clear at1 a0 a1 af0 af1;obtain⟨W3,hW3⟩: ∃W3,(w2.setCell ⟨w.heap.size,0,none⟩ (vi vk p)).setCell ⟨w.heap.size,1,none⟩ (vi vk q)=W3:=⟨_,rfl⟩;have T1:=hid ((T1.out.set0 p).set1 q);have T2:=hid ((T2.out.far (p:=⟨w.heap.size,0,none⟩) hn1 (vi vk p)).far (p:=⟨w.heap.size,1,none⟩) hn1 (vi vk q));have B0:=hid ((B0.out.setCell (p:=⟨w.heap.size,0,none⟩) (Nat.le_refl _) (vi vk p)).setCell (p:=⟨w.heap.size,1,none⟩) (Nat.le_refl _) (vi vk q));rw[hW3] at T1 T2 B0;simp only[hW3];clear hW3;obtain⟨at1,a0,a1,-,-⟩:=T1.out;have hw1:IntKind.i64.wrap (-q)= -q:=IntWalk.i64_in _ om_;have hw2:IntKind.i64.wrap (-r2)= -r2:=IntWalk.i64_in _ om_;go_region_held3 (fun w'=>w'.cell? ⟨w.heap.size,0,none⟩=some (vi vk p)∧w'.cell? ⟨w.heap.size,1,none⟩=some (vi vk q)) (simp[*]) (first
  |(go_at_call 164;(first|(with_reducible refine(K1.out _).mono ?_)|(with_reducible refine(K2.out _).mono ?_));rintro e w9 ⟨rfl,hb9⟩;(first|(replace hb9:=first_b hb9)|skip);have B0:=hid (B0.out.trans (hb9.mono B0.out.size));have T1:=hid (T1.out.below hb9 T1.out.lt);have T2:=hid (T2.out.below hb9 T2.out.lt);obtain⟨at9,a09,a19,-,-⟩:=T1.out;obtain⟨bt9,b09,b19,bf09,bf19⟩:=T2.out;have e9:=fun(i:Nat) (u v:Value)=>(World.cell?_setCell_other (w9.setCell ⟨w.heap.size+1,0,none⟩ u) ⟨w.heap.size+1,1,none⟩ ⟨w.heap.size,i,none⟩ v (fun e=>hn1 (by injection e))).trans (World.cell?_setCell_other w9 ⟨w.heap.size+1,0,none⟩ ⟨w.heap.size,i,none⟩ u (fun e=>hn1 (by injection e))))
  |fail)
 all_goals
  go_wp2;refine bodyPost_ret (v:=.tuple #[.agg #[vi vk r1,vi vk (-r2)],vi vk 0]) (by simp[results,results122,go_sem, *];done) rfl ⟨rfl,?_⟩;exact(B0.out.setCell (by simp) _).setCell (by simp) _
structure C6(W:World)(g:Nat)(a0 a1 b0 b1 c0 c1:Int):Prop where
 lt:g<W.heap.size
 x0:W.cell? ⟨g,0,none⟩=some (vi vk a0)
 x1:W.cell? ⟨g,1,none⟩=some (vi vk a1)
 x2:W.cell? ⟨g,2,none⟩=some (vi vk b0)
 x3:W.cell? ⟨g,3,none⟩=some (vi vk b1)
 x4:W.cell? ⟨g,4,none⟩=some (vi vk c0)
 x5:W.cell? ⟨g,5,none⟩=some (vi vk c1)
theorem C6.below{W W':World}{g B:Nat}{a0 a1 b0 b1 c0 c1:Int}(h:C6 W g a0 a1 b0 b1 c0 c1)(hb:Below B W W')(hB:g<B):C6 W' g a0 a1 b0 b1 c0 c1:=
 ⟨Nat.lt_of_lt_of_le h.lt hb.size,(hb.cell (p:=⟨g,0,none⟩) hB).trans h.x0,(hb.cell (p:=⟨g,1,none⟩) hB).trans h.x1,(hb.cell (p:=⟨g,2,none⟩) hB).trans h.x2,(hb.cell (p:=⟨g,3,none⟩) hB).trans h.x3,(hb.cell (p:=⟨g,4,none⟩) hB).trans h.x4,(hb.cell (p:=⟨g,5,none⟩) hB).trans h.x5⟩
theorem C6.new(w:World)(a0 a1 b0 b1 c0 c1:Int)(t:TypeId):C6 (w.alloc (.cells #[vi vk a0,vi vk a1,vi vk b0,vi vk b1,vi vk c0,vi vk c1] t)) w.heap.size a0 a1 b0 b1 c0 c1:=⟨by simp,by simp,by simp,by simp,by simp,by simp,by simp⟩
theorem small_fv{x:Int×Int}(h:Trig.Small x):fvB x.1 x.2=true:=by
 rw[fv_iff];have:=h.lo;have:=h.le;have:=h.hi;omega
theorem fit_small{x:Int×Int}(h:Trig.Small x):fitV x.1 x.2=.tuple #[.agg #[vi vk x.1,vi vk x.2],vi vk 0]:=by
 unfold fitV;rw[if_pos (small_fv h)]
theorem times25_any(x y:Int×Int)(hx:Trig.Small x)(hy:Trig.Small y)(w:World):Calls Tryz.prog 180 #[.agg #[vi vk x.1,vi vk x.2],.agg #[vi vk y.1,vi vk y.2]] w fun e w'=>e=.returned (.agg #[vi vk (Trig.mulP x y).1,vi vk (Trig.mulP x y).2])∧Below w.heap.size w w':=by
 have km:=fun W=>rMul_any x.1 x.2 y.1 y.2 W (small_fv hx) (small_fv hy);have hm:=fit_small (Trig.mulP_small hx hy);have km: ∀W,Calls Tryz.prog 203 #[.agg #[vi vk x.1,vi vk x.2],.agg #[vi vk y.1,vi vk y.2]] W fun e w'=>e=.returned (.tuple #[.agg #[vi vk (Trig.mulP x y).1,vi vk (Trig.mulP x y).2],vi vk 0])∧Below W.heap.size W w':=fun W=>by rw[←hm];exact km W
 have KM:=hid km;clear hm hx hy;obtain⟨x0,x1⟩:=x;obtain⟨y0,y1⟩:=y;obtain⟨⟨r0,r1⟩,hr⟩: ∃r,Trig.mulP (x0,x1) (y0,y1)=r:=⟨_,rfl⟩;rw[hr] at KM⊢;simp only[] at KM⊢;clear hr km;have T2:Hid (D2 (((w.alloc (.cells #[vi vk x0,vi vk x1] 160)).alloc (.cells #[vi vk y0,vi vk y1] 160)).alloc (.cells #[vi vk 0,vi vk 0] 160)) (w.heap.size+1+1) 0 0):=hid (by
  have:=D2.new ((w.alloc (.cells #[vi vk x0,vi vk x1] 160)).alloc (.cells #[vi vk y0,vi vk y1] 160)) 0 0 160;rwa [World.size_alloc,World.size_alloc] at this)
 have B0:=hid (((bl_alloc w (.cells #[vi vk x0,vi vk x1] 160)).alloc (by simp) (.cells #[vi vk y0,vi vk y1] 160)).alloc (by simp;omega) (.cells #[vi vk 0,vi vk 0] 160));go_enter func180,ntmps180;go_wp2_with fail;(with_reducible refine(KM.out _).mono ?_)
 rintro e w1 ⟨rfl,hb1⟩
 have T2:=hid ((T2.out.below hb1 T2.out.lt).alloc (.cells #[vi vk r0,vi vk r1] 160));have B0:=hid ((B0.out.trans (hb1.mono B0.out.size)).alloc (by have:=B0.out.size;have:=hb1.size;omega) (.cells #[vi vk r0,vi vk r1] 160));obtain⟨zt,z0,z1,zf0,zf1⟩:=T2.out;go_wp2;refine bodyPost_ret (v:=.agg #[vi vk r0,vi vk r1]) (by simp[results,results180,go_sem, *];done) rfl ⟨rfl,?_⟩;exact(B0.out.setCell so_ _).setCell so_ _
theorem fit_add{x y:Int×Int}(hx:Trig.Small x)(hy:Trig.Small y):fitV (Trig.addP x y).1 (Trig.addP x y).2=.tuple #[.agg #[vi vk (Trig.addP x y).1,vi vk (Trig.addP x y).2],vi vk 0]:=by
 have h:fvB (Trig.addP x y).1 (Trig.addP x y).2=true:=by
  rw[fv_iff];have:=hx.lo;have:=hx.le;have:=hx.hi;have:=hy.lo;have:=hy.le;have:=hy.hi;unfold Trig.addP;simp only[];omega
 unfold fitV;rw[if_pos h]
theorem plus25_any(x y:Int×Int)(hx:Trig.Small x)(hy:Trig.Small y)(w:World):Calls Tryz.prog 179 #[.agg #[vi vk x.1,vi vk x.2],.agg #[vi vk y.1,vi vk y.2]] w fun e w'=>e=.returned (.agg #[vi vk (Trig.addP x y).1,vi vk (Trig.addP x y).2])∧Below w.heap.size w w':=by
 have km:=fun W=>rAdd_any x.1 x.2 y.1 y.2 W (small_fv hx) (small_fv hy);have hm:=fit_add hx hy;have km: ∀W,Calls Tryz.prog 202 #[.agg #[vi vk x.1,vi vk x.2],.agg #[vi vk y.1,vi vk y.2]] W fun e w'=>e=.returned (.tuple #[.agg #[vi vk (Trig.addP x y).1,vi vk (Trig.addP x y).2],vi vk 0])∧Below W.heap.size W w':=fun W=>by rw[←hm];exact km W
 have KM:=hid km;clear hm hx hy;obtain⟨x0,x1⟩:=x;obtain⟨y0,y1⟩:=y;obtain⟨⟨r0,r1⟩,hr⟩: ∃r,Trig.addP (x0,x1) (y0,y1)=r:=⟨_,rfl⟩;rw[hr] at KM⊢;simp only[] at KM⊢;clear hr km;have T2:Hid (D2 (((w.alloc (.cells #[vi vk x0,vi vk x1] 160)).alloc (.cells #[vi vk y0,vi vk y1] 160)).alloc (.cells #[vi vk 0,vi vk 0] 160)) (w.heap.size+1+1) 0 0):=hid (by
  have:=D2.new ((w.alloc (.cells #[vi vk x0,vi vk x1] 160)).alloc (.cells #[vi vk y0,vi vk y1] 160)) 0 0 160;rwa [World.size_alloc,World.size_alloc] at this)
 have B0:=hid (((bl_alloc w (.cells #[vi vk x0,vi vk x1] 160)).alloc (by simp) (.cells #[vi vk y0,vi vk y1] 160)).alloc (by simp;omega) (.cells #[vi vk 0,vi vk 0] 160));go_enter func179,ntmps179;go_wp2_with fail;(with_reducible refine(KM.out _).mono ?_)
 rintro e w1 ⟨rfl,hb1⟩
 have T2:=hid ((T2.out.below hb1 T2.out.lt).alloc (.cells #[vi vk r0,vi vk r1] 160));have B0:=hid ((B0.out.trans (hb1.mono B0.out.size)).alloc (by have:=B0.out.size;have:=hb1.size;omega) (.cells #[vi vk r0,vi vk r1] 160));obtain⟨zt,z0,z1,zf0,zf1⟩:=T2.out;go_wp2;refine bodyPost_ret (v:=.agg #[vi vk r0,vi vk r1]) (by simp[results,results179,go_sem, *];done) rfl ⟨rfl,?_⟩;exact(B0.out.setCell so_ _).setCell so_ _
theorem Sine25_any(a b c:Int×Int)(w:World)(ha: -10800000≤a.1∧a.1≤10800000∧ -10800000≤a.2∧a.2≤10800000)(hb: -10800000≤b.1∧b.1≤10800000∧ -10800000≤b.2∧b.2≤10800000)(hc: -1000000000000≤c.1∧c.1≤1000000000000∧ -1000000000000≤c.2∧c.2≤1000000000000):
 Calls Tryz.prog 136 #[.agg #[vi vk a.1,vi vk a.2,vi vk b.1,vi vk b.2,vi vk c.1,vi vk c.2]] w fun e w'=>e=.returned (.agg #[vi vk (Trig.sinT a b c).1,vi vk (Trig.sinT a b c).2])∧Below w.heap.size w w':=by
 have K1:=fun W=>SinR_any a.1 a.2 W om_ om_;have K2:=fun W=>SinR_any b.1 b.2 W om_ om_;have K3:=fun W=>CosR_any a.1 a.2 W om_ om_ om_ om_;have K4':=fun W=>CosR_any b.1 b.2 W om_ om_ om_ om_;have K5:=fun W=>CosR_any c.1 c.2 W om_ om_ om_ om_;have M1:=fun W=>times25_any (Trig.snP a) (Trig.snP b) (Trig.snP_small a) (Trig.snP_small b) W;have M2:=fun W=>times25_any (Trig.csP a) (Trig.csP b) (Trig.csP_small a) (Trig.csP_small b) W;have M3:=fun W=>times25_any (Trig.mulP (Trig.csP a) (Trig.csP b)) (Trig.csP c) (Trig.mulP_small (Trig.csP_small a) (Trig.csP_small b)) (Trig.csP_small c) W;have M4:=fun W=>plus25_any (Trig.mulP (Trig.snP a) (Trig.snP b)) (Trig.mulP (Trig.mulP (Trig.csP a) (Trig.csP b)) (Trig.csP c)) (Trig.mulP_small (Trig.snP_small a) (Trig.snP_small b)) (Trig.mulP_small (Trig.mulP_small (Trig.csP_small a) (Trig.csP_small b)) (Trig.csP_small c)) W;have e0:Trig.sinT a b c=Trig.addP (Trig.mulP (Trig.snP a) (Trig.snP b)) (Trig.mulP (Trig.mulP (Trig.csP a) (Trig.csP b)) (Trig.csP c)):=rfl;rw[e0];have e1: ∀x:Int×Int,Trig.snP x=(Trig.enLo x.1 x.2,Trig.enHi x.1 x.2):=fun _=>rfl;have e2: ∀x:Int×Int,Trig.csP x=(Trig.enLo (x.1+5400000) (x.2+5400000),Trig.enHi (x.1+5400000) (x.2+5400000)):=fun _=>rfl;obtain⟨⟨s0,s1⟩,hs⟩: ∃x,Trig.addP (Trig.mulP (Trig.snP a) (Trig.snP b)) (Trig.mulP (Trig.mulP (Trig.csP a) (Trig.csP b)) (Trig.csP c))=x:=⟨_,rfl⟩;rw[hs] at M4⊢;obtain⟨⟨u0,u1⟩,hu⟩: ∃x,Trig.mulP (Trig.mulP (Trig.csP a) (Trig.csP b)) (Trig.csP c)=x:=⟨_,rfl⟩;rw[hu] at M3 M4;obtain⟨⟨v0,v1⟩,hv⟩: ∃x,Trig.mulP (Trig.csP a) (Trig.csP b)=x:=⟨_,rfl⟩;rw[hv] at M2 M3;obtain⟨⟨t0,t1⟩,ht⟩: ∃x,Trig.mulP (Trig.snP a) (Trig.snP b)=x:=⟨_,rfl⟩;rw[ht] at M1 M4;rw[e1,e1] at M1;rw[e2,e2] at M2;rw[e2] at M3;clear e0 e1 e2 hs hu hv ht;simp only[] at M1 M2 M3 M4⊢;generalize Trig.enLo a.1 a.2=n0 at*;generalize Trig.enHi a.1 a.2=n1 at*;generalize Trig.enLo b.1 b.2=n2 at*;generalize Trig.enHi b.1 b.2=n3 at*;generalize Trig.enLo (a.1+5400000) (a.2+5400000)=p0 at*;generalize Trig.enHi (a.1+5400000) (a.2+5400000)=p1 at*;generalize Trig.enLo (b.1+5400000) (b.2+5400000)=p2 at*;generalize Trig.enHi (b.1+5400000) (b.2+5400000)=p3 at*;generalize Trig.enLo (c.1+5400000) (c.2+5400000)=p4 at*;generalize Trig.enHi (c.1+5400000) (c.2+5400000)=p5 at*;have K1:=hid K1;have K2:=hid K2;have K3:=hid K3;have K4':=hid K4';have K5:=hid K5;have M1:=hid M1;have M2:=hid M2;have M3:=hid M3;have M4:=hid M4;obtain⟨a0,a1⟩:=a;obtain⟨b0,b1⟩:=b;obtain⟨c0,c1⟩:=c;simp only[] at K1 K2 K3 K4' K5⊢;clear ha hb hc;go_enter func136,ntmps136;go_upto_region 1 with (fail)
 have T1:=hid ((C6.new w a0 a1 b0 b1 c0 c1 95).below (bl_alloc _ (.cells #[vi vk 0,vi vk 0] 160)) (by simp));have T2:Hid (D2 ((w.alloc (.cells #[vi vk a0,vi vk a1,vi vk b0,vi vk b1,vi vk c0,vi vk c1] 95)).alloc (.cells #[vi vk 0,vi vk 0] 160)) (w.heap.size+1) 0 0):=hid (by
  have:=D2.new (w.alloc (.cells #[vi vk a0,vi vk a1,vi vk b0,vi vk b1,vi vk c0,vi vk c1] 95)) 0 0 160;rwa [World.size_alloc] at this)
 have B0:=hid ((bl_alloc w (.cells #[vi vk a0,vi vk a1,vi vk b0,vi vk b1,vi vk c0,vi vk c1] 95)).alloc (by simp) (.cells #[vi vk 0,vi vk 0] 160));generalize (w.alloc (.cells #[vi vk a0,vi vk a1,vi vk b0,vi vk b1,vi vk c0,vi vk c1] 95)).alloc (.cells #[vi vk 0,vi vk 0] 160)=W0 at*;have hn1: ¬w.heap.size+1=w.heap.size:=by omega
 obtain⟨tl,x0,x1,x2,x3,x4,x5⟩:=T1.out;go_region_held3 (fun w'=>w'.cell? ⟨w.heap.size,0,none⟩=some (vi vk a0)∧w'.cell? ⟨w.heap.size,1,none⟩=some (vi vk a1)∧w'.cell? ⟨w.heap.size,2,none⟩=some (vi vk b0)∧w'.cell? ⟨w.heap.size,3,none⟩=some (vi vk b1)∧w'.cell? ⟨w.heap.size,4,none⟩=some (vi vk c0)∧w'.cell? ⟨w.heap.size,5,none⟩=some (vi vk c1)) (simp[*]) (first
  |((first|go_at_call 181|go_at_call 182|go_at_call 180|go_at_call 179);(first|(with_reducible refine(K1.out _).mono ?_)|(with_reducible refine(K2.out _).mono ?_)|(with_reducible refine(K3.out _).mono ?_)|(with_reducible refine(K4'.out _).mono ?_)|(with_reducible refine(K5.out _).mono ?_)|(with_reducible refine(M1.out _).mono ?_)|(with_reducible refine(M2.out _).mono ?_)|(with_reducible refine(M3.out _).mono ?_)|(with_reducible refine(M4.out _).mono ?_));rintro e w9 ⟨rfl,hb9⟩;(first|(replace hb9:=first_b hb9)|skip);have B0:=hid (B0.out.trans (hb9.mono B0.out.size));have T1:=hid (T1.out.below hb9 T1.out.lt);have T2:=hid (T2.out.below hb9 T2.out.lt);clear hb9;clear x0 x1 x2 x3 x4 x5 tl;obtain⟨tl,x0,x1,x2,x3,x4,x5⟩:=T1.out;obtain⟨bt9,b09,b19,bf09,bf19⟩:=T2.out;have e9:=fun(i:Nat) (u v:Value)=>(World.cell?_setCell_other (w9.setCell ⟨w.heap.size+1,0,none⟩ u) ⟨w.heap.size+1,1,none⟩ ⟨w.heap.size,i,none⟩ v (fun e=>hn1 (by injection e))).trans (World.cell?_setCell_other w9 ⟨w.heap.size+1,0,none⟩ ⟨w.heap.size,i,none⟩ u (fun e=>hn1 (by injection e))))
  |fail)
 all_goals
  go_wp2;refine bodyPost_ret (v:=.agg #[vi vk s0,vi vk s1]) (by simp[results,results136,go_sem, *];done) rfl ⟨rfl,?_⟩;exact(B0.out.setCell so_ _).setCell so_ _
end Go.Proofs.YtdeiofgddhbdaaaGreatDoor
