/- The walks of arctrig's circle and reaches at any angle of the first quadrant. -/
import Derived.Test.YtdeiofgddhbdaaaGreatHBc
import Derived.Test.YtdeiofgddhbdaaaGreatHKu
set_option linter.unusedSimpArgs false
set_option linter.unusedVariables false
set_option maxHeartbeats 4000000
set_option maxRecDepth 100000
open Go.RowKit
open Go.Lib (hid)
open Go.Proofs.Tryz
open Go.Value renaming int→vi
open Go.IntKind renaming i64→vk
open Go.IntKind renaming u64→vu
namespace Go.Proofs.YtdeiofgddhbdaaaGreat
theorem puBe{p:Prop}(h:p:=by simp only[Act.put,List.setIfInBounds_toArray,List.set_cons_zero,List.set_cons_succ]):p:=h
def AnyBool(e:Ending):Prop:= ∃v:Bool,e=.returned (.bool v)
theorem lessQ_any(a0 a1 a2 a3 b0 b1 b2 b3:Int)(w:World):
 Calls Tryz.prog 235 #[num4 a0 a1 a2 a3,num4 b0 b1 b2 b3] w fun e w'=>AnyBool e∧Below w.heap.size w w':=by
 have TA0:=hid ((Blk.new w 242 (arr4 a0 a1 a2 a3)).alloc (.cells (arr4 b0 b1 b2 b3) 242));have tb:=Blk.new (w.alloc (.cells (arr4 a0 a1 a2 a3) 242)) 242 (arr4 b0 b1 b2 b3);rw[World.size_alloc] at tb;have TB0:=hid tb;have B0:=hid ((bl_alloc w (.cells (arr4 a0 a1 a2 a3) 242)).alloc (by simp) (.cells (arr4 b0 b1 b2 b3) 242));clear tb;unfold arr4 at TA0 TB0 B0;go_enter func235,ntmps235;go_wp2;generalize (w.alloc (.cells #[vi vu a0,vi vu a1,vi vu a2,vi vu a3] 242)).alloc (.cells #[vi vu b0,vi vu b1,vi vu b2,vi vu b3] 242)=w0 at*;refine wp_loop_rounds 5 ?_;rw[rounds_succ];have x:=TA0.out.cell 0;have y:=TB0.out.cell 0;simp at x y;go_wp2;go_quiet (fail);rename_i nq;clear x y;have TA1:=hid (TA0.out.drewN nq);have TB1:=hid (TB0.out.drewN nq);have B1:=hid (bl_drewN B0.out nq);generalize w0.drewN nq=w1 at*;clear TA0 TB0 B0;rcases Classical.em (a0=b0) with h|h
 rotate_left
 · have hd1:(a0 != b0)=true:=by simp[h]
   have hd2:(a0==b0)=false:=by simp[h]
   have x:=TA1.out.cell 0;have y:=TB1.out.cell 0;simp at x y;clear h;go_wp2;go_quiet (fail);have b9:=B1.out;go_wp2;go_ret;exact⟨⟨_,rfl⟩,bl_⟩
 subst h;go_wp2;rw[rounds_succ];have x:=TA1.out.cell 1;have y:=TB1.out.cell 1;simp at x y;go_wp2;go_quiet (fail);rename_i nq;clear x y;have TA2:=hid (TA1.out.drewN nq);have TB2:=hid (TB1.out.drewN nq);have B2:=hid (bl_drewN B1.out nq);generalize w1.drewN nq=w2 at*;clear TA1 TB1 B1;rcases Classical.em (a1=b1) with h|h
 rotate_left
 · have hd1:(a1 != b1)=true:=by simp[h]
   have hd2:(a1==b1)=false:=by simp[h]
   have x:=TA2.out.cell 1;have y:=TB2.out.cell 1;simp at x y;clear h;go_wp2;go_quiet (fail);have b9:=B2.out;go_wp2;go_ret;exact⟨⟨_,rfl⟩,bl_⟩
 subst h;go_wp2;rw[rounds_succ];have x:=TA2.out.cell 2;have y:=TB2.out.cell 2;simp at x y;go_wp2;go_quiet (fail);rename_i nq;clear x y;have TA3:=hid (TA2.out.drewN nq);have TB3:=hid (TB2.out.drewN nq);have B3:=hid (bl_drewN B2.out nq);generalize w2.drewN nq=w3 at*;clear TA2 TB2 B2;rcases Classical.em (a2=b2) with h|h
 rotate_left
 · have hd1:(a2 != b2)=true:=by simp[h]
   have hd2:(a2==b2)=false:=by simp[h]
   have x:=TA3.out.cell 2;have y:=TB3.out.cell 2;simp at x y;clear h;go_wp2;go_quiet (fail);have b9:=B3.out;go_wp2;go_ret;exact⟨⟨_,rfl⟩,bl_⟩
 subst h;go_wp2;rw[rounds_succ];have x:=TA3.out.cell 3;have y:=TB3.out.cell 3;simp at x y;go_wp2;go_quiet (fail);rename_i nq;clear x y;have TA4:=hid (TA3.out.drewN nq);have TB4:=hid (TB3.out.drewN nq);have B4:=hid (bl_drewN B3.out nq);generalize w3.drewN nq=w4 at*;clear TA3 TB3 B3;rcases Classical.em (a3=b3) with h|h
 rotate_left
 · have hd1:(a3 != b3)=true:=by simp[h]
   have hd2:(a3==b3)=false:=by simp[h]
   have x:=TA4.out.cell 3;have y:=TB4.out.cell 3;simp at x y;clear h;go_wp2;go_quiet (fail);have b9:=B4.out;go_wp2;go_ret;exact⟨⟨_,rfl⟩,bl_⟩
 subst h;go_wp2;rw[rounds_succ];go_wp2;go_ret;exact⟨⟨_,rfl⟩,B4.out⟩
def AnyNum(e:Ending):Prop:= ∃r0 r1 r2 r3:Int,e=.returned (num4 r0 r1 r2 r3)∧U64 r0∧U64 r1∧U64 r2∧U64 r3
structure SerI(w wr:World)(g7 g8 j:Nat)(s0 s1 s2 s3 t0 t1 t2 t3 u0 u1 u2 u3:Int):Prop where
 ht:U64 t0∧U64 t1∧U64 t2∧U64 t3
 hu:U64 u0∧U64 u1∧U64 u2∧U64 u3
 hj:nv t0 t1 t2 t3*2^j<115792089237316195423570985008687907853269984665640564039457584007913129639936
 T8:Blk wr g8 242 (arr4 t0 t1 t2 t3)
 T7:Blk wr g7 242 (arr4 u0 u1 u2 u3)
 TS:Blk wr (w.heap.size+1) 242 (arr4 s0 s1 s2 s3)
 TZ:Blk wr (w.heap.size+1+1) 242 (arr4 0 0 0 0)
 bl:Below w.heap.size w wr
theorem series_any(f0 f1 f2 f3 s0 s1 s2 s3 n:Int)(w:World)(hf:U64 f0∧U64 f1∧U64 f2∧U64 f3)(hs:U64 s0∧U64 s1∧U64 s2∧U64 s3)(hsq:nv s0 s1 s2 s3≤6277101735386680763835789423207666416102355444464034512896)(hn0:0≤n)(hn1:n≤1):
 Calls Tryz.prog 251 #[num4 f0 f1 f2 f3,num4 s0 s1 s2 s3,vi vu n] w fun e w'=>AnyNum e∧Below w.heap.size w w':=by
 have hq:=neqNum;have HF:=hid hf;have HS:=hid hs;have HQ:=hid hsq;have TF0:=hid (((Blk.new w 242 (arr4 f0 f1 f2 f3)).alloc (.cells (arr4 s0 s1 s2 s3) 242)).alloc (.cells (arr4 0 0 0 0) 242));have ts:=(Blk.new (w.alloc (.cells (arr4 f0 f1 f2 f3) 242)) 242 (arr4 s0 s1 s2 s3)).alloc (.cells (arr4 0 0 0 0) 242);have tz:=Blk.new ((w.alloc (.cells (arr4 f0 f1 f2 f3) 242)).alloc (.cells (arr4 s0 s1 s2 s3) 242)) 242 (arr4 0 0 0 0);rw[World.size_alloc] at ts;rw[World.size_alloc,World.size_alloc] at tz;have TS0:=hid ts;have TZ0:=hid tz;have B0:=hid (((bl_alloc w (.cells (arr4 f0 f1 f2 f3) 242)).alloc (by simp) (.cells (arr4 s0 s1 s2 s3) 242)).alloc (by simp;omega) (.cells (arr4 0 0 0 0) 242));clear ts tz hf hs hsq;unfold arr4 at TF0 TS0 TZ0 B0;go_enter func251,ntmps251;go_upto_region 1 with (fail)
 generalize ((w.alloc (.cells #[vi vu f0,vi vu f1,vi vu f2,vi vu f3] 242)).alloc (.cells #[vi vu s0,vi vu s1,vi vu s2,vi vu s3] 242)).alloc (.cells #[vi vu 0,vi vu 0,vi vu 0,vi vu 0] 242)=w0 at*;have x0:=TF0.out.cell 0;have x1:=TF0.out.cell 1;have x2:=TF0.out.cell 2;have x3:=TF0.out.cell 3;simp at x0 x1 x2 x3;have y0:=fun o=>((bl_alloc w0 o).cell (p:=⟨w.heap.size,0,none⟩) TF0.out.lt).trans x0;have y1:=fun o=>((bl_alloc w0 o).cell (p:=⟨w.heap.size,1,none⟩) TF0.out.lt).trans x1;have y2:=fun o=>((bl_alloc w0 o).cell (p:=⟨w.heap.size,2,none⟩) TF0.out.lt).trans x2;have y3:=fun o=>((bl_alloc w0 o).cell (p:=⟨w.heap.size,3,none⟩) TF0.out.lt).trans x3;have v0:=fun o o'=>(((bl_alloc w0 o).alloc (by simp) o').cell (p:=⟨w.heap.size,0,none⟩) TF0.out.lt).trans x0;have v1:=fun o o'=>(((bl_alloc w0 o).alloc (by simp) o').cell (p:=⟨w.heap.size,1,none⟩) TF0.out.lt).trans x1;have v2:=fun o o'=>(((bl_alloc w0 o).alloc (by simp) o').cell (p:=⟨w.heap.size,2,none⟩) TF0.out.lt).trans x2;have v3:=fun o o'=>(((bl_alloc w0 o).alloc (by simp) o').cell (p:=⟨w.heap.size,3,none⟩) TF0.out.lt).trans x3;go_cut [7,8] from 7 to 11 (fun s7 s8 wy=> ∃g7 g8:Nat,s7=.pointer (some ⟨g7,0,none⟩)∧s8=.pointer (some ⟨g8,0,none⟩)∧g7≠g8∧w0.heap.size≤g7∧w0.heap.size≤g8∧Blk wy g7 242 (arr4 f0 f1 f2 f3)∧Blk wy g8 242 (arr4 f0 f1 f2 f3)∧Below w0.heap.size w0 wy)
 case first=>
  have hA:=hid ((Blk.new w0 242 #[vi vu f0,vi vu f1,vi vu f2,vi vu f3]).alloc (.cells #[vi vu f0,vi vu f1,vi vu f2,vi vu f3] 242));have hb':=Blk.new (w0.alloc (.cells #[vi vu f0,vi vu f1,vi vu f2,vi vu f3] 242)) 242 #[vi vu f0,vi vu f1,vi vu f2,vi vu f3];rw[World.size_alloc] at hb';have hB:=hid hb';have hC:=hid (bl_drew ((bl_alloc w0 (.cells #[vi vu f0,vi vu f1,vi vu f2,vi vu f3] 242)).alloc (by simp) (.cells #[vi vu f0,vi vu f1,vi vu f2,vi vu f3] 242)));clear hb';go_region
  all_goals
   try go_wp2
   go_meet
   case rel=>
    first
    |exact⟨_,_,rfl,rfl,Nat.ne_of_lt (Nat.lt_succ_self _),Nat.le_refl _,Nat.le_succ _,hA.out.drew,hB.out.drew,hC.out⟩
    |exact⟨_,_,rfl,rfl,Nat.ne_of_gt (Nat.lt_succ_self _),Nat.le_succ _,Nat.le_refl _,hB.out.drew,hA.out.drew,hC.out⟩
 case rest=>
  obtain⟨g7,g8,rfl,rfl,hne,h7,h8,T7,T8,hb⟩:=hcut;rename World=>w1
  have z0:=TZ0.out.lt;have I1:Hid (SerI w w1 g7 g8 0 s0 s1 s2 s3 f0 f1 f2 f3 f0 f1 f2 f3):=hid ⟨HF.out,HF.out,by have:=(nv_nn HF.out.1 HF.out.2.1 HF.out.2.2.1 HF.out.2.2.2).2;rw[Int.pow_zero,Int.mul_one];exact this,T8,T7,TS0.out.below hb TS0.out.lt,TZ0.out.below hb TZ0.out.lt,B0.out.trans (hb.mono om_)⟩;have hg7:w.heap.size+1+1<g7:=by omega
  have hg8:w.heap.size+1+1<g8:=by omega
  clear x0 x1 x2 x3 y0 y1 y2 y3 v0 v1 v2 v3 T7 T8 hb TF0 TS0 TZ0 B0 h7 h8 z0;go_wp2;go_loopw [2,9] (fun v2 v9 wr=> ∃(j:Nat) (bo:Bool) (t0 t1 t2 t3 u0 u1 u2 u3:Int),v2=vi vu (n+2*j)∧v9=.bool bo∧SerI w wr g7 g8 j s0 s1 s2 s3 t0 t1 t2 t3 u0 u1 u2 u3) (fun v2 _ _=>1000-(intOf v2).toNat)
  case atStart=>exact⟨0,true,_,_,_,_,_,_,_,_,by simp,rfl,I1.out⟩
  case round=>
   obtain⟨j,bo,t0,t1,t2,t3,u0,u1,u2,u3,rfl,rfl,hI⟩:=hrel;clear I1;have HI:=hid hI;have y0:=hI.T8.cell 0;have y1:=hI.T8.cell 1;have y2:=hI.T8.cell 2;have y3:=hI.T8.cell 3;have x0:=hI.TS.cell 0;have x1:=hI.TS.cell 1;have x2:=hI.TS.cell 2;have x3:=hI.TS.cell 3;simp at y0 y1 y2 y3 x0 x1 x2 x3;cases hz:numz t0 t1 t2 t3 with
   |true=>
    have q0:=hI.T7.cell 0;have q1:=hI.T7.cell 1;have q2:=hI.T7.cell 2;have q3:=hI.T7.cell 3;have r0:=hI.TZ.cell 0;have r1:=hI.TZ.cell 1;have r2:=hI.TZ.cell 2;have r3:=hI.TZ.cell 3;have p0:=hI.TZ.frozen 0;have p1:=hI.TZ.frozen 1;have p2:=hI.TZ.frozen 2;have p3:=hI.TZ.frozen 3;simp at q0 q1 q2 q3 r0 r1 r2 r3;clear hI;go_wp2;refine bodyPost_ret (v:=num4 u0 u1 u2 u3) (by simp[results,results251,go_sem, *]) rfl ⟨⟨u0,u1,u2,u3,rfl,HI.out.hu⟩,?_⟩;exact bl_put4' HI.out.bl om_ _ _ _ _
   |false=>
    have ht1:=numz_nv hI.ht.1 hI.ht.2.1 hI.ht.2.2.1 hI.ht.2.2.2 hz;have hj:=term_few ht1 hI.hj;obtain⟨m,hm⟩: ∃m,n+2*(j:Int)=m:=⟨_,rfl⟩;have hm0:0≤m:=by omega
    have hm1:m≤520:=by omega
    have hd1:(m+1)*(m+2)≤600*600:=Int.mul_le_mul om_ om_ om_ om_;have hd0:1*2≤(m+1)*(m+2):=Int.mul_le_mul om_ om_ om_ om_;obtain⟨d,hd⟩: ∃d,(m+1)*(m+2)=d:=⟨_,rfl⟩;rw[hd] at hd0 hd1;have n0:IntKind.u64.wrap (m+1)=m+1:=by rw[IntKind.wrap_u64];omega
    have n1:IntKind.u64.wrap (m+2)=m+2:=by rw[IntKind.wrap_u64];omega
    have n2:IntKind.u64.wrap d=d:=by rw[IntKind.wrap_u64];omega
    have KM:=hid (fun W=>mulQ_any t0 t1 t2 t3 s0 s1 s2 s3 W hI.ht.1 hI.ht.2.1 hI.ht.2.2.1 hI.ht.2.2.2 HS.out.1 HS.out.2.1 HS.out.2.2.1 HS.out.2.2.2);have HT1:=hid ht1;have hms:n+2*((j+1:Nat):Int)=m+2:=by omega
    have HMS:=hid hms;rw[hm];clear hI ht1 hm hms;go_wp2_with fail;(with_reducible refine(KM.out _).mono ?_)
    rintro e w2 ⟨⟨r0,r1,r2,r3,rfl,hr,hrv⟩,hb2⟩
    have KO:=hid (fun W=>overR_any r0 r1 r2 r3 d W hr.1 hr.2.1 hr.2.2.1 hr.2.2.2 om_ om_);have HRV:=hid hrv;clear hr hrv x0 x1 x2 x3 y0 y1 y2 y3 KM;go_wp2_with fail;(with_reducible refine(KO.out _).mono ?_)
    rintro e w3 ⟨⟨q0,q1,q2,q3,rfl,hq',hqv⟩,hb3⟩
    have hb23:=hb2.trans (hb3.mono hb2.size);have HQ4:=hid hq';have HJ4:=hid (term_step (j:=j) (nv_nn HI.out.ht.1 HI.out.ht.2.1 HI.out.ht.2.2.1 HI.out.ht.2.2.2).1 HQ.out HRV.out hqv om_ (nv_nn hq'.1 hq'.2.1 hq'.2.2.1 hq'.2.2.2).1 HI.out.hj);have T8:=HI.out.T8.below hb23 HI.out.T8.lt;have T7:=hid ((HI.out.T7.below hb23 HI.out.T7.lt));have TS:=hid (HI.out.TS.below hb23 HI.out.TS.lt);have TZ:=hid (HI.out.TZ.below hb23 HI.out.TZ.lt);have hz3:=HI.out.bl.size;have B3:=hid (HI.out.bl.trans (hb23.mono hz3));have hu:=HI.out.hu;have HU:=hid hu;have KS:=hid (fun W=>subQ_any u0 u1 u2 u3 q0 q1 q2 q3 W hu.1 hu.2.1 hu.2.2.1 hu.2.2.2 hq'.1 hq'.2.1 hq'.2.2.1 hq'.2.2.2);have KA:=hid (fun W=>addQ_any u0 u1 u2 u3 q0 q1 q2 q3 W hu.1 hu.2.1 hu.2.2.1 hu.2.2.2 hq'.1 hq'.2.1 hq'.2.2.1 hq'.2.2.2);have y0:=T8.cell 0;have y1:=T8.cell 1;have y2:=T8.cell 2;have y3:=T8.cell 3;have k0:=T8.frozen 0;have k1:=T8.frozen 1;have k2:=T8.frozen 2;have k3:=T8.frozen 3;simp at y0 y1 y2 y3;have T8':=hid (blk4 T8 (vi vu q0) (vi vu q1) (vi vu q2) (vi vu q3));have T7':=hid (blk_far4 (g:=g8) T7.out hne (vi vu q0) (vi vu q1) (vi vu q2) (vi vu q3));have TS':=hid (blk_far4 (g:=g8) TS.out om_ (vi vu q0) (vi vu q1) (vi vu q2) (vi vu q3));have TZ':=hid (blk_far4 (g:=g8) TZ.out om_ (vi vu q0) (vi vu q1) (vi vu q2) (vi vu q3));have B4:=hid (bl_put4' (g:=g8) B3.out om_ (vi vu q0) (vi vu q1) (vi vu q2) (vi vu q3));clear hq' hqv hb3 hb2 hb23 hu T8 T7 TS TZ B3 HI HRV KO;cases bo with
    |true=>
     go_upto_region 8 with (fail)
     generalize (((w3.setCell ⟨g8,0,none⟩ (vi vu q0)).setCell ⟨g8,1,none⟩ (vi vu q1)).setCell ⟨g8,2,none⟩ (vi vu q2)).setCell ⟨g8,3,none⟩ (vi vu q3)=w4 at*;clear y0 y1 y2 y3 k0 k1 k2 k3;have y0:=T8'.out.cell 0;have y1:=T8'.out.cell 1;have y2:=T8'.out.cell 2;have y3:=T8'.out.cell 3;have x0:=T7'.out.cell 0;have x1:=T7'.out.cell 1;have x2:=T7'.out.cell 2;have x3:=T7'.out.cell 3;simp at y0 y1 y2 y3 x0 x1 x2 x3;go_wp2_with fail;(with_reducible refine(KS.out _).mono ?_)
     rintro e w5 ⟨rfl,hb5⟩
     obtain⟨d0,hd0'⟩: ∃d,suD u0 q0 (suB u1 q1 (suB u2 q2 (suB u3 q3 0)))=d:=⟨_,rfl⟩;obtain⟨d1,hd1'⟩: ∃d,suD u1 q1 (suB u2 q2 (suB u3 q3 0))=d:=⟨_,rfl⟩;obtain⟨d2,hd2'⟩: ∃d,suD u2 q2 (suB u3 q3 0)=d:=⟨_,rfl⟩;obtain⟨d3,hd3'⟩: ∃d,suD u3 q3 0=d:=⟨_,rfl⟩;rw[hd0',hd1',hd2',hd3'];have HD:Hid (U64 d0∧U64 d1∧U64 d2∧U64 d3):=hid ⟨by rw[←hd0'];exact suD_u _ _ _,by rw[←hd1'];exact suD_u _ _ _,by rw[←hd2'];exact suD_u _ _ _,by rw[←hd3'];exact suD_u _ _ _⟩;clear hd0' hd1' hd2' hd3' x0 x1 x2 x3 y0 y1 y2 y3;have T7:=T7'.out.below hb5 T7'.out.lt;have x0:=T7.cell 0;have x1:=T7.cell 1;have x2:=T7.cell 2;have x3:=T7.cell 3;have k0:=T7.frozen 0;have k1:=T7.frozen 1;have k2:=T7.frozen 2;have k3:=T7.frozen 3;simp at x0 x1 x2 x3;have J:=hid (show SerI w ((((w5.setCell ⟨g7,0,none⟩ (vi vu d0)).setCell ⟨g7,1,none⟩ (vi vu d1)).setCell ⟨g7,2,none⟩ (vi vu d2)).setCell ⟨g7,3,none⟩ (vi vu d3)) g7 g8 (j+1) s0 s1 s2 s3 q0 q1 q2 q3 d0 d1 d2 d3 from⟨HQ4.out,HD.out,HJ4.out,blk_far4 (T8'.out.below hb5 T8'.out.lt) hne.symm _ _ _ _,blk4 T7 _ _ _ _,blk_far4 (TS'.out.below hb5 TS'.out.lt) om_ _ _ _ _,blk_far4 (TZ'.out.below hb5 TZ'.out.lt) om_ _ _ _ _,bl_put4' (B4.out.trans (hb5.mono B4.out.size)) om_ _ _ _ _⟩);clear T7 hb5 T8' T7' TS' TZ' B4;go_wp2;go_roundw
     case rel=>exact⟨j+1,false,_,_,_,_,_,_,_,_,by rw[HMS.out],rfl,J.out⟩
     case measure=>simp[intOf];omega
    |false=>
     go_upto_region 9 with (fail)
     generalize (((w3.setCell ⟨g8,0,none⟩ (vi vu q0)).setCell ⟨g8,1,none⟩ (vi vu q1)).setCell ⟨g8,2,none⟩ (vi vu q2)).setCell ⟨g8,3,none⟩ (vi vu q3)=w4 at*;clear y0 y1 y2 y3 k0 k1 k2 k3;have y0:=T8'.out.cell 0;have y1:=T8'.out.cell 1;have y2:=T8'.out.cell 2;have y3:=T8'.out.cell 3;have x0:=T7'.out.cell 0;have x1:=T7'.out.cell 1;have x2:=T7'.out.cell 2;have x3:=T7'.out.cell 3;simp at y0 y1 y2 y3 x0 x1 x2 x3;go_wp2_with fail;(with_reducible refine(KA.out _).mono ?_)
     rintro e w5 ⟨rfl,hb5⟩
     obtain⟨d0,hd0'⟩: ∃d,adS u0 q0 (adC u1 q1 (adC u2 q2 (adC u3 q3 0)))=d:=⟨_,rfl⟩;obtain⟨d1,hd1'⟩: ∃d,adS u1 q1 (adC u2 q2 (adC u3 q3 0))=d:=⟨_,rfl⟩;obtain⟨d2,hd2'⟩: ∃d,adS u2 q2 (adC u3 q3 0)=d:=⟨_,rfl⟩;obtain⟨d3,hd3'⟩: ∃d,adS u3 q3 0=d:=⟨_,rfl⟩;rw[hd0',hd1',hd2',hd3'];have HD:Hid (U64 d0∧U64 d1∧U64 d2∧U64 d3):=hid ⟨by rw[←hd0'];exact adS_u _ _ _,by rw[←hd1'];exact adS_u _ _ _,by rw[←hd2'];exact adS_u _ _ _,by rw[←hd3'];exact adS_u _ _ _⟩;clear hd0' hd1' hd2' hd3' x0 x1 x2 x3 y0 y1 y2 y3;have T7:=T7'.out.below hb5 T7'.out.lt;have x0:=T7.cell 0;have x1:=T7.cell 1;have x2:=T7.cell 2;have x3:=T7.cell 3;have k0:=T7.frozen 0;have k1:=T7.frozen 1;have k2:=T7.frozen 2;have k3:=T7.frozen 3;simp at x0 x1 x2 x3;have J:=hid (show SerI w ((((w5.setCell ⟨g7,0,none⟩ (vi vu d0)).setCell ⟨g7,1,none⟩ (vi vu d1)).setCell ⟨g7,2,none⟩ (vi vu d2)).setCell ⟨g7,3,none⟩ (vi vu d3)) g7 g8 (j+1) s0 s1 s2 s3 q0 q1 q2 q3 d0 d1 d2 d3 from⟨HQ4.out,HD.out,HJ4.out,blk_far4 (T8'.out.below hb5 T8'.out.lt) hne.symm _ _ _ _,blk4 T7 _ _ _ _,blk_far4 (TS'.out.below hb5 TS'.out.lt) om_ _ _ _ _,blk_far4 (TZ'.out.below hb5 TZ'.out.lt) om_ _ _ _ _,bl_put4' (B4.out.trans (hb5.mono B4.out.size)) om_ _ _ _ _⟩);clear T7 hb5 T8' T7' TS' TZ' B4;go_wp2;go_roundw
     case rel=>exact⟨j+1,true,_,_,_,_,_,_,_,_,by rw[HMS.out],rfl,J.out⟩
     case measure=>simp[intOf];omega
theorem pi_any(w:World):Calls Tryz.prog 248 #[] w fun e w'=>e=.returned (num4 3 2611923443488327891 1376283091369227076 11820040416388919760)∧Below w.heap.size w w':=by
 go_enter func248,ntmps248;go_wp2;refine bodyPost_ret (v:=num4 3 2611923443488327891 1376283091369227076 11820040416388919760) (by simp[results,results248,go_sem]) rfl ⟨rfl,?_⟩;exact bl_
def TwoNums(e:Ending):Prop:= ∃r0 r1 r2 r3 q0 q1 q2 q3:Int,e=.returned (.tuple #[num4 r0 r1 r2 r3,num4 q0 q1 q2 q3])∧(U64 r0∧U64 r1∧U64 r2∧U64 r3)∧(U64 q0∧U64 q1∧U64 q2∧U64 q3)
theorem part_small{r0 r1 r2 r3 t k q0 q1 q2 q3:Int}(hk:k≤2700000)(ht:0≤t)(h:nv r0 r1 r2 r3+115792089237316195423570985008687907853269984665640564039457584007913129639936*t=3*k*6277101735386680763835789423207666416102355444464034512896+2611923443488327891*k*340282366920938463463374607431768211456+1376283091369227076*k*18446744073709551616+11820040416388919760*k)(h2:nv q0 q1 q2 q3*10800000≤nv r0 r1 r2 r3):nv q0 q1 q2 q3≤6277101735386680763835789423207666416102355444464034512896:=by
 generalize nv r0 r1 r2 r3=r at*;generalize nv q0 q1 q2 q3=q at*;omega
theorem sq_small{q0 q1 q2 q3 s0 s1 s2 s3:Int}(h0:0≤nv q0 q1 q2 q3)(h1:nv q0 q1 q2 q3≤6277101735386680763835789423207666416102355444464034512896)(h2:nv s0 s1 s2 s3*6277101735386680763835789423207666416102355444464034512896≤nv q0 q1 q2 q3*nv q0 q1 q2 q3):nv s0 s1 s2 s3≤6277101735386680763835789423207666416102355444464034512896:=by
 generalize nv q0 q1 q2 q3=q at*;generalize nv s0 s1 s2 s3=s at*;have a1:q*q≤q*6277101735386680763835789423207666416102355444464034512896:=Int.mul_le_mul_of_nonneg_left h1 h0;omega
theorem cells4{W W0:World}{g:Nat}{t:TypeId}{a0 a1 a2 a3:Int}(h:Blk W0 g t (arr4 a0 a1 a2 a3))(hb:Below W0.heap.size W0 W):W.cell? ⟨g,0,none⟩=some (vi vu a0)∧W.cell? ⟨g,1,none⟩=some (vi vu a1)∧W.cell? ⟨g,2,none⟩=some (vi vu a2)∧W.cell? ⟨g,3,none⟩=some (vi vu a3):=by
 have k:=h.below hb h.lt;exact⟨k.cell 0,k.cell 1,k.cell 2,k.cell 3⟩
theorem first_b4{W w9:World}(h:Below W.drew.heap.size W.drew w9):Below W.heap.size W w9:=(bl_drew (Below.refl _ _)).trans h
theorem circle_low(k:Int)(w:World)(h0:0≤k)(h1:k≤2700000):
 Calls Tryz.prog 233 #[vi vk k] w fun e w'=>TwoNums e∧Below w.heap.size w w':=by
 have KP:=hid pi_any;have KT:=hid (fun W=>timesQ_any 3 2611923443488327891 1376283091369227076 11820040416388919760 k W ⟨om_,om_⟩ ⟨om_,om_⟩ ⟨om_,om_⟩ ⟨om_,om_⟩ ⟨om_,om_⟩);have z2:=(Blk.new w 242 (arr4 0 0 0 0)).alloc (.cells (arr4 0 0 0 0) 242);have z3:=Blk.new (w.alloc (.cells (arr4 0 0 0 0) 242)) 242 (arr4 0 0 0 0);rw[World.size_alloc] at z3;have Z2:=hid z2;have Z3:=hid z3;have B0:=hid ((bl_alloc w (.cells (arr4 0 0 0 0) 242)).alloc (by simp) (.cells (arr4 0 0 0 0) 242));clear z2 z3;unfold arr4 at Z2 Z3 B0;have hc: ¬2700000<k:=by omega
 have hw:IntKind.u64.wrap k=k:=by rw[IntKind.wrap_u64];omega
 go_enter func233,ntmps233;go_wp2_with fail;(with_reducible refine(KP.out _).mono ?_)
 rintro e w1 ⟨rfl,hb1⟩
 have Z2a:=hid (Z2.out.below hb1 Z2.out.lt);have Z3a:=hid (Z3.out.below hb1 Z3.out.lt);have B1:=hid (B0.out.trans (hb1.mono B0.out.size));clear hb1 Z2 Z3 B0 KP;go_wp2_with fail;(with_reducible refine(KT.out _).mono ?_)
 rintro e w2 ⟨⟨r0,r1,r2,r3,t,rfl,hr,ht,hrv⟩,hb2⟩
 have KO:=hid (fun W=>overR_any r0 r1 r2 r3 10800000 W hr.1 hr.2.1 hr.2.2.1 hr.2.2.2 om_ om_);go_wp2_with fail;(with_reducible refine(KO.out _).mono ?_)
 rintro e w3 ⟨⟨q0,q1,q2,q3,rfl,hq,hqv⟩,hb3⟩
 have hsm:=part_small h1 ht hrv hqv;have KM:=hid (fun W=>mulQ_any q0 q1 q2 q3 q0 q1 q2 q3 W hq.1 hq.2.1 hq.2.2.1 hq.2.2.2 hq.1 hq.2.1 hq.2.2.1 hq.2.2.2);have HQ:=hid hq;have HS:=hid hsm;have hb23:=hb2.trans (hb3.mono hb2.size);have T4:=hid (Blk.new w3 242 (arr4 q0 q1 q2 q3));have Z2b:=hid ((Z2a.out.below hb23 Z2a.out.lt).alloc (.cells (arr4 q0 q1 q2 q3) 242));have Z3b:=hid ((Z3a.out.below hb23 Z3a.out.lt).alloc (.cells (arr4 q0 q1 q2 q3) 242));have B3:=hid ((B1.out.trans (hb23.mono B1.out.size)).alloc (by have:=B1.out.size;have:=hb23.size;omega) (.cells (arr4 q0 q1 q2 q3) 242));have hz3:w.heap.size+1<w3.heap.size:=by have:=Z3a.out.lt;have:=hb23.size;omega
 clear hr ht hrv hq hqv hsm hb2 hb3 hb23 KO KT Z2a Z3a B1 hw hc;unfold arr4 at Z2b Z3b B3;go_wp2_with fail;(with_reducible refine(KM.out _).mono ?_)
 rintro e w4 ⟨⟨s0,s1,s2,s3,rfl,hs,hsv⟩,hb4⟩
 have hss:=sq_small (nv_nn HQ.out.1 HQ.out.2.1 HQ.out.2.2.1 HQ.out.2.2.2).1 HS.out hsv;have K1:=hid (fun W=>series_any q0 q1 q2 q3 s0 s1 s2 s3 1 W HQ.out hs hss om_ om_);have K2:=hid (fun W=>series_any 1 0 0 0 s0 s1 s2 s3 0 W ⟨⟨om_,om_⟩,⟨om_,om_⟩,⟨om_,om_⟩,⟨om_,om_⟩⟩ hs hss om_ om_);have T4a:=hid ((T4.out.below hb4 T4.out.lt).alloc (.cells (arr4 s0 s1 s2 s3) 242));have T5a:=hid (Blk.new w4 242 (arr4 s0 s1 s2 s3));have Z2c:=hid ((Z2b.out.below hb4 Z2b.out.lt).alloc (.cells (arr4 s0 s1 s2 s3) 242));have Z3c:=hid ((Z3b.out.below hb4 Z3b.out.lt).alloc (.cells (arr4 s0 s1 s2 s3) 242));have B4:=hid ((B3.out.trans (hb4.mono B3.out.size)).alloc (by have:=B3.out.size;have:=hb4.size;omega) (.cells (arr4 s0 s1 s2 s3) 242));have hg:w3.heap.size<w4.heap.size:=by have:=hb4.size;rw[World.size_alloc] at this;omega
 clear hs hsv hss hb4 T4 Z2b Z3b B3 KM HQ HS;go_upto_region 6 with (fail)
 unfold arr4 at T4a T5a Z2c Z3c B4;obtain⟨W5,hW5⟩: ∃W5,w4.alloc (.cells #[vi vu s0,vi vu s1,vi vu s2,vi vu s3] 242)=W5:=⟨_,rfl⟩;rw[hW5] at T4a T5a Z2c Z3c B4⊢;clear hW5;generalize w4.heap.size=g5 at*;generalize w3.heap.size=g4 at*;have hn1: ¬w.heap.size=g4:=by omega
 have hn2: ¬w.heap.size=g5:=by omega
 have hn3: ¬w.heap.size+1=g4:=by omega
 have hn4: ¬w.heap.size+1=g5:=by omega
 obtain⟨x0,x1,x2,x3⟩:=cells4 T4a.out (Below.refl _ _);obtain⟨y0,y1,y2,y3⟩:=cells4 T5a.out (Below.refl _ _);go_region_held3 (fun w'=>w'.cell? ⟨g4,0,none⟩=some (vi vu q0)∧w'.cell? ⟨g4,1,none⟩=some (vi vu q1)∧w'.cell? ⟨g4,2,none⟩=some (vi vu q2)∧w'.cell? ⟨g4,3,none⟩=some (vi vu q3)∧w'.cell? ⟨g5,0,none⟩=some (vi vu s0)∧w'.cell? ⟨g5,1,none⟩=some (vi vu s1)∧w'.cell? ⟨g5,2,none⟩=some (vi vu s2)∧w'.cell? ⟨g5,3,none⟩=some (vi vu s3)) (simp[*,World.cell?_setCell_other]) (first
  |(go_at_call 251;(with_reducible refine(K1.out _).mono ?_);rintro e w9 ⟨⟨r0,r1,r2,r3,rfl,hr⟩,hb9⟩;(first|(replace hb9:=first_b4 hb9)|skip);have HR1:=hid hr;clear x0 x1 x2 x3 y0 y1 y2 y3;obtain⟨x0,x1,x2,x3⟩:=cells4 T4a.out hb9;obtain⟨y0,y1,y2,y3⟩:=cells4 T5a.out hb9;have T4n:=hid (T4a.out.below hb9 T4a.out.lt);have T5n:=hid (T5a.out.below hb9 T5a.out.lt);have Z2n:=hid (Z2c.out.below hb9 Z2c.out.lt);have Z3n:=hid (Z3c.out.below hb9 Z3c.out.lt);have B9:=hid (B4.out.trans (hb9.mono B4.out.size));clear hr)
  |(go_at_call 251;(with_reducible refine(K2.out _).mono ?_);rintro e w8 ⟨⟨u0,u1,u2,u3,rfl,hu⟩,hb8⟩;have HR2:=hid hu;clear x0 x1 x2 x3 y0 y1 y2 y3;obtain⟨x0,x1,x2,x3⟩:=cells4 T4n.out hb8;obtain⟨y0,y1,y2,y3⟩:=cells4 T5n.out hb8;have Z2m:=hid (Z2n.out.below hb8 Z2n.out.lt);have Z3m:=hid (Z3n.out.below hb8 Z3n.out.lt);have B8:=hid (B9.out.trans (hb8.mono B9.out.size));have z0:=fun i=>Z2m.out.cell i;have f0:=fun i=>Z2m.out.frozen i;have z1:=fun i=>Z3m.out.cell i;have f1:=fun i=>Z3m.out.frozen i;clear hu)
  |fail)
 all_goals
  have R2:=hid (blk_far4 (g:=w.heap.size+1) (blk4 Z2m.out (vi vu r0) (vi vu r1) (vi vu r2) (vi vu r3)) om_ (vi vu u0) (vi vu u1) (vi vu u2) (vi vu u3));have R3:=hid (blk4 (blk_far4 (g:=w.heap.size) Z3m.out om_ (vi vu r0) (vi vu r1) (vi vu r2) (vi vu r3)) (vi vu u0) (vi vu u1) (vi vu u2) (vi vu u3));have B7:=hid (bl_put4' (g:=w.heap.size+1) (bl_put4' (g:=w.heap.size) B8.out (Nat.le_refl _) (vi vu r0) (vi vu r1) (vi vu r2) (vi vu r3)) (Nat.le_succ _) (vi vu u0) (vi vu u1) (vi vu u2) (vi vu u3));clear x0 x1 x2 x3 y0 y1 y2 y3 z0 z1 f0 f1 Z2m Z3m Z2n Z3n Z2c Z3c T4a T4n T5a T5n B4 B8 B9 K1 K2;generalize ((((((((w8.setCell ⟨w.heap.size,0,none⟩ (vi vu r0)).setCell ⟨w.heap.size,1,none⟩ (vi vu r1)).setCell ⟨w.heap.size,2,none⟩ (vi vu r2)).setCell ⟨w.heap.size,3,none⟩ (vi vu r3)).setCell ⟨w.heap.size+1,0,none⟩ (vi vu u0)).setCell ⟨w.heap.size+1,1,none⟩ (vi vu u1)).setCell ⟨w.heap.size+1,2,none⟩ (vi vu u2)).setCell ⟨w.heap.size+1,3,none⟩ (vi vu u3))=W9 at*;go_wp2;have z0:=R2.out.cell 0;have z1:=R2.out.cell 1;have z2:=R2.out.cell 2;have z3:=R2.out.cell 3;have v0:=R3.out.cell 0;have v1:=R3.out.cell 1;have v2:=R3.out.cell 2;have v3:=R3.out.cell 3;simp at z0 z1 z2 z3 v0 v1 v2 v3;refine bodyPost_ret (v:=.tuple #[num4 r0 r1 r2 r3,num4 u0 u1 u2 u3]) (by simp[results,results233,go_sem,z0,z1,z2,z3,v0,v1,v2,v3]) rfl ⟨⟨r0,r1,r2,r3,u0,u1,u2,u3,rfl,HR1.out,HR2.out⟩,B7.out⟩
theorem reaches_half(x y:Int)(w:World):Calls Tryz.prog 206 #[.agg #[vi vk x,vi vk y],vi vk 2700000] w fun e w'=>e=.returned (.bool (decide (x≤y)))∧Below w.heap.size w w':=by
 go_enter func206,ntmps206;go_wp2;go_ret;exact⟨rfl,bl_⟩
theorem ptBefore_any(x y x' y':Int)(w:World)(h0:wrap64 (x*y')=x*y')(h1:wrap64 (y*x')=y*x'):Calls Tryz.prog 176 #[.agg #[vi vk x,vi vk y],.agg #[vi vk x',vi vk y']] w fun e w'=>e=.returned (.bool (decide (y*x'≤x*y')))∧Below w.heap.size w w':=by
 go_enter func176,ntmps176;go_wp2;go_ret;exact⟨rfl,bl_⟩
def CiI(w W9:World)(q0 q1 q2 q3 r0 r1 r2 r3:Int)(a:Act)(L:Nat→Bool)(a':Act)(w':World):Prop:=
 ∃v14 v15:Value,a'=(a.put (some 14) v14).put (some 15) v15∧Blk w' w.heap.size 242 #[vi vu q0,vi vu q1,vi vu q2,vi vu q3]∧Blk w' (w.heap.size+1) 242 #[vi vu r0,vi vu r1,vi vu r2,vi vu r3]∧Below w.heap.size w w'∧
  (L 0=true→v14=.agg #[vi vu q0,vi vu q1,vi vu q2,vi vu q3])∧(L 1=true→v15=.agg #[vi vu r0,vi vu r1,vi vu r2,vi vu r3])
theorem CiI.start{w W9:World}{q0 q1 q2 q3 r0 r1 r2 r3:Int}(a:Act)(h2:Blk W9 w.heap.size 242 #[vi vu q0,vi vu q1,vi vu q2,vi vu q3])(h3:Blk W9 (w.heap.size+1) 242 #[vi vu r0,vi vu r1,vi vu r2,vi vu r3])(hb:Below w.heap.size w W9):CiI w W9 q0 q1 q2 q3 r0 r1 r2 r3 a (fun _=>false) a W9.drew:=
 ⟨_,_,by rw[putQ_self a 14,putQ_self a 15],h2.drew,h3.drew,bl_drew hb,nofun,nofun⟩
theorem circle_high(k:Int)(w:World)(h0:2700000<k)(h1:k≤5400000):
 Calls Tryz.prog 233 #[vi vk k] w fun e w'=>TwoNums e∧Below w.heap.size w w':=by
 have KC:=hid (fun W=>circle_low (5400000-k) W om_ om_);have n0:wrap64 (5400000-k)=5400000-k:=IntWalk.wrap64_in _ om_;have z2:=(Blk.new w 242 (arr4 0 0 0 0)).alloc (.cells (arr4 0 0 0 0) 242);have z3:=Blk.new (w.alloc (.cells (arr4 0 0 0 0) 242)) 242 (arr4 0 0 0 0);rw[World.size_alloc] at z3;have Z2:=hid z2;have Z3:=hid z3;have B0:=hid ((bl_alloc w (.cells (arr4 0 0 0 0) 242)).alloc (by simp) (.cells (arr4 0 0 0 0) 242));clear z2 z3;unfold arr4 at Z2 Z3 B0;go_enter func233,ntmps233;go_wp2_with fail;(with_reducible refine(KC.out _).mono ?_)
 rintro e w1 ⟨⟨r0,r1,r2,r3,q0,q1,q2,q3,rfl,hr,hq⟩,hb1⟩
 have Z2a:=hid (Z2.out.below hb1 Z2.out.lt);have Z3a:=hid (Z3.out.below hb1 Z3.out.lt);have B1:=hid (B0.out.trans (hb1.mono B0.out.size));have HR:=hid hr;have HQ:=hid hq;clear hb1 Z2 Z3 B0 KC hr hq;have f3:=fun i=>Z3a.out.frozen i;have f2:=fun i=>Z2a.out.frozen i;have z3:=fun i=>Z3a.out.cell i;have z2:=fun i=>Z2a.out.cell i;have l2:=Z2a.out.lt;have l3:=Z3a.out.lt;have R3:=hid (blk_far4 (g:=w.heap.size) (blk4 Z3a.out (vi vu r0) (vi vu r1) (vi vu r2) (vi vu r3)) om_ (vi vu q0) (vi vu q1) (vi vu q2) (vi vu q3));have R2:=hid (blk4 (blk_far4 (g:=w.heap.size+1) Z2a.out om_ (vi vu r0) (vi vu r1) (vi vu r2) (vi vu r3)) (vi vu q0) (vi vu q1) (vi vu q2) (vi vu q3));have B7:=hid (bl_put4' (g:=w.heap.size) (bl_put4' (g:=w.heap.size+1) B1.out (Nat.le_succ _) (vi vu r0) (vi vu r1) (vi vu r2) (vi vu r3)) (Nat.le_refl _) (vi vu q0) (vi vu q1) (vi vu q2) (vi vu q3));go_upto_region 3 with (fail)
 generalize ((((((((w1.setCell ⟨w.heap.size+1,0,none⟩ (vi vu r0)).setCell ⟨w.heap.size+1,1,none⟩ (vi vu r1)).setCell ⟨w.heap.size+1,2,none⟩ (vi vu r2)).setCell ⟨w.heap.size+1,3,none⟩ (vi vu r3)).setCell ⟨w.heap.size,0,none⟩ (vi vu q0)).setCell ⟨w.heap.size,1,none⟩ (vi vu q1)).setCell ⟨w.heap.size,2,none⟩ (vi vu q2)).setCell ⟨w.heap.size,3,none⟩ (vi vu q3))=W9 at R2 R3 B7⊢;clear f2 f3 z2 z3 l2 l3 Z2a Z3a B1;obtain⟨x0,x1,x2,x3⟩:=cells4 R2.out (Below.refl _ _);obtain⟨y0,y1,y2,y3⟩:=cells4 R3.out (Below.refl _ _);clear x0 x1 x2 x3 y0 y1 y2 y3;refine wp_region_inv3 (by kernel_rfl) (CiI w W9 q0 q1 q2 q3 r0 r1 r2 r3) (waits_bind (by kernel_rfl)) ?start ?step ?fin
 case start=>exact CiI.start _ R2.out R3.out B7.out
 case step=>
  rintro N i o a1' w' ho hL haf ⟨v14,v15,rfl,k2,k3,hb,e0,e1⟩
  have K2:=hid k2;have K3:=hid k3;have HB:=hid hb;have E0:=hid e0;have E1:=hid e1;clear k2 k3 hb e0 e1 R2 R3 B7;rcases i with _|_|_|_|i
  all_goals (simp at ho;try subst ho)
  all_goals (try simp[Region.binds] at haf)
  · obtain⟨x0,x1,x2,x3⟩:=cells4 K2.out (Below.refl _ _)
    go_wp2;unfold CiI;exact⟨.agg #[vi vu q0,vi vu q1,vi vu q2,vi vu q3],v15,puBe,K2.out,K3.out,HB.out,rf_,kq E1⟩
  · obtain⟨y0,y1,y2,y3⟩:=cells4 K3.out (Below.refl _ _)
    go_wp2;unfold CiI;exact⟨v14,.agg #[vi vu r0,vi vu r1,vi vu r2,vi vu r3],puBe,K2.out,K3.out,HB.out,kq E0,rf_⟩
  · obtain rfl:=E0.out (by simp[haf])
    have f2: ∀i,w'.frozen? ⟨w.heap.size,i,none⟩=false:=fun i=>K2.out.frozen i;have l2:=K2.out.lt;obtain⟨x0,x1,x2,x3⟩:=cells4 K2.out (Below.refl _ _);have T2:=hid (blk4 K2.out (vi vu q0) (vi vu q1) (vi vu q2) (vi vu q3));have T3:=hid (blk_far4 (g:=w.heap.size) K3.out om_ (vi vu q0) (vi vu q1) (vi vu q2) (vi vu q3));have TB:=hid (bl_put4' (g:=w.heap.size) HB.out (Nat.le_refl _) (vi vu q0) (vi vu q1) (vi vu q2) (vi vu q3));go_wp2;unfold CiI;exact⟨_,v15,rfl,T2.out,T3.out,TB.out,rf_,kq E1⟩
  · obtain rfl:=E1.out (by simp[haf])
    have f3: ∀i,w'.frozen? ⟨w.heap.size+1,i,none⟩=false:=fun i=>K3.out.frozen i;have l3:=K3.out.lt;obtain⟨y0,y1,y2,y3⟩:=cells4 K3.out (Below.refl _ _);have T3:=hid (blk4 K3.out (vi vu r0) (vi vu r1) (vi vu r2) (vi vu r3));have T2:=hid (blk_far4 (g:=w.heap.size+1) K2.out om_ (vi vu r0) (vi vu r1) (vi vu r2) (vi vu r3));have TB:=hid (bl_put4' (g:=w.heap.size+1) HB.out (Nat.le_succ _) (vi vu r0) (vi vu r1) (vi vu r2) (vi vu r3));go_wp2;unfold CiI;exact⟨v14,_,rfl,T2.out,T3.out,TB.out,kq E0,rf_⟩
 case fin=>
  rintro N a1' w5 hall ⟨v14,v15,rfl,k2,k3,hb,e0,e1⟩
  have K2:=hid k2;have K3:=hid k3;have HB:=hid hb;clear k2 k3 hb e0 e1 R2 R3 B7 hall;go_wp2;have z0:=K2.out.cell 0;have z1:=K2.out.cell 1;have z2:=K2.out.cell 2;have z3:=K2.out.cell 3;have v0:=K3.out.cell 0;have v1:=K3.out.cell 1;have v2:=K3.out.cell 2;have v3:=K3.out.cell 3;simp at z0 z1 z2 z3 v0 v1 v2 v3;refine bodyPost_ret (v:=.tuple #[num4 q0 q1 q2 q3,num4 r0 r1 r2 r3]) (by simp[results,results233,go_sem,z0,z1,z2,z3,v0,v1,v2,v3]) rfl ⟨⟨q0,q1,q2,q3,r0,r1,r2,r3,rfl,HQ.out,HR.out⟩,HB.out⟩
theorem circle_any(k:Int)(w:World)(h0:0≤k)(h1:k≤5400000):Calls Tryz.prog 233 #[vi vk k] w fun e w'=>TwoNums e∧Below w.heap.size w w':=by
 by_cases h:k≤2700000
 · exact circle_low k w h0 h
 · exact circle_high k w om_ h1
theorem reaches_gen(x y k:Int)(w:World)(hx0:0≤x)(hx1:x≤1099511627776)(hy0:0≤y)(hy1:y≤1099511627776)(h0:0<k)(h1:k<5400000)(hne:k≠2700000):
 Calls Tryz.prog 206 #[.agg #[vi vk x,vi vk y],vi vk k] w fun e w'=>AnyBool e∧Below w.heap.size w w':=by
 have KC:=hid (fun W=>circle_any k W om_ om_);have hk0:(k==0)=false:=by simp;omega
 have hk1:(k==2700000)=false:=by simp;omega
 have n0:IntKind.u64.wrap x=x:=by rw[IntKind.wrap_u64];omega
 have n1:IntKind.u64.wrap y=y:=by rw[IntKind.wrap_u64];omega
 have P0:=hid (Blk.new w 206 #[vi vk x,vi vk y]);have B0:=hid (bl_alloc w (.cells #[vi vk x,vi vk y] 206));go_enter func206,ntmps206;go_wp2_with fail;(with_reducible refine(KC.out _).mono ?_)
 rintro e w1 ⟨⟨r0,r1,r2,r3,q0,q1,q2,q3,rfl,hr,hq⟩,hb1⟩
 have K1:=hid (fun W=>timesQ_any q0 q1 q2 q3 y W hq.1 hq.2.1 hq.2.2.1 hq.2.2.2 ⟨om_,om_⟩);have K2:=hid (fun W=>timesQ_any r0 r1 r2 r3 x W hr.1 hr.2.1 hr.2.2.1 hr.2.2.2 ⟨om_,om_⟩);have P1:=hid (((P0.out.below hb1 P0.out.lt).alloc (.cells (arr4 r0 r1 r2 r3) 242)).alloc (.cells (arr4 q0 q1 q2 q3) 242));have T5:=hid ((Blk.new w1 242 (arr4 r0 r1 r2 r3)).alloc (.cells (arr4 q0 q1 q2 q3) 242));have t6:=Blk.new (w1.alloc (.cells (arr4 r0 r1 r2 r3) 242)) 242 (arr4 q0 q1 q2 q3);rw[World.size_alloc] at t6;have T6:=hid t6;have hz1:=hb1.size;have hz0:=B0.out.size;have B1:=hid (((B0.out.trans (hb1.mono hz0)).alloc om_ (.cells (arr4 r0 r1 r2 r3) 242)).alloc (by simp;omega) (.cells (arr4 q0 q1 q2 q3) 242));clear hr hq t6 hb1 P0 B0 KC hk0 hk1;unfold arr4 at P1 T5 T6 B1;go_upto_region 7 with (fail)
 obtain⟨W2,hW2⟩: ∃W2,(w1.alloc (.cells #[vi vu r0,vi vu r1,vi vu r2,vi vu r3] 242)).alloc (.cells #[vi vu q0,vi vu q1,vi vu q2,vi vu q3] 242)=W2:=⟨_,rfl⟩;rw[hW2] at P1 T5 T6 B1⊢;clear hW2 hz0 hz1;generalize w1.heap.size=g5 at*;obtain⟨x0,x1,x2,x3⟩:=cells4 T5.out (Below.refl _ _);obtain⟨y0,y1,y2,y3⟩:=cells4 T6.out (Below.refl _ _);have p0:W2.cell? ⟨w.heap.size,0,none⟩=some (vi vk x):=P1.out.cell 0;have p1:W2.cell? ⟨w.heap.size,1,none⟩=some (vi vk y):=P1.out.cell 1;go_region_held3 (fun w'=>w'.cell? ⟨g5,0,none⟩=some (vi vu r0)∧w'.cell? ⟨g5,1,none⟩=some (vi vu r1)∧w'.cell? ⟨g5,2,none⟩=some (vi vu r2)∧w'.cell? ⟨g5,3,none⟩=some (vi vu r3)∧w'.cell? ⟨g5+1,0,none⟩=some (vi vu q0)∧w'.cell? ⟨g5+1,1,none⟩=some (vi vu q1)∧w'.cell? ⟨g5+1,2,none⟩=some (vi vu q2)∧w'.cell? ⟨g5+1,3,none⟩=some (vi vu q3)∧w'.cell? ⟨w.heap.size,0,none⟩=some (vi vk x)∧w'.cell? ⟨w.heap.size,1,none⟩=some (vi vk y)) (simp[*]) (first
  |(go_at_call 234;(with_reducible refine(K1.out _).mono ?_);rintro e w9 ⟨⟨a0,a1,a2,a3,t,rfl,ha,-,-⟩,hb9⟩;(first|(replace hb9:=first_b4 hb9)|skip);clear x0 x1 x2 x3 y0 y1 y2 y3 p0 p1;obtain⟨x0,x1,x2,x3⟩:=cells4 T5.out hb9;obtain⟨y0,y1,y2,y3⟩:=cells4 T6.out hb9;have T5n:=hid (T5.out.below hb9 T5.out.lt);have T6n:=hid (T6.out.below hb9 T6.out.lt);have P1n:=hid (P1.out.below hb9 P1.out.lt);have B9:=hid (B1.out.trans (hb9.mono B1.out.size));have p0:w9.cell? ⟨w.heap.size,0,none⟩=some (vi vk x):=P1n.out.cell 0;have p1:w9.cell? ⟨w.heap.size,1,none⟩=some (vi vk y):=P1n.out.cell 1)
  |(go_at_call 234;(with_reducible refine(K2.out _).mono ?_);rintro e w8 ⟨⟨c0,c1,c2,c3,t',rfl,hc,-,-⟩,hb8⟩;clear x0 x1 x2 x3 y0 y1 y2 y3 p0 p1;obtain⟨x0,x1,x2,x3⟩:=cells4 T5n.out hb8;obtain⟨y0,y1,y2,y3⟩:=cells4 T6n.out hb8;have T5m:=hid (T5n.out.below hb8 T5n.out.lt);have T6m:=hid (T6n.out.below hb8 T6n.out.lt);have P1m:=hid (P1n.out.below hb8 P1n.out.lt);have B8:=hid (B9.out.trans (hb8.mono B9.out.size));have p0:w8.cell? ⟨w.heap.size,0,none⟩=some (vi vk x):=P1m.out.cell 0;have p1:w8.cell? ⟨w.heap.size,1,none⟩=some (vi vk y):=P1m.out.cell 1)
  |(go_at_call 235;(with_reducible refine(lessQ_any _ _ _ _ _ _ _ _ _).mono ?_);rintro e w7 ⟨⟨bo,rfl⟩,hb7⟩;clear x0 x1 x2 x3 y0 y1 y2 y3 p0 p1;obtain⟨x0,x1,x2,x3⟩:=cells4 T5m.out hb7;obtain⟨y0,y1,y2,y3⟩:=cells4 T6m.out hb7;have P1k:=hid (P1m.out.below hb7 P1m.out.lt);have B7:=hid (B8.out.trans (hb7.mono B8.out.size));have p0:w7.cell? ⟨w.heap.size,0,none⟩=some (vi vk x):=P1k.out.cell 0;have p1:w7.cell? ⟨w.heap.size,1,none⟩=some (vi vk y):=P1k.out.cell 1)
  |fail)
 all_goals
  go_wp2;go_ret;exact⟨⟨_,rfl⟩,B7.out⟩
theorem reaches_any(x y k:Int)(w:World)(hx0:0≤x)(hx1:x≤1099511627776)(hy0:0≤y)(hy1:y≤1099511627776)(h0:0<k)(h1:k<5400000):
 Calls Tryz.prog 206 #[.agg #[vi vk x,vi vk y],vi vk k] w fun e w'=>AnyBool e∧Below w.heap.size w w':=by
 by_cases h:k=2700000
 · subst h
   exact(reaches_half x y w).mono fun e w' ⟨he,hb⟩=>⟨⟨_,he⟩,hb⟩
 · exact reaches_gen x y k w hx0 hx1 hy0 hy1 h0 h1 h
end Go.Proofs.YtdeiofgddhbdaaaGreat
