/- The walk of place.around. -/
import Derived.Test.YtdeiofgddhbdaaaGreatHJf
set_option linter.unusedSimpArgs false
set_option linter.unusedVariables false
set_option maxHeartbeats 4000000
set_option maxRecDepth 100000
open Go.RowKit
open Go.Lib (hid)
open Go.Proofs.Tryz
open Go.Value renaming int→vi
open Go.IntKind renaming i64→vk
namespace Go.Proofs.YtdeiofgddhbdaaaGreat
namespace Trig
theorem sin01{x:Rat}(h:0≤x)(h1:x≤1):0≤sinP x∧sinP x≤1:=by
 rw[sin_alt];obtain⟨a,b⟩:=alt_bd h h1 35 1;exact⟨a,Rat.le_trans b (mo_le1 h h1 1)⟩
theorem cos01{x:Rat}(h:0≤x)(h1:x≤1):0≤cosP x∧cosP x≤1:=by
 rw[cos_alt];obtain⟨a,b⟩:=alt_bd h h1 35 0;exact⟨a,Rat.le_trans b (mo_le1 h h1 0)⟩
theorem sq_near1{v a E:Rat}(hv:0≤v∧v≤1)(hE:0≤E)(hn:v-a≤E):v*v≤a*a+2*E:=by
 have h1:0≤(1-v)*E:=Rat.mul_nonneg (by grind) hE;have h2:0≤v*(E-(v-a)):=Rat.mul_nonneg hv.1 (by grind);have h3:0≤(v-a)*(v-a):=by
  by_cases h:0≤v-a
  · exact Rat.mul_nonneg h h
  · have:=Rat.mul_nonneg (a:=a-v) (b:=a-v) (by grind) (by grind)
    grind
 grind
theorem pyth_step{x h:Rat}(hx:0≤x)(hh:0≤h)(h1:x+h≤1)(hs:h≤1/10000):
 sinP (x+h)*sinP (x+h)+cosP (x+h)*cosP (x+h)≤sinP x*sinP x+cosP x*cosP x+1/1000000000000000:=by
 have e1:=(sin_shift hx hh h1 hs).1;have e2:=(cos_shift hx hh h1 hs).1;have s1:=sin01 (x:=x+h) (by grind) h1;have c1:=cos01 (x:=x+h) (by grind) h1;have q0:0≤h*h:=Rat.mul_nonneg hh hh;have q1:h*h≤1/100000000:=by
  have:=Rat.mul_nonneg hh (show 0≤1/10000-h by grind);grind
 have r0:0≤h*h*(h*h):=Rat.mul_nonneg q0 q0;have r1:h*h*(h*h)≤1/10000000000000000:=by
  have:=Rat.mul_nonneg q0 (show 0≤1/100000000-h*h by grind);grind
 have t0:0≤h*h*(h*h)*(1/12-h*h/36):=Rat.mul_nonneg r0 (by grind);have f1:=sq_near1 s1 (E:=h*h*h*h*(3/5)+1/2^65/2) (by grind) e1;have f2:=sq_near1 c1 (E:=h*h*h*h*(3/5)+1/2^65/2) (by grind) e2;have ev:0≤sinP x*sinP x+cosP x*cosP x:=by
  have s2:=sin01 hx (by grind);have c2:=cos01 hx (by grind);have:=Rat.mul_nonneg s2.1 s2.1;have:=Rat.mul_nonneg c2.1 c2.1;grind
 have g0:=Rat.mul_nonneg ev t0;generalize sinP (x+h)=s' at*;generalize cosP (x+h)=c' at*;generalize sinP x=s at*;generalize cosP x=c at*;have id1:(s+h*c-h*h/2*s-h*h*h/6*c)*(s+h*c-h*h/2*s-h*h*h/6*c)+(c-h*s-h*h/2*c+h*h*h/6*s)*(c-h*s-h*h/2*c+h*h*h/6*s)=(s*s+c*c)-(s*s+c*c)*(h*h*(h*h)*(1/12-h*h/36)):=by grind
 have id2:h*h*h*h=h*h*(h*h):=by grind
 rw[id2] at f1 f2;have k65:(1:Rat)/2^65/2≤1/36893488147419103232:=by decide+kernel
 grind
theorem pyth_le: ∀(n:Nat) (x:Rat),0≤x→x*10000≤(n:Rat)→x≤1→sinP x*sinP x+cosP x*cosP x≤1+(n:Rat)*(1/1000000000000000)
 |0,x,h0,h1,_=>by
  have:x=0:=by
   have h1':x*10000≤0:=by simpa using h1
   grind
  subst this;decide+kernel
 |n+1,x,h0,h1,h2=>by
  have h1':x*10000≤(n:Rat)+1:=by simpa using h1
  have hc:((n+1:Nat):Rat)=(n:Rat)+1:=by simp
  rw[hc];have hn:=c0 n;by_cases hx:1/10000≤x
  · have ih:=pyth_le n (x-1/10000) (by grind) (by grind) (by grind)
    have:=pyth_step (x:=x-1/10000) (h:=1/10000) (by grind) (by decide+kernel) (by grind) (by grind);rw[show x-1/10000+1/10000=x by grind] at this;grind
  · have:=pyth_step (x:=0) (h:=x) (by grind) h0 (by grind) (by grind)
    rw[show 0+x=x by grind] at this;have z:sinP 0*sinP 0+cosP 0*cosP 0≤1:=by decide+kernel
    grind
theorem sq_le2{A s:Rat}(h0:0≤A)(h:A*4294967296≤s*4611686018427387904+75)(hs:0≤s∧s≤1):A*A≤s*s*1152921504606846976+75:=by
 have h1:0≤A*(s*1073741824+75/4294967296-A):=Rat.mul_nonneg h0 (by grind);have h2:0≤(s*1073741824+75/4294967296)*(s*1073741824+75/4294967296-A):=Rat.mul_nonneg (by grind) (by grind);grind
theorem quick_pyth{r:Nat}(h:r≤2700000):(quickN r false/4294967296)*(quickN r false/4294967296)+(quickN r true/4294967296)*(quickN r true/4294967296)≤1152921505680588799:=by
 obtain⟨x0,x1⟩:=ang_bd h;have hs:=(quick_sin h).1;have hc:=(quick_cos h).1;have hv:=pyth_le 8000 ((r:Rat)*th) x0 (by grind) (by grind);have s1:=sin01 x0 (by grind);have c1:=cos01 x0 (by grind);generalize sinP ((r:Rat)*th)=s at*;generalize cosP ((r:Rat)*th)=c at*;have ds:=Nat.div_mul_le_self (quickN r false) 4294967296;have dc:=Nat.div_mul_le_self (quickN r true) 4294967296;generalize quickN r false=a at*;generalize quickN r true=b at*;generalize a/4294967296=A at*;generalize b/4294967296=B at*;have ds':(A:Rat)*4294967296≤(a:Rat):=by exact_mod_cast ds
 have dc':(B:Rat)*4294967296≤(b:Rat):=by exact_mod_cast dc
 have hY:(Y:Rat)=4611686018427387904:=by decide+kernel
 rw[hY] at hs hc;have kA:(A:Rat)*4294967296≤s*4611686018427387904+75:=by grind
 have kB:(B:Rat)*4294967296≤c*4611686018427387904+75:=by grind
 have sqA:=sq_le2 (c0 A) kA s1;have sqB:=sq_le2 (c0 B) kB c1;have hv':s*s+c*c≤1+1/100000000000:=by
  have:((8000:Nat):Rat)*(1/1000000000000000)≤1/100000000000:=by decide+kernel
  grind
 have fin:(A:Rat)*(A:Rat)+(B:Rat)*(B:Rat)≤1152921505680588799:=by grind
 exact_mod_cast fin
theorem sF_half{q:Int}(h0:0≤q)(h1:q≤2700000):sF q*sF q+sF (5400000-q)*sF (5400000-q)≤1152921505680588799:=by
 by_cases e0:q=0
 · subst e0;decide+kernel
 by_cases e1:q=1800000
 · subst e1;decide+kernel
 by_cases e2:q=2700000
 · subst e2;decide+kernel
 have hq:=quick_pyth (r:=q.toNat) om_;have f1:sF q=((quickN q.toNat false/4294967296:Nat):Int):=by
  unfold sF;rw[if_neg e0,if_neg e1,if_neg om_,if_pos om_]
 have f2:sF (5400000-q)=((quickN q.toNat true/4294967296:Nat):Int):=by
  unfold sF;rw[if_neg om_,if_neg om_,if_neg om_,if_neg om_,show 5400000-(5400000-q)=q by omega]
 rw[f1,f2];clear f1 f2;generalize quickN q.toNat false/4294967296=A at*;generalize quickN q.toNat true/4294967296=B at*;have e1:((A*A+B*B:Nat):Int)≤((1152921505680588799:Nat):Int):=Int.ofNat_le.2 hq;rw[Int.natCast_add,Int.natCast_mul,Int.natCast_mul] at e1;omega
theorem sF_pyth{q:Int}(h0:0≤q)(h1:q≤5400000):sF q*sF q+sF (5400000-q)*sF (5400000-q)≤1152921505680588799:=by
 by_cases h:q≤2700000
 · exact sF_half h0 h
 · have:=sF_half (q:=5400000-q) om_ om_
   rw[show 5400000-(5400000-q)=q by omega] at this;omega
def tz(n:Int):Int:=if sth n=true then-sF (qrt n) else sF (qrt n)
theorem up_ge(q:Int):sF q≤upF q:=by unfold upF;split<;>omega
theorem tz_bd(n:Int):loB n≤tz n∧tz n≤hiB n:=by
 have:=up_ge (qrt n);unfold loB hiB tz;split<;>omega
theorem tz_pyth(n:Int):tz n*tz n+tz (n+5400000)*tz (n+5400000)≤1152921505680588799:=by
 have hb:=qrt_bd n;have e:qrt (n+5400000)=5400000-qrt n:=by unfold qrt;omega
 have:=sF_pyth hb.1 hb.2;have a1:tz n*tz n=sF (qrt n)*sF (qrt n):=by unfold tz;split<;>grind
 have a2:tz (n+5400000)*tz (n+5400000)=sF (5400000-qrt n)*sF (5400000-qrt n):=by unfold tz;rw[e];split<;>grind
 omega
theorem en_tz(lo hi:Int):enLo lo hi≤tz lo∧tz lo≤enHi lo hi:=by
 have h1:=tz_bd lo;have h2:=hi_le lo;unfold enLo enHi;generalize metB lo hi 16200000=s at*;generalize metB lo hi 5400000=t at*;generalize loB lo=p at*;generalize hiB lo=q at*;generalize tz lo=z at*;cases s<;>cases t<;>simp only[Bool.false_eq_true,if_false,if_true]<;>omega
theorem lin1{x1 x2 u:Int}(h1:x1≤u)(h2:u≤x2)(v:Int):min (x1*v) (x2*v)≤u*v∧u*v≤max (x1*v) (x2*v):=by
 rcases Int.le_total 0 v with g|g
 · have:=Int.mul_le_mul_of_nonneg_right h1 g
   have:=Int.mul_le_mul_of_nonneg_right h2 g;omega
 · have:=Int.mul_le_mul_of_nonpos_right h1 g
   have:=Int.mul_le_mul_of_nonpos_right h2 g;omega
theorem lin2{y1 y2 v:Int}(h1:y1≤v)(h2:v≤y2)(u:Int):min (u*y1) (u*y2)≤u*v∧u*v≤max (u*y1) (u*y2):=by
 have:=lin1 h1 h2 u;rw[Int.mul_comm u y1,Int.mul_comm u y2,Int.mul_comm u v];exact this
theorem mulP_in{x y:Int×Int}{u v:Int}(h1:x.1≤u)(h2:u≤x.2)(g1:y.1≤v)(g2:v≤y.2):(mulP x y).1≤u*v/1073741824∧ -(-(u*v)/1073741824)≤(mulP x y).2:=by
 have a:=lin1 h1 h2 v;have b:=lin2 g1 g2 x.1;have c:=lin2 g1 g2 x.2;unfold mulP;simp only[];generalize x.1*y.1=p at*;generalize x.1*y.2=q at*;generalize x.2*y.1=r at*;generalize x.2*y.2=s at*;generalize x.1*v=k at*;generalize x.2*v=l at*;generalize u*v=m at*;omega
theorem sqn(a:Int):0≤a*a:=by
 rcases Int.le_total 0 a with h|h
 · exact Int.mul_nonneg h h
 · exact Int.mul_nonneg_of_nonpos_of_nonpos h h
theorem two_mul_le(a b:Int):2*(a*b)≤a*a+b*b∧ -(2*(a*b))≤a*a+b*b:=by
 have h1:0≤(a-b)*(a-b):=sqn _;have h2:0≤(a+b)*(a+b):=sqn _;have e1:(a-b)*(a-b)=a*a+b*b-2*(a*b):=by grind
 have e2:(a+b)*(a+b)=a*a+b*b+2*(a*b):=by grind
 omega
theorem tz_one(n:Int): -1073741824≤tz n∧tz n≤1073741824:=by
 have h:=qrt_bd n;have:=sF_bd h.1 h.2;unfold tz;split<;>omega
theorem sinT_meets(a b c:Int×Int):(sinT a b c).1≤1073741824∧ -1073741824≤(sinT a b c).2:=by
 have sa:=en_tz a.1 a.2;have sb:=en_tz b.1 b.2;have ca:=en_tz (a.1+5400000) (a.2+5400000);have cb:=en_tz (b.1+5400000) (b.2+5400000);have cc:=en_tz (c.1+5400000) (c.2+5400000);have pa:=tz_pyth a.1;have pb:=tz_pyth b.1;have m1:=mulP_in (x:=snP a) (y:=snP b) sa.1 sa.2 sb.1 sb.2;have m2:=mulP_in (x:=csP a) (y:=csP b) ca.1 ca.2 cb.1 cb.2;have oc:=tz_one (c.1+5400000);have q1:=two_mul_le (tz a.1) (tz b.1);have q2:=two_mul_le (tz (a.1+5400000)) (tz (b.1+5400000));generalize tz (c.1+5400000)=z at*;have main: ∀t:Int,(mulP (csP a) (csP b)).1≤t→t≤(mulP (csP a) (csP b)).2→(∃k:Int,0≤k∧ -k≤t∧t≤k∧2*(1073741824*k)≤tz (a.1+5400000)*tz (a.1+5400000)+tz (b.1+5400000)*tz (b.1+5400000))→(sinT a b c).1≤1073741824∧ -1073741824≤(sinT a b c).2:=by
  rintro t h1 h2 ⟨k,k0,k1,k2,k3⟩
  have m3:=mulP_in (x:=mulP (csP a) (csP b)) (y:=csP c) h1 h2 cc.1 cc.2;have b1: -(k*1073741824)≤t*z∧t*z≤k*1073741824:=by
   have e1:0≤(k-t)*(1073741824+z):=Int.mul_nonneg om_ om_;have e2:0≤(k+t)*(1073741824-z):=Int.mul_nonneg om_ om_;have e3:0≤(k-t)*(1073741824-z):=Int.mul_nonneg om_ om_;have e4:0≤(k+t)*(1073741824+z):=Int.mul_nonneg om_ om_;have f1:(k-t)*(1073741824+z)=k*1073741824+k*z-t*1073741824-t*z:=by grind
   have f2:(k+t)*(1073741824-z)=k*1073741824-k*z+t*1073741824-t*z:=by grind
   have f3:(k-t)*(1073741824-z)=k*1073741824-k*z-t*1073741824+t*z:=by grind
   have f4:(k+t)*(1073741824+z)=k*1073741824+k*z+t*1073741824+t*z:=by grind
   omega
  unfold sinT addP;simp only[];generalize t*z=tz' at*;generalize (mulP (snP a) (snP b)).1=w1 at*;generalize (mulP (snP a) (snP b)).2=w2 at*;generalize (mulP (mulP (csP a) (csP b)) (csP c)).1=w3 at*;generalize (mulP (mulP (csP a) (csP b)) (csP c)).2=w4 at*;generalize tz a.1*tz b.1=ab at*;generalize tz a.1*tz a.1=aa at*;generalize tz b.1*tz b.1=bb at*;generalize tz (a.1+5400000)*tz (a.1+5400000)=xx at*;generalize tz (b.1+5400000)*tz (b.1+5400000)=yy at*;clear sa sb ca cb cc m2 h1 h2;omega
 generalize tz (a.1+5400000)*tz (b.1+5400000)=cx at*;by_cases hp:0≤cx
 · exact main (cx/1073741824) m2.1 om_ ⟨cx/1073741824,om_,om_,om_,om_⟩
 · exact main (-(-cx/1073741824)) om_ m2.2 ⟨-cx/1073741824,om_,om_,om_,om_⟩
end Trig
abbrev Bx:=Int×Int×Int×Int
def bv(x:Bx):List Value:=[vi vk x.1,vi vk x.2.1,vi vk x.2.2.1,vi vk x.2.2.2]
def bvs(L:List Bx):List Value:=L.flatMap bv
theorem bvs_length(L:List Bx):(bvs L).length=L.length*4:=by
 induction L with
 |nil=>rfl
 |cons x r ih=>simp[bvs,bv] at ih⊢;omega
theorem bvs_append(L M:List Bx):bvs (L++M)=bvs L++bvs M:=by simp[bvs]
theorem bv_one(x:Bx): ∀u∈bv x,u.oneCell'=true:=by
 intro u hu;simp[bv] at hu;rcases hu with rfl|rfl|rfl|rfl<;>rfl
theorem Tryz.infoPlace:(Tryz.prog.info? 40).map (fun i=>(i.zero,i.size,i.bytes))=some (some (.agg #[vi vk 0,vi vk 0,vi vk 0,vi vk 0]),4,32):=by kernel_rfl
def bxI(x:Cl):Bx:=(edg x.2.1 x.1-5400000,edg (x.2.1+1) x.1-5400000,edg x.2.2 x.1-10800000,edg (x.2.2+1) x.1-10800000)
theorem boxV_bx(x:Cl):boxV x.1 x.2.1 x.2.2=.agg #[vi vk (bxI x).1,vi vk (bxI x).2.1,vi vk (bxI x).2.2.1,vi vk (bxI x).2.2.2]:=rfl
theorem breads_new(w:World)(a b c d:Int)(t:TypeId):Reads (w.alloc (.cells #[vi vk a,vi vk b,vi vk c,vi vk d] t)) (w.heap.size+1) 4 (some ⟨w.heap.size,0,none⟩) 1 (bv (a,b,c,d)):=by
 refine⟨rfl,fun _=>⟨_,rfl,by simp,fun j u hu=>?_⟩⟩;match j,hu with
 |0,hu=>simp[bv] at hu;subst hu;simp[Addr.add]
 |1,hu=>simp[bv] at hu;subst hu;simp[Addr.add]
 |2,hu=>simp[bv] at hu;subst hu;simp[Addr.add]
 |3,hu=>simp[bv] at hu;subst hu;simp[Addr.add]
 |j+4,hu=>simp[bv] at hu
theorem bx_take(L:List Cl)(k:Nat)(hk:k<L.length):bvs ((L.take (k+1)).map bxI)=bvs ((L.take k).map bxI)++bv (bxI (gt L k)):=by
 rw[List.take_succ_eq_append_getElem hk,List.map_append,bvs_append];simp[gt,hk,bvs]
def RetBoxes(w:World)(L:List Bx)(n:Int)(e:Ending)(w':World):Prop:=
 ∃v,e=.returned (.tuple #[v,vi vk n])∧w'.ownsRow w.heap.size 40 4 v L.length (bvs L)∧Below w.heap.size w w'
theorem boxes_any(A:Option Addr)(n c:Nat)(L:List Cl)(w:World)(hr:Reads w w.heap.size 3 A n (cvs L))(hn:n≤maxLen):
 Calls Tryz.prog 39 #[.slice A n c] w (RetBoxes w (if vrB L=true then L.map bxI else[]) (if vrB L=true then 0 else 1)):=by
 have HL:=hid hr.len;have HR:=hid hr;have KV:=hid (ValidRegion_any A n c L w hr hn);clear hr;obtain⟨i0,hi0,hz0,hz1,hzb⟩:=info_parts Tryz.infoPlace;cases hv:vrB L with
 |false=>
  rw[hv] at KV;simp only[Bool.false_eq_true,if_false];go_enter func39,ntmps39;go_wp2_with fail;(with_reducible refine KV.out.mono ?_)
  rintro e w1 ⟨rfl,hb1⟩
  go_wp2;exact bodyPost_ret (v:=.tuple #[.slice none 0 0,vi vk 1]) (by simp[results,results39,go_sem]) rfl ⟨_,rfl,own_nil _ _ _ _,hb1⟩
 |true=>
  rw[hv] at KV;have hfew:n≤4000:=by rw[←HL.out];exact((vrB_iff L).1 hv).1
  have HB:Hid (∀k,k<n→ ∀W,Calls Tryz.prog 75 #[.agg #[vi vk (gt L k).1,vi vk (gt L k).2.1,vi vk (gt L k).2.2]] W fun e w'=>e=.returned (.tuple #[.agg #[vi vk (bxI (gt L k)).1,vi vk (bxI (gt L k)).2.1,vi vk (bxI (gt L k)).2.2.1,vi vk (bxI (gt L k)).2.2.2],vi vk 0])∧Below W.heap.size W w'):=hid fun k hk W=>by
   have hk':k<L.length:=by rw[HL.out];exact hk
   have:=Box_yes (gt L k).1 (gt L k).2.1 (gt L k).2.2 W ((vl_iff _).2 (((vrB_iff L).1 hv).2.1 _ (by simp[gt,hk'])));rw[boxV_bx] at this;exact this
  clear hn hv;simp only[if_true];go_enter func39,ntmps39;go_wp2_with fail;(with_reducible refine KV.out.mono ?_)
  rintro e w1 ⟨rfl,hb1⟩
  clear KV;go_wp2;go_loopw [4,14] (fun v i wr=> ∃k:Nat,k≤n∧i=vi vk k∧wr.ownsRow w.heap.size 40 4 v k (bvs ((L.take k).map bxI))∧Below w.heap.size w wr) (fun _ i _=>n-(intOf i).toNat)
  case atStart=>exact⟨0,Nat.zero_le _,rfl,own_nil _ _ _ _,hb1⟩
  case round=>
   obtain⟨k,hk,rfl,hown,hbr⟩:=hrel;clear hb1;by_cases hlt:k<n
   · obtain⟨b,off,rfl,hb,x1,x2,x3⟩:=HR.out.elem hlt
     have y1:=(hbr.cell (p:=⟨b,off+k*3,none⟩) hb).trans x1;have y2:=(hbr.cell (p:=⟨b,off+k*3+1,none⟩) hb).trans x2;have y3:=(hbr.cell (p:=⟨b,off+k*3+2,none⟩) hb).trans x3;clear x1 x2 x3;have hms:=hid (bx_take L k (by rw[HL.out];exact hlt));have hs:=hid (HB.out k hlt);generalize bxI (gt L k)=q at hms hs;generalize gt L k=x at y1 y2 y3 hs;obtain⟨xl,xr,xc⟩:=x;obtain⟨q0,q1,q2,q3⟩:=q;simp only[] at y1 y2 y3 hms hs;have hz:=hbr.size;have HO:=hid hown;clear hown;go_wp2_with fail;(with_reducible refine(hs.out _).mono ?_)
     rintro e w2 ⟨rfl,hb2⟩
     have hw2:=one_lt hb2;have hbl2:=one_bl hb2;have HO2:=hid (own_bl HO.out hbl2 (Nat.le_refl _));have b2:=hbr.trans (hbl2.mono hz);have hz2:=b2.size;clear y1 y2 y3 hb2 HO hbr;go_wp2_with (at_builtin;(refine wpList_append_any _ rfl (.tmp 26) (.tmp 28) _ rfl w.heap.size 40 i0 _ 4 32 underlying88 hi0 hz0 hz1 hzb rfl dc_ u4 k (bvs ((L.take k).map bxI)) rfl ((HO2.out.alloc _).alloc _) (w2.heap.size+1+1) (some ⟨w2.heap.size+1,0,none⟩) 1 1 (bv (q0,q1,q2,q3)) rfl (by simpa using breads_new (w2.alloc (.cells #[vi vk q0,vi vk q1,vi vk q2,vi vk q3] 40)) q0 q1 q2 q3 40) (bv_one _) (by simp only[maxLen];omega) om_ (by simp;omega) ?_);intro v3 w3 hown3 hg3 hat3);go_roundw
     case rel=>exact⟨k+1,om_,by go_num,by rw[hms.out];exact hown3,((b2.alloc hz2 _).alloc (by simp;omega) _).grown hg3 (by simp;omega) (own_base HO2.out)⟩
     case measure=>simp[intOf];omega
   · obtain rfl:k=n:=by omega
     rw[List.take_of_length_le (by rw[HL.out];omega)] at hown;have hlen:(L.map bxI).length=k:=by rw[List.length_map,HL.out]
     have HO:=hid hown;obtain⟨A3,c3,hu3,-,-⟩:=own_form hown;subst hu3;clear hown;go_wp2;exact bodyPost_ret (v:=.tuple #[.slice A3 k c3,vi vk 0]) (by simp[results,results39,go_sem]) rfl ⟨_,rfl,by rw[hlen];exact HO.out,hbr⟩
structure OkB(q:Bx):Prop where
 a0: -5400000≤q.1
 a1:q.1≤q.2.1
 a2:q.2.1≤5400000
 o0: -10800000≤q.2.2.1
 o1:q.2.2.1≤q.2.2.2
 o2:q.2.2.2≤10800000
theorem r5Sub_any(a b c d:Int)(w:World)(h0: -2000000000000≤a)(h1:a≤2000000000000)(h2: -2000000000000≤b)(h3:b≤2000000000000)(h4: -2000000000000≤c)(h5:c≤2000000000000)(h6: -2000000000000≤d)(h7:d≤2000000000000):
 Calls Tryz.prog 211 #[.agg #[vi vk a,vi vk b],.agg #[vi vk c,vi vk d]] w fun e w'=>e=.returned (.agg #[vi vk (a-d),vi vk (b-c)])∧Below w.heap.size w w':=by
 go_enter func211,ntmps211;go_wp2;refine bodyPost_ret (v:=.agg #[vi vk (a-d),vi vk (b-c)]) (by simp[results,results211,go_sem, *];done) rfl ⟨rfl,?_⟩;exact bl_
theorem blk6{W:World}{g:Nat}{t:TypeId}{z:Value}(h:Blk W g t #[z,z,z,z,z,z])(u0 u1 u2 u3 u4 u5:Value):Blk ((((((W.setCell ⟨g,0,none⟩ u0).setCell ⟨g,1,none⟩ u1).setCell ⟨g,2,none⟩ u2).setCell ⟨g,3,none⟩ u3).setCell ⟨g,4,none⟩ u4).setCell ⟨g,5,none⟩ u5) g t #[u0,u1,u2,u3,u4,u5]:=by
 have:=((((((h.set_ 0 u0).set_ 1 u1).set_ 2 u2).set_ 3 u3).set_ 4 u4).set_ 5 u5);simp only[List.setIfInBounds_toArray,List.set_cons_zero,List.set_cons_succ] at this;exact this
theorem bl6{B:Nat}{a w:World}{g:Nat}(h:Below B a w)(hg:B≤g)(u0 u1 u2 u3 u4 u5:Value):Below B a ((((((w.setCell ⟨g,0,none⟩ u0).setCell ⟨g,1,none⟩ u1).setCell ⟨g,2,none⟩ u2).setCell ⟨g,3,none⟩ u3).setCell ⟨g,4,none⟩ u4).setCell ⟨g,5,none⟩ u5):=
 ((((((h.setCell hg u0).setCell hg u1).setCell hg u2).setCell hg u3).setCell hg u4).setCell hg u5)
theorem triS{W0 w':World}{g k:Nat}{t t':TypeId}{a0 a1 b0 b1 q0 q1 q2 q3:Int}{z0 z1:Value}(h:Blk W0 g t #[vi vk a0,vi vk a1,vi vk b0,vi vk b1,z0,z1])(h':Blk W0 k t' #[vi vk q0,vi vk q1,vi vk q2,vi vk q3])(hb:Below W0.heap.size W0 w'):
 w'.cell? ⟨g,0,none⟩=some (vi vk a0)∧w'.cell? ⟨g,1,none⟩=some (vi vk a1)∧w'.cell? ⟨g,2,none⟩=some (vi vk b0)∧w'.cell? ⟨g,3,none⟩=some (vi vk b1)∧w'.cell? ⟨k,0,none⟩=some (vi vk q0)∧w'.cell? ⟨k,1,none⟩=some (vi vk q1)∧w'.cell? ⟨k,2,none⟩=some (vi vk q2)∧w'.cell? ⟨k,3,none⟩=some (vi vk q3)∧Below W0.heap.size W0 w':=by
 have u:=h.below hb h.lt;have v:=h'.below hb h'.lt;exact⟨u.cell 0,u.cell 1,u.cell 2,u.cell 3,v.cell 0,v.cell 1,v.cell 2,v.cell 3,hb⟩
theorem Triangle2_any(a0 a1 b0 b1 r0 r1 q0 q1 q2 q3:Int)(w:World)(h4: -40000000≤b0∧b0≤40000000∧ -40000000≤b1∧b1≤40000000∧ -40000000≤q2∧q2≤40000000∧ -40000000≤q3∧q3≤40000000):
 Calls Tryz.prog 182 #[.agg #[vi vk a0,vi vk a1,vi vk b0,vi vk b1,vi vk r0,vi vk r1],.agg #[vi vk q0,vi vk q1,vi vk q2,vi vk q3]] w fun e w'=>e=.returned (.agg #[vi vk q0,vi vk q1,vi vk a0,vi vk a1,vi vk (q2-b1),vi vk (q3-b0)])∧Below w.heap.size w w':=by
 have KS:=hid (fun W=>r5Sub_any q2 q3 b0 b1 W om_ om_ om_ om_ om_ om_ om_ om_);generalize q2-b1=y0 at*;generalize q3-b0=y1 at*;clear h4;have T1:=hid (((Blk.new w 33 #[vi vk a0,vi vk a1,vi vk b0,vi vk b1,vi vk r0,vi vk r1]).alloc (.cells #[vi vk q0,vi vk q1,vi vk q2,vi vk q3] 40)).alloc (.cells #[vi vk 0,vi vk 0,vi vk 0,vi vk 0,vi vk 0,vi vk 0] 66));have T2:Hid (Blk (((w.alloc (.cells #[vi vk a0,vi vk a1,vi vk b0,vi vk b1,vi vk r0,vi vk r1] 33)).alloc (.cells #[vi vk q0,vi vk q1,vi vk q2,vi vk q3] 40)).alloc (.cells #[vi vk 0,vi vk 0,vi vk 0,vi vk 0,vi vk 0,vi vk 0] 66)) (w.heap.size+1) 40 #[vi vk q0,vi vk q1,vi vk q2,vi vk q3]):=hid (by
  have:=(Blk.new (w.alloc (.cells #[vi vk a0,vi vk a1,vi vk b0,vi vk b1,vi vk r0,vi vk r1] 33)) 40 #[vi vk q0,vi vk q1,vi vk q2,vi vk q3]).alloc (.cells #[vi vk 0,vi vk 0,vi vk 0,vi vk 0,vi vk 0,vi vk 0] 66);rwa [World.size_alloc] at this)
 have TR:Hid (Blk (((w.alloc (.cells #[vi vk a0,vi vk a1,vi vk b0,vi vk b1,vi vk r0,vi vk r1] 33)).alloc (.cells #[vi vk q0,vi vk q1,vi vk q2,vi vk q3] 40)).alloc (.cells #[vi vk 0,vi vk 0,vi vk 0,vi vk 0,vi vk 0,vi vk 0] 66)) (w.heap.size+1+1) 66 #[vi vk 0,vi vk 0,vi vk 0,vi vk 0,vi vk 0,vi vk 0]):=hid (by
  have:=Blk.new ((w.alloc (.cells #[vi vk a0,vi vk a1,vi vk b0,vi vk b1,vi vk r0,vi vk r1] 33)).alloc (.cells #[vi vk q0,vi vk q1,vi vk q2,vi vk q3] 40)) 66 #[vi vk 0,vi vk 0,vi vk 0,vi vk 0,vi vk 0,vi vk 0];rwa [World.size_alloc,World.size_alloc] at this)
 have B0:=hid (((bl_alloc w (.cells #[vi vk a0,vi vk a1,vi vk b0,vi vk b1,vi vk r0,vi vk r1] 33)).alloc (by simp) (.cells #[vi vk q0,vi vk q1,vi vk q2,vi vk q3] 40)).alloc (by simp;omega) (.cells #[vi vk 0,vi vk 0,vi vk 0,vi vk 0,vi vk 0,vi vk 0] 66));go_enter func182,ntmps182;go_upto_region 1 with (fail)
 generalize ((w.alloc (.cells #[vi vk a0,vi vk a1,vi vk b0,vi vk b1,vi vk r0,vi vk r1] 33)).alloc (.cells #[vi vk q0,vi vk q1,vi vk q2,vi vk q3] 40)).alloc (.cells #[vi vk 0,vi vk 0,vi vk 0,vi vk 0,vi vk 0,vi vk 0] 66)=W0 at*;obtain⟨x0,x1,x2,x3,x4,x5,x6,x7,-⟩:=triS T1.out T2.out (Below.refl _ _);have hn1: ¬w.heap.size+1+1=w.heap.size:=by omega
 have hn2: ¬w.heap.size+1+1=w.heap.size+1:=by omega
 go_region_held3 (fun w'=>w'.cell? ⟨w.heap.size,0,none⟩=some (vi vk a0)∧w'.cell? ⟨w.heap.size,1,none⟩=some (vi vk a1)∧w'.cell? ⟨w.heap.size,2,none⟩=some (vi vk b0)∧w'.cell? ⟨w.heap.size,3,none⟩=some (vi vk b1)∧w'.cell? ⟨w.heap.size+1,0,none⟩=some (vi vk q0)∧w'.cell? ⟨w.heap.size+1,1,none⟩=some (vi vk q1)∧w'.cell? ⟨w.heap.size+1,2,none⟩=some (vi vk q2)∧w'.cell? ⟨w.heap.size+1,3,none⟩=some (vi vk q3)) (simp[*,World.cell?_setCell_other]) (first
  |(go_at_call 211;(with_reducible refine(KS.out _).mono ?_);rintro e w9 ⟨rfl,hb9⟩;(first|(replace hb9:=first_b hb9)|skip);have Z9:=hb9;clear x0 x1 x2 x3 x4 x5 x6 x7;have B9:=hid (B0.out.trans (Z9.mono B0.out.size));have T9:=hid (TR.out.below Z9 TR.out.lt);obtain⟨x0,x1,x2,x3,x4,x5,x6,x7,-⟩:=triS T1.out T2.out Z9;have z9:=fun i=>T9.out.cell i;have f9:=fun i=>T9.out.frozen i)
  |fail)
 all_goals
  have hB:=B9.out;have HZ:=hid T9.out;clear x0 x1 x2 x3 x4 x5 x6 x7 KS T1 T2 TR T9;go_wp2;clear z9 f9;generalize hW:World.setCell _ (⟨w.heap.size+1+1,5,none⟩:Addr) _=W6;have TB:Blk W6 (w.heap.size+1+1) 66 #[vi vk q0,vi vk q1,vi vk a0,vi vk a1,vi vk y0,vi vk y1]:=by
   rw[←hW];with_reducible exact blk6 HZ.out _ _ _ _ _ _
  have hBW:Below w.heap.size w W6:=by
   rw[←hW];with_reducible exact bl6 hB (Nat.le_succ_of_le (Nat.le_succ _)) _ _ _ _ _ _
  have z:=fun i=>TB.cell i;clear hW hB HZ TB;have c0:W6.cell? ⟨w.heap.size+1+1,0,none⟩=some (vi vk q0):=z 0;have c1:W6.cell? ⟨w.heap.size+1+1,1,none⟩=some (vi vk q1):=z 1;have c2:W6.cell? ⟨w.heap.size+1+1,2,none⟩=some (vi vk a0):=z 2;have c3:W6.cell? ⟨w.heap.size+1+1,3,none⟩=some (vi vk a1):=z 3;have c4:W6.cell? ⟨w.heap.size+1+1,4,none⟩=some (vi vk y0):=z 4;have c5:W6.cell? ⟨w.heap.size+1+1,5,none⟩=some (vi vk y1):=z 5;clear z;refine bodyPost_ret (v:=.agg #[vi vk q0,vi vk q1,vi vk a0,vi vk a1,vi vk y0,vi vk y1]) ?_ rfl ⟨rfl,hBW⟩;clear hBW;simp[results,results182,go_sem,c0,c1,c2,c3,c4,c5]
section
structure K2(W:World)(g:Nat)(a b:Int):Prop where
 lt:g<W.heap.size
 c0:W.cell? ⟨g,0,none⟩=some (vi vk a)
 c1:W.cell? ⟨g,1,none⟩=some (vi vk b)
 f0:W.frozen? ⟨g,0,none⟩=false
 f1:W.frozen? ⟨g,1,none⟩=false
section
variable {W W':World} {g:Nat} {a b:Int}
theorem K2.below{B:Nat}(h:K2 W g a b)(hb:Below B W W')(hB:g<B):K2 W' g a b:=
 ⟨Nat.lt_of_lt_of_le h.lt hb.size,(hb.cell (p:=⟨g,0,none⟩) hB).trans h.c0,(hb.cell (p:=⟨g,1,none⟩) hB).trans h.c1,(hb.frozen (p:=⟨g,0,none⟩) hB).trans h.f0,(hb.frozen (p:=⟨g,1,none⟩) hB).trans h.f1⟩
theorem K2.alloc(h:K2 W g a b)(o:Obj):K2 (W.alloc o) g a b:=h.below (bl_alloc W o) h.lt
theorem K2.new(W:World)(a b:Int)(t:TypeId):K2 (W.alloc (.cells #[vi vk a,vi vk b] t)) W.heap.size a b:=⟨by simp,by simp,by simp,by simp,by simp⟩
theorem K2.far(h:K2 W g a b){p:Addr}(hp:g≠p.block)(u:Value):K2 (W.setCell p u) g a b:=by
 have hne: ∀i,p≠(⟨g,i,none⟩:Addr):=fun i e=>hp (by rw[e]);refine⟨by simpa using h.lt,?_,?_,?_,?_⟩
 · rw[World.cell?_setCell_other _ _ _ _ (hne 0)];exact h.c0
 · rw[World.cell?_setCell_other _ _ _ _ (hne 1)];exact h.c1
 · simpa using h.f0
 · simpa using h.f1
theorem K2.set0(h:K2 W g a b)(v:Int):K2 (W.setCell ⟨g,0,none⟩ (vi vk v)) g v b:=by
 refine⟨by simpa using h.lt,World.cell?_setCell_same _ _ _ h.c0,?_,by simpa using h.f0,by simpa using h.f1⟩;rw[World.cell?_setCell_other _ _ _ _ (by simp)];exact h.c1
theorem K2.set1(h:K2 W g a b)(v:Int):K2 (W.setCell ⟨g,1,none⟩ (vi vk v)) g a v:=by
 refine⟨by simpa using h.lt,?_,World.cell?_setCell_same _ _ _ h.c1,by simpa using h.f0,by simpa using h.f1⟩;rw[World.cell?_setCell_other _ _ _ _ (by simp)];exact h.c0
end
def wdt(D:List Sp)(a:Int)(k:Nat):Int:=(D.take k).foldl (fun w b=>max w ((b.1-a)%21600000+b.2-b.1)) 0
def OkA(D:List Sp):Prop:= ∀x∈D,-10800000≤x.1∧x.1≤10800000∧x.1≤x.2∧x.2≤x.1+21600000
theorem wdt_succ(D:List Sp)(a:Int)(k:Nat)(hk:k<D.length):wdt D a (k+1)=max (wdt D a k) (((gs D k).1-a)%21600000+(gs D k).2-(gs D k).1):=by
 unfold wdt;rw[List.take_succ_eq_append_getElem hk,List.foldl_append];simp[gs,hk]
theorem wdt_bd(D:List Sp)(a:Int)(hD:OkA D)(k:Nat)(hk:k≤D.length):0≤wdt D a k∧wdt D a k<43200000:=by
 induction k with
 |zero=>simp[wdt]
 |succ k ih=>
  have h:=ih om_;rw[wdt_succ D a k om_]
  have:=hD (gs D k) (by have:k<D.length:=by omega
                        simp[gs,this])
  omega
def isAll(x:Sp):Bool:=aeq x.1 x.2 (-10800000) 10800000
def stepA(D:List Sp)(s:Sp×Int)(a:Sp):Sp×Int:=if wdt D a.1 D.length<s.2∨(wdt D a.1 D.length=s.2∧wdt D a.1 D.length<21600000∧a.1<s.1.1) then((a.1,a.1+wdt D a.1 D.length),wdt D a.1 D.length) else s
def foldA(D:List Sp)(k:Nat):Sp×Int:=(D.take k).foldl (stepA D) (((-10800000:Int),(10800000:Int)),(21600000:Int))
def arnd(D:List Sp):Sp:=(foldA D (D.findIdx isAll)).1
theorem foldA_succ(D:List Sp)(k:Nat)(hk:k<D.length):foldA D (k+1)=stepA D (foldA D k) (gs D k):=by
 unfold foldA;rw[List.take_succ_eq_append_getElem hk,List.foldl_append];simp[gs,hk]
theorem foldA_bd(D:List Sp)(hD:OkA D)(k:Nat)(hk:k≤D.length): -10800000≤(foldA D k).1.1∧(foldA D k).1.1≤10800000∧0≤(foldA D k).2∧(foldA D k).2≤21600000:=by
 induction k with
 |zero=>simp[foldA]
 |succ k ih=>
  have h:=ih om_;rw[foldA_succ D k om_]
  have h1:=hD (gs D k) (by have:k<D.length:=by omega
                           simp[gs,this])
  have h2:=wdt_bd D (gs D k).1 hD D.length (Nat.le_refl _);unfold stepA;split
  · simp only[]
    omega
  · exact h
theorem fixArnd_any(A:Option Addr)(n c:Nat)(D:List Sp)(w:World)(hr:Reads w w.heap.size 2 A n (spvs D))(hn:n≤100000)(hD:OkA D):
 Calls Tryz.prog 185 #[.slice A n c] w fun e w'=>e=.returned (.agg #[vi vk (arnd D).1,vi vk (arnd D).2])∧Below w.heap.size w w':=by
 have HL:Hid (D.length=n):=hid (by have:=hr.1;rw[spvs_length] at this;omega);have HR:=hid hr;have HD:=hid hD;have KE:=hid everywhere_any;have KA:=hid all_any;obtain⟨⟨r0,r1⟩,hR⟩: ∃R,R=arnd D:=⟨_,rfl⟩;rw[←hR];have HRR:=hid hR;clear hr hD hR;go_enter func185,ntmps185;go_wp2_with fail;(with_reducible refine(KE.out _).mono ?_)
 rintro e w1 ⟨rfl,hb1⟩
 have Z1:=hid ((K2.new w 0 0 31).below hb1 (by simp));have B1:=hid ((((Below.refl w.heap.size w).alloc (Nat.le_refl _) (.cells #[vi vk 0,vi vk 0] 31)).trans (hb1.mono (by simp))));have hlt1:=(Z1.out).lt;have N1:=hid (K2.new w1 (-10800000) 10800000 31);have Z2:=hid (Z1.out.alloc (.cells #[vi vk (-10800000),vi vk 10800000] 31));have B2:=hid (B1.out.alloc (by have:=B1.out.size;omega) (.cells #[vi vk (-10800000),vi vk 10800000] 31));clear Z1 B1 hb1 KE;go_wp2;go_loopw [4,13] (fun v i wr=> ∃k:Nat,k≤n∧i=vi vk k∧v=vi vk (foldA D k).2∧(∀j,j<k→isAll (gs D j)=false)∧K2 wr w.heap.size 0 0∧K2 wr w1.heap.size (foldA D k).1.1 (foldA D k).1.2∧Below w.heap.size w wr) (fun _ i _=>n-(intOf i).toNat)
 case atStart=>exact⟨0,Nat.zero_le _,rfl,rfl,fun j hj=>by omega,Z2.out,N1.out,B2.out⟩
 case round=>
  obtain⟨k,hk,rfl,rfl,hno,hZ,hN,hbr⟩:=hrel;clear Z2 N1 B2;have HZ:=hid hZ;have HN:=hid hN;have HNO:=hid hno;clear hZ hN hno;by_cases hlt:k<n
  · obtain⟨b,off,rfl,hb,x0,x1⟩:=SReads.elem HR.out hlt
    have y0:=(hbr.cell (p:=⟨b,off+k*2,none⟩) hb).trans x0;have y1:=(hbr.cell (p:=⟨b,off+k*2+1,none⟩) hb).trans x1;clear x0 x1
    have hdk:=HD.out (gs D k) (by have hkl:k<D.length:=by rw[HL.out];exact hlt
                                  simp[gs,hkl])
    have HF:=hid (foldA_succ D k (by rw[HL.out];exact hlt));have HFB:=hid (foldA_bd D HD.out k (by rw[HL.out];omega));obtain⟨x,hx⟩: ∃x,x=gs D k:=⟨_,rfl⟩;rw[←hx] at y0 y1 hdk HF;have HX:=hid hx;clear hx;obtain⟨p,q⟩:=x;simp only[] at y0 y1 hdk HF;obtain⟨⟨⟨s0,s1⟩,s2⟩,hs⟩: ∃s,s=foldA D k:=⟨_,rfl⟩;rw[←hs] at HF HN HFB;simp only[←hs];have HS:=hid hs;clear hs;simp only[] at HF HN HFB;have hz:=hbr.size;go_wp2_with fail;(with_reducible refine(KA.out p q _).mono ?_)
    rintro e w2 ⟨rfl,hb2⟩
    have HA2:=hid ((K2.new wr p q 31).below hb2 (by simp));have HZ2:=hid ((HZ.out.alloc (.cells #[vi vk p,vi vk q] 31)).below hb2 (by have:=HZ.out.lt;simp;omega));have HN2:=hid ((HN.out.alloc (.cells #[vi vk p,vi vk q] 31)).below hb2 (by have:=HN.out.lt;simp;omega));have b2:=(hbr.alloc hz (.cells #[vi vk p,vi vk q] 31)).trans (hb2.mono (by simp;omega));have ln:=HN.out.lt;have lz:=HZ.out.lt;clear hb2 HZ HN hbr y0 y1;generalize wr.heap.size=g6 at*;cases hall:aeq p q (-10800000) 10800000 with
    |true=>
     have hfi:D.findIdx isAll=k:=by
      have hkl:k<D.length:=by rw[HL.out];exact hlt
      rw[List.findIdx_eq hkl];refine⟨?_,fun j hj=>?_⟩
      · have:D[k]=gs D k:=by simp[gs,hkl]
        rw[this,←HX.out];exact hall
      · have hjl:j<D.length:=by omega
        have:D[j]=gs D j:=by simp[gs,hjl]
        rw[this];exact HNO.out j hj
     have hres:arnd D=(s0,s1):=by unfold arnd;rw[hfi,←HS.out]
     obtain⟨rfl,rfl⟩:=Prod.mk.inj (HRR.out.trans hres);obtain⟨zt,z0,z1,zf0,zf1⟩:=HZ2.out;obtain⟨nt,n0,n1,-,-⟩:=HN2.out;go_wp2;refine bodyPost_ret (v:=.agg #[vi vk r0,vi vk r1]) (by simp[results,results185,go_sem, *];done) rfl ⟨rfl,?_⟩;exact(b2.setCell (by simp) _).setCell (by simp) _
    |false=>
     have HNO2:Hid (∀j,j<k+1→isAll (gs D j)=false):=hid (fun j hj=>by
      by_cases hjk:j<k
      · exact HNO.out j hjk
      · obtain rfl:j=k:=by omega
        rw[←HX.out];exact hall)
     go_wp2;go_loopw [7,22] (fun v i wq=> ∃j:Nat,j≤n∧i=vi vk j∧v=vi vk (wdt D p j)∧K2 wq w.heap.size 0 0∧K2 wq w1.heap.size s0 s1∧K2 wq g6 p q∧Below w.heap.size w wq) (fun _ i _=>n-(intOf i).toNat)
     case atStart=>exact⟨0,Nat.zero_le _,rfl,rfl,HZ2.out,HN2.out,HA2.out,b2⟩
     case round=>
      obtain⟨j,hj,rfl,rfl,hZ,hN,hA,hbq⟩:=hrel;clear HZ2 HN2 HA2 b2;have HZ:=hid hZ;have HN:=hid hN;have HA:=hid hA;clear hZ hN hA;by_cases hjt:j<n
      · obtain⟨b',off',e,hb',x0,x1⟩:=SReads.elem HR.out hjt
        cases e
        have y0:=(hbq.cell (p:=⟨b,off+j*2,none⟩) hb).trans x0;have y1:=(hbq.cell (p:=⟨b,off+j*2+1,none⟩) hb).trans x1;clear x0 x1
        have hdj:=HD.out (gs D j) (by have hkl:j<D.length:=by rw[HL.out];exact hjt
                                      simp[gs,hkl])
        have HW:=hid (wdt_succ D p j (by rw[HL.out];exact hjt));have HWB:=wdt_bd D p HD.out j (by rw[HL.out];omega);generalize gs D j=x at y0 y1 hdj HW;obtain⟨u,v⟩:=x;simp only[] at y0 y1 hdj HW;have KB:=hid (fun W=>beyond_any p q u W om_ om_ om_ om_);have hm:0≤(u-p)%21600000∧(u-p)%21600000<21600000:=by omega
        generalize (u-p)%21600000=m at*;generalize wdt D p j=t at*;have n1:wrap64 (m+v)=m+v:=IntWalk.wrap64_in _ om_;have n2:wrap64 (m+v-u)=m+v-u:=IntWalk.wrap64_in _ om_;have hz2:=hbq.size;go_upto_region 12 with (fail)
        obtain⟨WW,hWW⟩: ∃W,W=wr.alloc (.cells #[vi vk u,vi vk v] 31):=⟨_,rfl⟩;have HU:=K2.new wr u v 31;have HA3:=HA.out.alloc (.cells #[vi vk u,vi vk v] 31);have HZ3:=hid (HZ.out.alloc (.cells #[vi vk u,vi vk v] 31));have HN3:=hid (HN.out.alloc (.cells #[vi vk u,vi vk v] 31));have b3:=hbq.alloc hz2 (.cells #[vi vk u,vi vk v] 31);rw[←hWW] at HU HA3 HZ3 HN3 b3⊢;have c0: ∀s:BV WW,s.w.cell? ⟨g6,0,none⟩=some (vi vk p):=fun s=>(HA3.below s.hb HA3.lt).c0;have c1: ∀s:BV WW,s.w.cell? ⟨g6,1,none⟩=some (vi vk q):=fun s=>(HA3.below s.hb HA3.lt).c1;have c2: ∀s:BV WW,s.w.cell? ⟨wr.heap.size,0,none⟩=some (vi vk u):=fun s=>(HU.below s.hb HU.lt).c0;have c3: ∀s:BV WW,s.w.cell? ⟨wr.heap.size,1,none⟩=some (vi vk v):=fun s=>(HU.below s.hb HU.lt).c1;have HA4:=hid HA3;clear HU HA3 hWW y0 y1 HA HZ HN hbq;refine wp_region_bv WW (by kernel_rfl) (by kernel_rfl) (Below.refl _ _) ?_;(repeat (go_big_quiet_step (first|(go_at_call 65;with_reducible exact quiet_bv (KB.out _))|fail)))
        refine wpQuiet_nil ?_;intro w9 hb9;clear c0 c1 c2 c3;go_wp2;go_roundw
        case rel=>exact⟨j+1,om_,by go_num,by rw[HW.out],HZ3.out.below hb9 HZ3.out.lt,HN3.out.below hb9 HN3.out.lt,HA4.out.below hb9 HA4.out.lt,b3.trans (hb9.mono b3.size)⟩
        case measure=>simp[intOf];omega
      · obtain rfl:j=n:=by omega
        have hwb:=wdt_bd D p HD.out j (by rw[HL.out];exact Nat.le_refl _);have HF2:Hid (foldA D (k+1)=if wdt D p j<s2∨(wdt D p j=s2∧wdt D p j<21600000∧p<s0) then((p,p+wdt D p j),wdt D p j) else((s0,s1),s2)):=hid (by rw[HF.out];unfold stepA;rw[HL.out]);generalize wdt D p j=t at*;have hfb:=HFB.out;have n3:wrap64 (p+t)=p+t:=IntWalk.wrap64_in _ om_;have hzq:=hbq.size;obtain⟨nt,e0,e1,ef0,ef1⟩:=HN.out;obtain⟨gt1,a0,a1,-,-⟩:=HA.out;by_cases hc:t<s2∨(t=s2∧t<21600000∧p<s0)
        · rw[if_pos hc] at HF2
          rcases hc with c1|⟨c1,c2,c3⟩
          · go_wp2
            go_roundw
            case rel=>exact⟨k+1,om_,by go_num,by rw[HF2.out],HNO2.out,(HZ.out.far so_ _).far so_ _,by rw[HF2.out];exact(HN.out.set0 p).set1 (p+t),(hbq.setCell so_ _).setCell so_ _⟩
            case measure=>simp[intOf];omega
          · subst c1
            go_wp2;go_roundw
            case rel=>exact⟨k+1,om_,by go_num,by rw[HF2.out],HNO2.out,(HZ.out.far so_ _).far so_ _,by rw[HF2.out];exact(HN.out.set0 p).set1 (p+t),(hbq.setCell so_ _).setCell so_ _⟩
            case measure=>simp[intOf];omega
        · rw[if_neg hc] at HF2
          have c1: ¬t<s2:=fun h=>hc (.inl h);by_cases c2:t=s2
          · subst c2
            by_cases c3:t<21600000
            · have c4: ¬p<s0:=fun h=>hc (.inr ⟨rfl,c3,h⟩)
              clear hc;go_wp2;go_roundw
              case rel=>exact⟨k+1,om_,by go_num,by rw[HF2.out],HNO2.out,HZ.out,by rw[HF2.out];exact HN.out,hbq⟩
              case measure=>simp[intOf];omega
            · clear hc
              go_wp2;go_roundw
              case rel=>exact⟨k+1,om_,by go_num,by rw[HF2.out],HNO2.out,HZ.out,by rw[HF2.out];exact HN.out,hbq⟩
              case measure=>simp[intOf];omega
          · clear hc
            go_wp2;go_roundw
            case rel=>exact⟨k+1,om_,by go_num,by rw[HF2.out],HNO2.out,HZ.out,by rw[HF2.out];exact HN.out,hbq⟩
            case measure=>simp[intOf];omega
  · obtain rfl:k=n:=by omega
    have hres:arnd D=(foldA D k).1:=by
     unfold arnd;rw[List.findIdx_eq_length.2 (fun x hx=>?_),HL.out];obtain⟨j,hj,rfl⟩:=List.getElem_of_mem hx;have:D[j]=gs D j:=by simp[gs,hj]
     rw[this];exact HNO.out j (by rw[←HL.out];exact hj)
    have hres2:=HRR.out.trans hres;generalize foldA D k=s at*;obtain⟨⟨s0,s1⟩,s2⟩:=s;simp only[] at HN hres2;obtain⟨rfl,rfl⟩:=Prod.mk.inj hres2;obtain⟨zt,z0,z1,zf0,zf1⟩:=HZ.out;obtain⟨nt,n0,n1,-,-⟩:=HN.out;go_wp2;refine bodyPost_ret (v:=.agg #[vi vk r0,vi vk r1]) (by simp[results,results185,go_sem, *];done) rfl ⟨rfl,?_⟩;exact(hbr.setCell (by simp) _).setCell (by simp) _
end
end Go.Proofs.YtdeiofgddhbdaaaGreat
