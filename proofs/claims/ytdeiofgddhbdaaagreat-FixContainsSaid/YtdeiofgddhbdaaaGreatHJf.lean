/- The walks of cosine.Altitude and of the reference's Altitude at a valid triangle. -/
import Derived.Test.YtdeiofgddhbdaaaGreatHJc
import Derived.Test.YtdeiofgddhbdaaaGreatHKu
set_option linter.unusedSimpArgs false
set_option linter.unusedVariables false
set_option maxHeartbeats 4000000
set_option maxRecDepth 100000
open Go.RowKit
open Go.Lib (hid)
open Go.Proofs.Tryz
open Go.Value renaming int→vi
open Go.IntKind renaming i64→vk
namespace Go.Proofs.YtdeiofgddhbdaaaGreat
section
open Canon
def lonIn(lo hi b:Int):Bool:=decide ((b-lo)%21600000≤hi-lo)
def ptB(x:Cl)(a b:Int):Bool:=
 decide (edg x.2.1 x.1-5400000≤a∧a≤edg (x.2.1+1) x.1-5400000)&&(decide (a=5400000)||decide (a= -5400000)||lonIn (edg x.2.2 x.1-10800000) (edg (x.2.2+1) x.1-10800000) b)
def conB(L:List Cl)(a b:Int):Bool:=L.any fun x=>ptB x a b
theorem pw_nat(l:Nat):pw (l:Int)=((2^l:Nat):Int):=by simp[pw]
theorem pw_pos(l:Int):0<pw l:=by unfold pw;exact Int.pow_pos om_
theorem pw_succ(l:Nat):pw ((l+1:Nat):Int)=2*pw (l:Int):=by
 rw[pw_nat,pw_nat,Nat.pow_succ];omega
theorem edg_even(i:Int)(l:Nat):edg (2*i) ((l+1:Nat):Int)=edg i (l:Int):=by
 unfold edg;rw[pw_succ,Int.mul_assoc,Int.mul_ediv_mul_of_pos _ _ om_]
theorem edg_mono{i j:Int}(l:Int)(h:i≤j):edg i l≤edg j l:=by
 unfold edg;exact Int.ediv_le_ediv (pw_pos l) om_
theorem lon_split{lo mi hi b:Int}(h1:lo≤mi)(h2:mi≤hi)(h3:hi-lo<21600000)(h4: -10800000≤lo)(h5:hi≤10800000)(b1: -10800000≤b)(b2:b<10800000):lonIn lo hi b=(lonIn lo mi b||lonIn mi hi b):=by
 unfold lonIn;rw[Bool.eq_iff_iff,Bool.or_eq_true,decide_eq_true_eq,decide_eq_true_eq,decide_eq_true_eq];omega
theorem lat_split{lo mi hi a:Int}(h1:lo≤mi)(h2:mi≤hi):decide (lo≤a∧a≤hi)=(decide (lo≤a∧a≤mi)||decide (mi≤a∧a≤hi)):=by
 rw[Bool.eq_iff_iff,Bool.or_eq_true,decide_eq_true_eq,decide_eq_true_eq,decide_eq_true_eq];omega
theorem pt_kids(l r c:Nat)(hl:l<16)(hc:c<2*2^l)(a b:Int)(hv:vptB a b=true):
 ptB ((l:Int),(r:Int),(c:Int)) a b=(ptB (((l+1:Nat):Int),((2*r:Nat):Int),((2*c:Nat):Int)) a b||ptB (((l+1:Nat):Int),((2*r:Nat):Int),((2*c+1:Nat):Int)) a b||ptB (((l+1:Nat):Int),((2*r+1:Nat):Int),((2*c:Nat):Int)) a b||ptB (((l+1:Nat):Int),((2*r+1:Nat):Int),((2*c+1:Nat):Int)) a b):=by
 obtain⟨a1,a2,b1,b2⟩:=vptB_true.1 hv;have hp:=pw_nat l;have r0:=edg_even (r:Int) l;have r1:=edg_even ((r:Int)+1) l;have c0:=edg_even (c:Int) l;have c1:=edg_even ((c:Int)+1) l;have m0:=edg_mono ((l+1:Nat):Int) (show 2*(r:Int)≤2*(r:Int)+1 by omega);have m1:=edg_mono ((l+1:Nat):Int) (show 2*(r:Int)+1≤2*((r:Int)+1) by omega);have m2:=edg_mono ((l+1:Nat):Int) (show 2*(c:Int)≤2*(c:Int)+1 by omega);have m3:=edg_mono ((l+1:Nat):Int) (show 2*(c:Int)+1≤2*((c:Int)+1) by omega);have d0:=edg_bd (i:=(c:Int)) (l:=(l:Int)) om_ om_ (by rw[hp];omega);have d1:=edg_bd (i:=(c:Int)+1) (l:=(l:Int)) om_ om_ (by rw[hp];omega);have d2:edg ((c:Int)+1) l-edg c l<21600000:=by
  unfold edg;have:((c:Int)+1)*10800000/pw l≤(c:Int)*10800000/pw l+10800001:=by
   rw[←Int.add_mul_ediv_right _ _ (show pw (l:Int)≠0 by have:=pw_pos (l:Int);omega)];refine Int.ediv_le_ediv (pw_pos l) ?_;have:=pw_pos (l:Int);omega
  omega
 have e1:((2*r:Nat):Int)=2*(r:Int):=by omega
 have e2:((2*r+1:Nat):Int)=2*(r:Int)+1:=by omega
 have e3:((2*c:Nat):Int)=2*(c:Int):=by omega
 have e4:((2*c+1:Nat):Int)=2*(c:Int)+1:=by omega
 have e5:2*(r:Int)+1+1=2*((r:Int)+1):=by omega
 have e6:2*(c:Int)+1+1=2*((c:Int)+1):=by omega
 unfold ptB;simp only[e1,e2,e3,e4,e5,e6];rw[r0] at m0;rw[r1] at m1;rw[c0] at m2;rw[c1] at m3;rw[r0,r1,c0,c1];generalize edg (2*(r:Int)+1) ((l+1:Nat):Int)=M at*;generalize edg (2*(c:Int)+1) ((l+1:Nat):Int)=N at*;generalize edg (r:Int) (l:Int)=A at*;generalize edg ((r:Int)+1) (l:Int)=B at*;generalize edg (c:Int) (l:Int)=C at*;generalize edg ((c:Int)+1) (l:Int)=D at*;rw[lat_split (lo:=A-5400000) (mi:=M-5400000) (hi:=B-5400000) om_ om_,lon_split (lo:=C-10800000) (mi:=N-10800000) (hi:=D-10800000) om_ om_ om_ om_ om_ b1 b2];generalize decide (A-5400000≤a∧a≤M-5400000)=x1;generalize decide (M-5400000≤a∧a≤B-5400000)=x2;generalize lonIn (C-10800000) (N-10800000) b=y1;generalize lonIn (N-10800000) (D-10800000) b=y2;generalize (decide (a=5400000)||decide (a= -5400000))=p;cases x1<;>cases x2<;>cases y1<;>cases y2<;>cases p<;>rfl
def fin(a b:Int)(q:Nat):Bool:=ptB (cellB (0,q)) a b
theorem cellN_kid(l n i:Nat)(hi:i<4):cellN (4*n+i) (l+1)=(((l+1:Nat):Int),((2*rwTo l n+i/2:Nat):Int),((2*colOf l n+i%2:Nat):Int)):=by
 have e1:(4*n+i)/4=n:=by omega
 have e2:(4*n+i)%4=i:=by omega
 unfold cellN colOf;rw[rwTo_low,clTo_low,e1,e2,Nat.pow_succ 4 l,Nat.mul_comm (4^l) 4,←Nat.div_div_eq_div_mul,e1,Nat.pow_succ 2 l];have:n/4^l*(2^l*2)=2*(n/4^l*2^l):=by rw[←Nat.mul_assoc,Nat.mul_comm]
 rw[this];have e3:2*clTo l n+i%2+2*(n/4^l*2^l)=2*(clTo l n+n/4^l*2^l)+i%2:=by omega
 rw[e3]
theorem pt_fin(a b:Int)(hv:vptB a b=true): ∀(h n:Nat),h≤16→n<2*4^(16-h)→(ptB (cellB (h,n)) a b=true↔ ∃q,n*4^h≤q∧q<(n+1)*4^h∧fin a b q=true)
 |0,n,_,_=>by
  constructor
  · intro h
    exact⟨n,om_,om_,h⟩
  · rintro⟨q,h1,h2,h3⟩
    have:q=n:=by omega
    rw[←this];exact h3
 |h+1,n,hh,hn=>by
  have el:16-h=(16-(h+1))+1:=by omega
  have hcol:=colOf_lt (16-(h+1)) n hn;have hk:=pt_kids (16-(h+1)) (rwTo (16-(h+1)) n) (colOf (16-(h+1)) n) om_ hcol a b hv;have hn4: ∀i,i<4→4*n+i<2*4^(16-h):=by
   intro i hi;rw[el,Nat.pow_succ];omega
  have k0:=cellN_kid (16-(h+1)) n 0 om_;have k1:=cellN_kid (16-(h+1)) n 1 om_;have k2:=cellN_kid (16-(h+1)) n 2 om_;have k3:=cellN_kid (16-(h+1)) n 3 om_;rw[←el] at k0 k1 k2 k3 hk;have i0:=pt_fin a b hv h (4*n) om_ (hn4 0 om_);have i1:=pt_fin a b hv h (4*n+1) om_ (hn4 1 om_);have i2:=pt_fin a b hv h (4*n+2) om_ (hn4 2 om_);have i3:=pt_fin a b hv h (4*n+3) om_ (hn4 3 om_);unfold cellB at i0 i1 i2 i3⊢;simp only[] at i0 i1 i2 i3⊢;have e0:cellN n (16-(h+1))=(((16-(h+1):Nat):Int),((rwTo (16-(h+1)) n:Nat):Int),((colOf (16-(h+1)) n:Nat):Int)):=rfl;simp only[Nat.add_zero,Nat.zero_div,Nat.zero_mod,show 1/2=0 from rfl,show 1%2=1 from rfl,show 2/2=1 from rfl,show 2%2=0 from rfl,show 3/2=1 from rfl,show 3%2=1 from rfl] at k0 k1 k2 k3;rw[e0,hk,←k0,←k1,←k2,←k3,Bool.or_eq_true,Bool.or_eq_true,Bool.or_eq_true,i0,i1,i2,i3];have e: ∀m:Nat,m*4^(h+1)=4*m*4^h:=fun m=>by rw[Nat.pow_succ];rw[Nat.mul_comm 4 m,Nat.mul_assoc,Nat.mul_comm 4]
  rw[e,e];have e1:(4*n+1)*4^h=4*n*4^h+4^h:=by rw[Nat.add_mul];omega
  have e2:(4*n+2)*4^h=4*n*4^h+2*4^h:=by rw[Nat.add_mul]
  have e3:(4*n+3)*4^h=4*n*4^h+3*4^h:=by rw[Nat.add_mul]
  have e4:(4*n+1+1)*4^h=4*n*4^h+2*4^h:=by rw[show 4*n+1+1=4*n+2 by omega,e2]
  have e5:(4*n+2+1)*4^h=4*n*4^h+3*4^h:=by rw[show 4*n+2+1=4*n+3 by omega,e3]
  have e6:(4*n+3+1)*4^h=4*n*4^h+4*4^h:=by rw[show 4*n+3+1=4*n+4 by omega,Nat.add_mul]
  have e7:4*(n+1)*4^h=4*n*4^h+4*4^h:=by rw[show 4*(n+1)=4*n+4 by omega,Nat.add_mul]
  rw[e4,e5,e6,e7,e1];generalize 4*n*4^h=u;generalize 4^h=v;constructor
  · rintro(((⟨q,h1,h2,h3⟩|⟨q,h1,h2,h3⟩)|⟨q,h1,h2,h3⟩)|⟨q,h1,h2,h3⟩)<;>exact⟨q,om_,om_,h3⟩
  · rintro⟨q,h1,h2,h3⟩
    by_cases c1:q<u+v
    · exact .inl (.inl (.inl ⟨q,h1,c1,h3⟩))
    · by_cases c2:q<u+2*v
      · exact .inl (.inl (.inr ⟨q,om_,c2,h3⟩))
      · by_cases c3:q<u+3*v
        · exact .inl (.inr ⟨q,om_,c3,h3⟩)
        · exact .inr ⟨q,om_,h2,h3⟩
theorem con_iff{L:List Cl}(hL:AllV L)(a b:Int)(hv:vptB a b=true):conB L a b=true↔ ∃q,covB (L.map blkOf) q=true∧fin a b q=true:=by
 unfold conB;rw[List.any_eq_true];constructor
 · rintro⟨x,hx,h⟩
   have h1:=blk_lt x (hL x hx);rw[←cellB_blkOf x (hL x hx),show blkOf x=((blkOf x).1,(blkOf x).2) from rfl,pt_fin a b hv _ _ h1.1 h1.2] at h;obtain⟨q,q1,q2,q3⟩:=h;exact⟨q,covS.2 ⟨blkOf x,List.mem_map.2 ⟨x,hx,rfl⟩,q1,q2⟩,q3⟩
 · rintro⟨q,hq,hf⟩
   obtain⟨b',hb',b1,b2⟩:=covS.1 hq;obtain⟨x,hx,rfl⟩:=List.mem_map.1 hb';have h1:=blk_lt x (hL x hx);refine⟨x,hx,?_⟩;rw[←cellB_blkOf x (hL x hx),show blkOf x=((blkOf x).1,(blkOf x).2) from rfl,pt_fin a b hv _ _ h1.1 h1.2];exact⟨q,b1,b2,hf⟩
theorem one_vr{x:Cl}(hx:Vl x):vrB [x]=true:=by
 have hL:AllV [x]:=fun y hy=>by rw[List.mem_singleton] at hy;rw[hy];exact hx
 refine(vrB_iff _).2 ⟨by simp,hL,(tidy_iff hL).2 ⟨?_,?_⟩⟩
 · intro i hi
   simp at hi
 · intro i hi
   simp at hi
def insL(a b:List Cl):Bool:=decide (madeL 3 a b=[])
theorem ins_reg(s t:Nat→Bool):insL (regB s) (regB t)=true↔ ∀q,q<2*4^16→s q=true→t q=true:=by
 unfold insL;rw[decide_eq_true_eq,reg_made];have e: ∀x y:Bool,opB 3 x y=(x&& !y):=by intro x y;simp[opB]
 constructor
 · intro h q hq hs
   have h0:(regB fun _=>false)=[]:=reg_nil fun _ _=>rfl;have:=reg_inj (h.trans h0.symm) q hq;rw[e,hs,Bool.true_and] at this;cases ht:t q with
   |true=>rfl
   |false=>rw[ht] at this;exact absurd this dc_
 · intro h
   refine reg_nil fun q hq=>?_;rw[e];cases hs:s q with
   |false=>rfl
   |true=>rw[h q hq hs];rfl
theorem idx_in{l N m:Int}(h1:l≤16)(h2:0≤N)(hm:0≤m):0≤idx N l m∧idx N l m≤m∧edg (idx N l m) l≤N∧(idx N l m=m∨N<edg (idx N l m+1) l):=by
 have hp:=pw_pos l;have e:(pn N l+10799999)/10800000-1=(pn N l-1)/10800000:=by omega
 have h3:1≤pn N l:=by
  unfold pn;have:1*1≤(N+1)*pw l:=Int.mul_le_mul om_ om_ om_ om_;omega
 have h4:0≤(pn N l-1)/10800000:=Int.ediv_nonneg om_ om_;unfold idx;rw[e,edg_le_iff h1];have h5:N<edg (min ((pn N l-1)/10800000) m+1) l↔ ¬min ((pn N l-1)/10800000) m+1≤(pn N l-1)/10800000:=by
  rw[←edg_le_iff h1];omega
 rw[h5];generalize (pn N l-1)/10800000=z at*;omega
def ofC(a b l:Int):Cl:=(l,idx (a+5400000) l (pw l-1),idx (b+10800000) l (2*pw l-1))
theorem edg_all(l:Int):edg (pw l) l=10800000:=by
 unfold edg;rw[Int.mul_comm,Int.mul_ediv_cancel _ (by have:=pw_pos l;omega)]
theorem edg_two(l:Int):edg (2*pw l) l=21600000:=by
 unfold edg;rw[show 2*pw l*10800000=21600000*pw l by omega,Int.mul_ediv_cancel _ (by have:=pw_pos l;omega)]
theorem of_in{a b l:Int}(hv:vptB a b=true)(h0:0≤l)(h1:l≤16):
 Vl (ofC a b l)∧edg (ofC a b l).2.1 l-5400000≤a∧a≤edg ((ofC a b l).2.1+1) l-5400000∧edg (ofC a b l).2.2 l-10800000≤b∧b<edg ((ofC a b l).2.2+1) l-10800000:=by
 obtain⟨a1,a2,b1,b2⟩:=vptB_true.1 hv;have hp:=pw_pos l;have i1:=idx_in (l:=l) (N:=a+5400000) (m:=pw l-1) h1 om_ om_;have i2:=idx_in (l:=l) (N:=b+10800000) (m:=2*pw l-1) h1 om_ om_;have e1:=edg_all l;have e2:=edg_two l;refine⟨(vl_iff _).1 (vldB_true.2 ?_),?_⟩
 · unfold ofC
   simp only[];omega
 · unfold ofC
   simp only[];obtain⟨x1,x2,x3,x4⟩:=i1;obtain⟨y1,y2,y3,y4⟩:=i2;refine⟨om_,?_,om_,?_⟩
   · rcases x4 with h|h
     · rw[h,show pw l-1+1=pw l by omega,e1];omega
     · omega
   · rcases y4 with h|h
     · rw[h,show 2*pw l-1+1=2*pw l by omega,e2];omega
     · omega
theorem of_pt{a b l:Int}(hv:vptB a b=true)(h0:0≤l)(h1:l≤16):ptB (ofC a b l) a b=true:=by
 obtain⟨hV,g1,g2,g3,g4⟩:=of_in hv h0 h1;obtain⟨a1,a2,b1,b2⟩:=vptB_true.1 hv;have hp:=pw_pos l;obtain⟨v0,v1,v2,v3,v4,v5⟩:=vldB_true.1 ((vl_iff _).2 hV);have hl:(ofC a b l).1=l:=rfl;rw[hl] at v3 v5;have d0:=edg_bd (i:=(ofC a b l).2.2) h1 v4 om_;have d1:=edg_bd (i:=(ofC a b l).2.2+1) h1 om_ om_;unfold ptB;rw[hl,decide_eq_true ⟨g1,g2⟩,Bool.true_and,Bool.or_eq_true];right
 unfold lonIn;rw[decide_eq_true_eq];generalize edg (ofC a b l).2.2 l=x at*;generalize edg ((ofC a b l).2.2+1) l=y at*;omega
end
section
open Canon
theorem cov_canonC(S:Nat→Prop)(q:Nat)(hq:q<2*4^16):covB ((canonC S).map blkOf) q=true↔S q:=by
 rw[canonC_blk,cov_app,Bool.or_eq_true];by_cases h0:q<4^16
 · have c0:=cov_canon S 16 0 q om_ om_
   have c1:=cov_canon_out S 16 1 q om_;rw[c0,c1];simp
 · have c0:=cov_canon_out S 16 0 q om_
   have c1:=cov_canon S 16 1 q om_ om_;rw[c0,c1];simp
theorem tidyL_nil{D:List Sp}(hA:ApartI D)(hk:SpOk D):tidyL D=[]↔D=[]:=by
 constructor
 · intro h
   rw[tidyL_canon hA hk] at h;match D,hA,hk,h with
   | [],_,_,_=>rfl
   |s::r,hA,hk,h=>
    exfalso
    have hs:=hk s (by simp);have:=(cov_canonC (fun q=>inI (s::r) q) s.1.toNat om_).2 ⟨s,by simp,om_,om_⟩;rw[h] at this;exact Bool.noConfusion this
 · rintro rfl
   rfl
theorem comb_empty(E:List Int)(a b:List Cl)(ha:AllV a)(hb:AllV b)(hE:E.Pairwise (· < ·))(hm: ∀x,x∈E↔(x∈endsS (coverL a)∨x∈endsS (coverL b))):
 combE (opB 3) E (coverL a) (coverL b)=[]↔madeL 3 a b=[]:=by
 obtain⟨h1,h2⟩:=comb_made 3 E a b ha hb hE hm;have hr:opB 3 false false=false:=by simp[opB]
 have va: ∀x∈a,vldB x.1 x.2.1 x.2.2=true:=fun x hx=>(vl_iff x).2 (ha x hx);have vb: ∀x∈b,vldB x.1 x.2.1 x.2.2=true:=fun x hx=>(vl_iff x).2 (hb x hx);have h3:=(comb_good (opB 3) hr E (coverL a) (coverL b) hE hm (cover_good a va).1 (cover_good b vb).1).1;rw[←h1];exact(tidyL_nil h3 h2).symm
end
section
open Canon
theorem box_nums{x:Cl}(hx:Vl x): -5400000≤edg x.2.1 x.1-5400000∧edg x.2.1 x.1≤edg (x.2.1+1) x.1∧edg (x.2.1+1) x.1-5400000≤5400000∧0≤edg x.2.2 x.1∧edg x.2.2 x.1<21600000∧edg x.2.2 x.1≤edg (x.2.2+1) x.1∧edg (x.2.2+1) x.1≤21600000∧edg (x.2.2+1) x.1-edg x.2.2 x.1≤10800001:=by
 obtain⟨h0,h1,h2,h3,h4,h5⟩:=vldB_true.1 ((vl_iff x).2 hx);have hp:=pw_pos x.1;have hb:=pw_bd h1;have r0:=edg_bd (i:=x.2.1) h1 h2 om_;have c0:=edg_bd (i:=x.2.2) h1 h4 om_;have c1:=edg_bd (i:=x.2.2+1) h1 om_ om_;have rm:=edg_mono x.1 (show x.2.1≤x.2.1+1 by omega);have cm:=edg_mono x.1 (show x.2.2≤x.2.2+1 by omega);have rt:=edg_mono x.1 (show x.2.1+1≤pw x.1 by omega);rw[edg_all] at rt;have ct:edg x.2.2 x.1<21600000:=by
  unfold edg;rw[Int.ediv_lt_iff_lt_mul hp];omega
 have cw:edg (x.2.2+1) x.1-edg x.2.2 x.1≤10800001:=by
  unfold edg;have:(x.2.2+1)*10800000/pw x.1≤x.2.2*10800000/pw x.1+10800001:=by
   rw[←Int.add_mul_ediv_right _ _ (show pw x.1≠0 by omega)];refine Int.ediv_le_ediv hp ?_;omega
  omega
 omega
end
def peq(a b c d a' b' c' d':Int):Bool:=decide (a=a'∧b=b'∧c=c'∧d=d')
theorem equalInPlace(a b c d a' b' c' d':Int)(w:World):(Op.equalIn 10000 40 (.agg #[vi vk a,vi vk b,vi vk c,vi vk d]) (.agg #[vi vk a',vi vk b',vi vk c',vi vk d'])).run Tryz.prog w=.ok (peq a b c d a' b' c' d') w:=by
 have u3:=underlying3;have a3:=Tryz.isAgg3;have z3:=Tryz.sizeOf3;have hS:Tryz.prog.underlying 40=some (.struct (Tryz.prog.fieldsOf 40)):=by kernel_rfl
 have hp:Tryz.prog.stoodInHeld 40=false:=by kernel_rfl
 have hS2:Tryz.prog.underlying 31=some (.struct (Tryz.prog.fieldsOf 31)):=by kernel_rfl
 have hp2:Tryz.prog.stoodInHeld 31=false:=by kernel_rfl
 have hA: ∀(x y x' y':Int) (w:World),(Op.equalIn 9999 31 (.agg #[vi vk x,vi vk y]) (.agg #[vi vk x',vi vk y'])).run Tryz.prog w=.ok (decide (x=x'∧y=y')) w:=by
  intro x y x' y' w;rw[show(9999:Nat)=9998+1 from rfl,run_equalIn_agg w 9998 31 _ _ hS2 hp2];simp only[Program.fieldsOf,underlying31];go_simp
  by_cases h1:x=x'<;>by_cases h2:y=y'<;>simp[h1,h2]
 rw[show(10000:Nat)=9999+1 from rfl,run_equalIn_agg w 9999 40 _ _ hS hp];simp only[Program.fieldsOf,underlying40];go_simp
 by_cases h1:a=a'<;>by_cases h2:b=b'<;>by_cases h3:c=c'<;>by_cases h4:d=d'<;>simp[peq,h1,h2,h3,h4]
theorem eqlPlace(a b c d a' b' c' d':Int)(w:World):(binOp .eql 40 (.agg #[vi vk a,vi vk b,vi vk c,vi vk d]) (.agg #[vi vk a',vi vk b',vi vk c',vi vk d'])).run Tryz.prog w=.ok (.bool (peq a b c d a' b' c' d')) w:=by
 rw[run_eql_struct,equalInPlace];rfl
theorem reads_new3(w:World)(a b c:Int)(t:TypeId)(B:Nat)(hB:w.heap.size<B):Reads (w.alloc (.cells #[vi vk a,vi vk b,vi vk c] t)) B 3 (some ⟨w.heap.size,0,none⟩) 1 (cvs [(a,b,c)]):=(reads_new w a b c t).more hB
section
def aeq(a b a' b':Int):Bool:=decide (a=a'∧b=b')
theorem equalInArc(a b a' b':Int)(w:World):(Op.equalIn 10000 31 (.agg #[vi vk a,vi vk b]) (.agg #[vi vk a',vi vk b'])).run Tryz.prog w=.ok (aeq a b a' b') w:=by
 have u3:=underlying3;have a3:=Tryz.isAgg3;have z3:=Tryz.sizeOf3;have hS:Tryz.prog.underlying 31=some (.struct (Tryz.prog.fieldsOf 31)):=by kernel_rfl
 have hp:Tryz.prog.stoodInHeld 31=false:=by kernel_rfl
 rw[show(10000:Nat)=9999+1 from rfl,run_equalIn_agg w 9999 31 _ _ hS hp];simp only[Program.fieldsOf,underlying31];go_simp
 by_cases h1:a=a'<;>by_cases h2:b=b'<;>simp[aeq,h1,h2]
theorem eqlArc(a b a' b':Int)(w:World):(binOp .eql 31 (.agg #[vi vk a,vi vk b]) (.agg #[vi vk a',vi vk b'])).run Tryz.prog w=.ok (.bool (aeq a b a' b')) w:=by
 rw[run_eql_struct,equalInArc];rfl
theorem tmod_cases(n:Int):(0≤n∧n.tmod 21600000=n%21600000)∨(n<0∧n.tmod 21600000= -((-n)%21600000)):=by
 by_cases h:0≤n
 · exact .inl ⟨h,Int.tmod_eq_emod_of_nonneg h⟩
 · refine .inr ⟨om_,?_⟩
   have h1:(-n).tmod 21600000=(-n)%21600000:=Int.tmod_eq_emod_of_nonneg om_;rw[Int.neg_tmod] at h1;omega
theorem tmod_pos{n:Int}(h:0≤n.tmod 21600000):n.tmod 21600000=n%21600000:=by
 rcases tmod_cases n with ⟨h1,h2⟩|⟨h1,h2⟩<;>omega
theorem tmod_neg{n:Int}(h:n.tmod 21600000<0):n.tmod 21600000+21600000=n%21600000:=by
 rcases tmod_cases n with ⟨h1,h2⟩|⟨h1,h2⟩<;>omega
theorem everywhere_any(w:World):Calls Tryz.prog 84 #[] w fun e w'=>e=.returned (.agg #[vi vk (-10800000),vi vk 10800000])∧Below w.heap.size w w':=by
 go_enter func84,ntmps84;go_wp2;refine bodyPost_ret (v:=.agg #[vi vk (-10800000),vi vk 10800000]) (by simp[results,results84,go_sem]) rfl ⟨rfl,?_⟩;exact bl_
structure BV(w0:World) where
 w:World
 hb:Below w0.heap.size w0 w
instance bvSome (w0:World):Nonempty (BV w0):=⟨⟨w0,Below.refl _ _⟩⟩
theorem wp_region_bv{P:Program}{id:Nat}{Q:Exit→Act→World→Prop}{a:Act}{w:World}{l:List Oper}(w0:World)(hm:P.follows .mixedOrders=true)(hB:Region.lexB .any l.toArray=true)(h0:Below w0.heap.size w0 w)
 (h:wpQuiet P l.toArray (fun w'=> ∃s:BV w0,w'=s.w) (fun a'=> ∀w9,Below w0.heap.size w0 w9→Q .normal a' w9) l a):(Code.region id l.toArray true).wp P Q a w:=by
 have e:(fun a'=> ∀w9,Below w0.heap.size w0 w9→Q .normal a' w9)=(fun a':Act=> ∀w',(∃s:BV w0,w'=s.w)→Q .normal a' w'):=
  funext fun a'=>propext ⟨fun h w' ⟨s,hs⟩=>hs▸h s.w s.hb,fun h w9 hb=>h w9 ⟨⟨w9,hb⟩,rfl⟩⟩
 rw[e] at h;exact wp_region_quiet (C:=fun w'=> ∃s:BV w0,w'=s.w) hm hB ⟨⟨_,bl_drew h0⟩,rfl⟩ (by simpa using h)
theorem quiet_bv{P:Program}{f:FuncId}{args:Array Value}{w0:World}{s:BV w0}{v:Value}(h:Calls P f args s.w fun e w'=>e=.returned v∧Below s.w.heap.size s.w w'):
 Calls P f args s.w fun e w''=>e=.returned v∧ ∃s':BV w0,w''=s'.w:=
 h.mono fun _ w' ⟨he,hb⟩=>⟨he,⟨w',s.hb.trans (hb.mono s.hb.size)⟩,rfl⟩
theorem all_any(x y:Int)(w:World):Calls Tryz.prog 47 #[.agg #[vi vk x,vi vk y]] w fun e w'=>e=.returned (.bool (aeq x y (-10800000) 10800000))∧Below w.heap.size w w':=by
 have K:=hid everywhere_any;have hq:=eqlArc;go_enter func47,ntmps47;go_upto_region 1 with fail
 have b0:=bl_alloc w (.cells #[vi vk x,vi vk y] 31);have x1: ∀s:BV (w.alloc (.cells #[vi vk x,vi vk y] 31)),s.w.cell? ⟨w.heap.size,0,none⟩=some (vi vk x):=fun s=>(s.hb.cell (p:=⟨w.heap.size,0,none⟩) (by simp)).trans (by simp);have x2: ∀s:BV (w.alloc (.cells #[vi vk x,vi vk y] 31)),s.w.cell? ⟨w.heap.size,1,none⟩=some (vi vk y):=fun s=>(s.hb.cell (p:=⟨w.heap.size,1,none⟩) (by simp)).trans (by simp);refine wp_region_bv (w.alloc (.cells #[vi vk x,vi vk y] 31)) (by kernel_rfl) (by kernel_rfl) (Below.refl _ _) ?_;(repeat (go_big_quiet_step (first|(go_at_call 84;with_reducible exact quiet_bv (K.out _))|fail)))
 refine wpQuiet_nil ?_;intro w9 hb9;clear x1 x2;go_wp2;go_ret;exact⟨rfl,b0.trans (hb9.mono (by simp))⟩
theorem Wrap_any(n:Int)(w:World)(h0: -1000000000000≤n)(h1:n≤1000000000000):Calls Tryz.prog 77 #[vi vk n] w fun e w'=>e=.returned (vi vk (n%21600000))∧Below w.heap.size w w':=by
 go_enter func77,ntmps77;go_wp2;all_goals
  go_ret;refine⟨ret_int ?_,?_⟩
  · first|(exact tmod_pos (by assumption))|(rw[IntWalk.wrap64_in _ (by have:=tmod_neg (n:=n) (by assumption);omega)];exact tmod_neg (by assumption))
  · exact bl_
theorem beyond_any(x y n:Int)(w:World)(h0: -100000000≤n)(h1:n≤100000000)(h2: -100000000≤x)(h3:x≤100000000):Calls Tryz.prog 65 #[.agg #[vi vk x,vi vk y],vi vk n] w fun e w'=>e=.returned (vi vk ((n-x)%21600000))∧Below w.heap.size w w':=by
 have K:=hid (fun W=>Wrap_any (n-x) W om_ om_);go_enter func65,ntmps65;go_wp2_with (go_at_call 77;(with_reducible refine(K.out _).mono ?_);rintro e w1 ⟨rfl,hb1⟩);go_ret;exact⟨rfl,one_bl hb1⟩
theorem has_place(x y n:Int)(w:World)(h0: -100000000≤n)(h1:n≤100000000)(h2: -100000000≤x)(hx:x≤100000000)(h3:x≤y)(h4:y-x<21600000):Calls Tryz.prog 35 #[.agg #[vi vk x,vi vk y],vi vk n] w fun e w'=>e=.returned (.bool (lonIn x y n))∧Below w.heap.size w w':=by
 · have ha:aeq x y (-10800000) 10800000=false:=by simp[aeq];omega
   have K:=hid (fun W=>all_any x y W);rw[ha] at K;have K2:=hid (fun W=>beyond_any x y n W h0 h1 h2 hx);have sy:IntKind.i64.wrap (y-x)=y-x:=IntWalk.i64_in _ om_;unfold lonIn;clear ha;go_enter func35,ntmps35;go_upto_region 1 with fail
   have b0:=bl_alloc w (.cells #[vi vk x,vi vk y] 31);have x1: ∀s:BV (w.alloc (.cells #[vi vk x,vi vk y] 31)),s.w.cell? ⟨w.heap.size,0,none⟩=some (vi vk x):=fun s=>(s.hb.cell (p:=⟨w.heap.size,0,none⟩) (by simp)).trans (by simp);have x2: ∀s:BV (w.alloc (.cells #[vi vk x,vi vk y] 31)),s.w.cell? ⟨w.heap.size,1,none⟩=some (vi vk y):=fun s=>(s.hb.cell (p:=⟨w.heap.size,1,none⟩) (by simp)).trans (by simp);refine wp_region_bv (w.alloc (.cells #[vi vk x,vi vk y] 31)) (by kernel_rfl) (by kernel_rfl) (Below.refl _ _) ?_;(repeat (go_big_quiet_step (first|(go_at_call 47;with_reducible exact quiet_bv (K.out _))|(go_at_call 65;with_reducible exact quiet_bv (K2.out _))|fail)))
   refine wpQuiet_nil ?_;intro w9 hb9;clear x1 x2 sy;go_wp2;go_ret;exact⟨rfl,b0.trans (hb9.mono (by simp))⟩
end
theorem fits_any(n:Int)(w:World):Calls Tryz.prog 78 #[vi vk n] w fun e w'=>e=.returned (.bool (rchB n))∧w'=w:=by
 unfold rchB;go_enter func78,ntmps78;go_wp2;all_goals
  go_ret;exact⟨ret_bool (by first|rfl|(simp_all;done)|(simp_all;omega)),rfl⟩
theorem av_parts(lo hi:Int):avB lo hi=(decide (lo≤hi)&&rchB lo&&rchB hi):=by
 unfold avB rchB;rw[Bool.eq_iff_iff];simp only[Bool.and_eq_true,decide_eq_true_eq];omega
theorem aValid_any(lo hi:Int)(w:World):Calls Tryz.prog 42 #[.agg #[vi vk lo,vi vk hi]] w fun e w'=>e=.returned (.bool (avB lo hi))∧Below w.heap.size w w':=by
 have KL:=hid (fun W=>fits_any lo W);have KH:=hid (fun W=>fits_any hi W);rw[av_parts];generalize rchB lo=s at*;generalize rchB hi=t at*;by_cases h:lo≤hi
 · have d:decide (lo≤hi)=true:=decide_eq_true h
   rw[d];cases s
   · go_enter func42,ntmps42
     go_wp2_with (go_at_call 78;(with_reducible refine(KL.out _).mono ?_);rintro e w9 ⟨rfl,rfl⟩);go_ret;refine⟨rfl,?_⟩;exact bl_
   · cases t
     all_goals
      go_enter func42,ntmps42;go_wp2_with (go_at_call 78;(first|(with_reducible refine(KL.out _).mono ?_)|(with_reducible refine(KH.out _).mono ?_));rintro e w9 ⟨rfl,rfl⟩);go_ret;refine⟨rfl,?_⟩;exact bl_
 · have d:decide (lo≤hi)=false:=decide_eq_false h
   rw[d];go_enter func42,ntmps42;go_wp2;go_ret;refine⟨rfl,?_⟩;exact bl_
theorem clat_yes(lo hi:Int)(w:World)(h0: -5400000≤lo)(h1:lo≤hi)(h2:hi≤5400000):Calls Tryz.prog 116 #[.agg #[vi vk lo,vi vk hi]] w fun e w'=>e=.returned (.bool true)∧Below w.heap.size w w':=by
 have KV:=hid (fun W=>aValid_any lo hi W);rw[avB_true.2 (by omega: -1099511627776≤lo∧lo≤hi∧hi≤1099511627776)] at KV;have T1:=hid (D2.new w lo hi 31);have B0:=hid (bl_alloc w (.cells #[vi vk lo,vi vk hi] 31));have d1: -5400000≤lo:=h0;have d2:hi≤5400000:=h2;go_enter func116,ntmps116;go_wp2_with fail;(with_reducible refine(KV.out _).mono ?_)
 rintro e w1 ⟨rfl,hb1⟩
 have B1:=hid (B0.out.trans (hb1.mono B0.out.size));obtain⟨at1,a0,a1,af0,af1⟩:=T1.out.below hb1 T1.out.lt;clear hb1;go_wp2;go_ret;exact⟨ret_bool (by simp),B1.out⟩
theorem cValid_yes(a b c:Int×Int)(w:World)(ha: -5400000≤a.1∧a.1≤a.2∧a.2≤5400000)(hb: -5400000≤b.1∧b.1≤b.2∧b.2≤5400000)(hc:avB c.1 c.2=true):
 Calls Tryz.prog 79 #[.agg #[vi vk a.1,vi vk a.2,vi vk b.1,vi vk b.2,vi vk c.1,vi vk c.2]] w fun e w'=>e=.returned (.bool true)∧Below w.heap.size w w':=by
 have K1:=hid (fun W=>clat_yes a.1 a.2 W ha.1 ha.2.1 ha.2.2);have K2:=hid (fun W=>clat_yes b.1 b.2 W hb.1 hb.2.1 hb.2.2);have K3:=hid (fun W=>aValid_any c.1 c.2 W);rw[hc] at K3;obtain⟨a0,a1⟩:=a;obtain⟨b0,b1⟩:=b;obtain⟨c0,c1⟩:=c;simp only[] at K1 K2 K3⊢;clear ha hb hc;have T1:=hid (C6.new w a0 a1 b0 b1 c0 c1 66);have B0:=hid (bl_alloc w (.cells #[vi vk a0,vi vk a1,vi vk b0,vi vk b1,vi vk c0,vi vk c1] 66));go_enter func79,ntmps79;go_wp2_with fail;(with_reducible refine(K1.out _).mono ?_)
 rintro e w1 ⟨rfl,hb1⟩
 have B1:=hid (B0.out.trans (hb1.mono B0.out.size));have T2:=hid (T1.out.below hb1 T1.out.lt);clear hb1 T1 B0;obtain⟨tl,x0,x1,x2,x3,x4,x5⟩:=T2.out;go_wp2_with fail;(with_reducible refine(K2.out _).mono ?_)
 rintro e w2 ⟨rfl,hb2⟩
 have B2:=hid (B1.out.trans (hb2.mono B1.out.size));clear tl x0 x1 x2 x3 x4 x5;obtain⟨tl,x0,x1,x2,x3,x4,x5⟩:=T2.out.below hb2 T2.out.lt;clear hb2;go_wp2_with fail;(with_reducible refine(K3.out _).mono ?_)
 rintro e w3 ⟨rfl,hb3⟩
 have B3:=hid (B2.out.trans (hb3.mono B2.out.size));clear hb3;go_wp2;go_ret;exact⟨rfl,B3.out⟩
theorem Altitude_yes(a b c:Int×Int)(w:World)(ha: -5400000≤a.1∧a.1≤a.2∧a.2≤5400000)(hb: -5400000≤b.1∧b.1≤b.2∧b.2≤5400000)(hc:avB c.1 c.2=true)(h3:(Trig.sinT a b c).1≤1073741824)(h4: -1073741824≤(Trig.sinT a b c).2):
 Calls Tryz.prog 43 #[.agg #[vi vk a.1,vi vk a.2,vi vk b.1,vi vk b.2,vi vk c.1,vi vk c.2]] w fun e w'=>e=.returned (.tuple #[.agg #[vi vk (Trig.asnV (max (Trig.sinT a b c).1 (-1073741824))),vi vk (-Trig.asnV (-(min (Trig.sinT a b c).2 1073741824)))],vi vk 0])∧Below w.heap.size w w':=by
 have KV:=hid (fun W=>cValid_yes a b c W ha hb hc);have KA:=hid (fun W=>altitude_yes a b c W (avB_true.2 om_) (avB_true.2 om_) hc h3 h4);generalize Trig.asnV (max (Trig.sinT a b c).1 (-1073741824))=r0 at*;generalize-Trig.asnV (-(min (Trig.sinT a b c).2 1073741824))=r1 at*;obtain⟨a0,a1⟩:=a;obtain⟨b0,b1⟩:=b;obtain⟨c0,c1⟩:=c;simp only[] at KV KA⊢;clear ha hb hc h3 h4;have T1:=hid ((C6.new w a0 a1 b0 b1 c0 c1 66).below (bl_alloc _ (.cells #[vi vk 0,vi vk 0] 31)) (by simp));have TR:Hid (D2 ((w.alloc (.cells #[vi vk a0,vi vk a1,vi vk b0,vi vk b1,vi vk c0,vi vk c1] 66)).alloc (.cells #[vi vk 0,vi vk 0] 31)) (w.heap.size+1) 0 0):=hid (by
  have:=D2.new (w.alloc (.cells #[vi vk a0,vi vk a1,vi vk b0,vi vk b1,vi vk c0,vi vk c1] 66)) 0 0 31;rwa [World.size_alloc] at this)
 have B0:=hid ((bl_alloc w (.cells #[vi vk a0,vi vk a1,vi vk b0,vi vk b1,vi vk c0,vi vk c1] 66)).alloc (by simp) (.cells #[vi vk 0,vi vk 0] 31));go_enter func43,ntmps43;go_wp2_with fail;(with_reducible refine(KV.out _).mono ?_)
 rintro e w1 ⟨rfl,hb1⟩
 have B1:=hid (B0.out.trans (hb1.mono B0.out.size));have T2:=hid (T1.out.below hb1 T1.out.lt);have R2:=hid (TR.out.below hb1 TR.out.lt);clear hb1 T1 B0 TR;obtain⟨tl,x0,x1,x2,x3,x4,x5⟩:=T2.out;go_wp2_with fail;(with_reducible refine(KA.out _).mono ?_)
 rintro e w2 ⟨rfl,hb2⟩
 have B2:=hid (B1.out.trans (hb2.mono B1.out.size));clear tl x0 x1 x2 x3 x4 x5;obtain⟨rt,ra,rb,rf0,rf1⟩:=R2.out.below hb2 R2.out.lt;clear hb2;go_wp2;refine bodyPost_ret (v:=.tuple #[.agg #[vi vk r0,vi vk r1],vi vk 0]) (by simp[results,results43,go_sem, *];done) rfl ⟨rfl,?_⟩;exact(B2.out.setCell so_ _).setCell so_ _
end Go.Proofs.YtdeiofgddhbdaaaGreat
