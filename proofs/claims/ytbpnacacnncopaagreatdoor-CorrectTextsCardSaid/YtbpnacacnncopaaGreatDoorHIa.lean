/- Walks of Box, Parent, the reference's Parent and Valid, both ValidPoints, index. -/
import Derived.Test.YtbpnacacnncopaaGreatDoorProg
import Derived.Lib.ItoaNum
import Derived.Lib.IndexMore
import Derived.Lib.Repeat
import Derived.Lib.Strings
import Derived.Shelf.Strings.Cut
import Derived.Ground.NamesProg
import Derived.Shelf.Small.Wraps
import Derived.Shelf.Strings.Prefix
import Derived.Shelf.Strings.OnBuilder
import Derived.Shelf.Strings.Repeat
import Derived.Shelf.Strconv.Itoa3
import Derived.Shelf.Strings.Builder1
import Derived.WalkKit
import Derived.WalkSpells
import Derived.WalkLawsBesides
import Derived.Deep.QuietTactic
import Derived.BigQuiet
import Derived.Lib.Hide
import Derived.IntWalk
import Derived.Deep.AppendLies
import Derived.Maps.AppendAt
import Derived.RegionTactic
import Derived.OwnWalk
import Derived.Laws.OwnMore
import Derived.Deep.Draws
import Derived.Laws.BitsAllLaws
import Derived.Laws.BitsLemmas
import Derived.StillTailTactics
import Derived.Deep.LoopGhost
set_option linter.unusedSimpArgs false
set_option linter.unusedVariables false
set_option maxHeartbeats 4000000
set_option maxRecDepth 100000
open Go.RowKit
open Go.Proofs.Tryz
namespace Go.Proofs.YtbpnacacnncopaaGreatDoor
theorem om_{p:Prop}(h:p:=by omega):p:=h
theorem dc_{p:Prop}(h:p:=by decide):p:=h
theorem so_{p:Prop}(h:p:=by simp only[];omega):p:=h
namespace Frm
open Go Go.Lib
abbrev Bs:=List UInt8
def dB(n:Nat):UInt8:=UInt8.ofNat (48+n)
def dg0(n:Nat):Bs:=if n=0 then[] else decDigits n
def dgs(n k:Nat):Bs:=List.replicate (k-(dg0 n).length) 48++dg0 n
theorem dd_small{n:Nat}(h:n<10):decDigits n=[dB n]:=by rw[decDigits,dif_pos h];rfl
theorem dd_big{n:Nat}(h: ¬n<10):decDigits n=decDigits (n/10)++[dB (n%10)]:=by rw[decDigits,dif_neg h];rfl
theorem dg0_step{n:Nat}(h:0<n):dg0 n=dg0 (n/10)++[dB (n%10)]:=by
 unfold dg0;rw[if_neg om_];by_cases h1:n<10
 · rw[if_pos om_,dd_small h1,show n%10=n by omega];rfl
 · rw[if_neg om_,dd_big h1]
theorem dgs_zero:dgs 0 0=[]:=rfl
theorem dgs_step{n k:Nat}(h:0<n∨0<k):dgs n k=dgs (n/10) (k-1)++[dB (n%10)]:=by
 by_cases h0:n=0
 · subst h0
   obtain⟨j,rfl⟩: ∃j,k=j+1:=⟨k-1,om_⟩;unfold dgs dg0;simp[List.replicate_succ'];rfl
 · have e:=dg0_step (n:=n) om_
   unfold dgs;rw[e,List.length_append,List.length_singleton,←List.append_assoc];congr 2
   congr 1
   omega
theorem dgs_pad{n k:Nat}(h:0<k):dgs n k=List.replicate (k-(decDigits n).length) 48++decDigits n:=by
 unfold dgs dg0;by_cases h0:n=0
 · subst h0
   rw[if_pos rfl,dd_small dc_];obtain⟨j,rfl⟩: ∃j,k=j+1:=⟨k-1,om_⟩;simp[List.replicate_succ'];rfl
 · rw[if_neg h0]
theorem dd_pos(n:Nat):0<(decDigits n).length:=by
 by_cases h:n<10
 · rw[dd_small h];simp
 · rw[dd_big h];simp
theorem dgs_one(n:Nat):dgs n 1=decDigits n:=by
 have:=dd_pos n;rw[dgs_pad dc_,show 1-(decDigits n).length=0 by omega];rfl
def textL(n:Int):Bs:=
 (if n<0 then[45] else[])++(decDigits (n.natAbs/60000)++45::(dgs (n.natAbs%60000/1000) 2++46::(if n.natAbs%1000%100=0 then decDigits (n.natAbs%1000/100) else dgs (n.natAbs%1000) 3)))
def isD(c:UInt8):Bool:=decide (48≤c.toNat)&&decide (c.toNat≤57)
def numV(l:Bs):Nat:=l.foldl (fun n c=>min (10*n+(c.toNat-48)) 1125899906842624) 0
def numU(l:Bs):Nat:=l.foldl (fun n c=>10*n+(c.toNat-48)) 0
theorem isD_dB{n:Nat}(h:n<10):isD (dB n)=true∧(dB n).toNat-48=n:=by
 have: ∀n:Fin 10,isD (dB n)=true∧(dB n).toNat-48=n:=by decide
 exact this ⟨n,h⟩
theorem dd_isD(n:Nat): ∀c∈decDigits n,isD c=true:=by
 induction n using Nat.strongRecOn with
 |_ n ih=>
  by_cases h:n<10
  · rw[dd_small h];intro c hc;simp at hc;subst hc;exact(isD_dB h).1
  · rw[dd_big h]
    intro c hc;rcases List.mem_append.1 hc with h1|h1
    · exact ih _ om_ c h1
    · simp at h1;subst h1;exact(isD_dB (Nat.mod_lt _ dc_)).1
theorem dgs_isD(n k:Nat): ∀c∈dgs n k,isD c=true:=by
 intro c hc;unfold dgs dg0 at hc;rcases List.mem_append.1 hc with h1|h1
 · rw[List.mem_replicate] at h1;rw[h1.2];decide
 · split at h1
   · cases h1
   · exact dd_isD n c h1
theorem numU_app(l _m:Bs)(c:UInt8):numU (l++[c])=10*numU l+(c.toNat-48):=by unfold numU;rw[List.foldl_append];rfl
theorem numU_dd(n:Nat):numU (decDigits n)=n:=by
 induction n using Nat.strongRecOn with
 |_ n ih=>
  by_cases h:n<10
  · rw[dd_small h];show 10*0+((dB n).toNat-48)=n;rw[(isD_dB h).2];omega
  · rw[dd_big h,numU_app _ [],ih _ om_,(isD_dB (Nat.mod_lt _ dc_)).2];omega
theorem numU_rep(k:Nat)(l:Bs):numU (List.replicate k 48++l)=numU l:=by
 unfold numU;rw[List.foldl_append];have: ∀k,(List.replicate k (48:UInt8)).foldl (fun n c=>10*n+(c.toNat-48)) 0=0:=by
  intro k;induction k with
  |zero=>rfl
  |succ k ih=>rw[List.replicate_succ,List.foldl_cons];exact ih
 rw[this]
theorem numU_dgs(n k:Nat):numU (dgs n k)=n:=by
 unfold dgs;rw[numU_rep];unfold dg0;split
 · subst_vars;rfl
 · exact numU_dd n
theorem fold_min: ∀(l:Bs) (a:Nat),l.foldl (fun n c=>min (10*n+(c.toNat-48)) 1125899906842624) (min a 1125899906842624)=min (l.foldl (fun n c=>10*n+(c.toNat-48)) a) 1125899906842624
 | [],a=>rfl
 |c::l,a=>by
  rw[List.foldl_cons,List.foldl_cons,←fold_min l,show min (10*min a 1125899906842624+(c.toNat-48)) 1125899906842624=min (10*a+(c.toNat-48)) 1125899906842624 by omega]
theorem numV_min(l:Bs):numV l=min (numU l) 1125899906842624:=by
 have:=fold_min l 0;rw[show min 0 1125899906842624=0 by omega] at this;exact this
theorem numV_app(l:Bs)(c:UInt8):numV (l++[c])=min (10*numV l+(c.toNat-48)) 1125899906842624:=by unfold numV;rw[List.foldl_append];rfl
theorem numV_le(l:Bs):numV l≤1125899906842624:=by rw[numV_min];omega
theorem numU_dg3{l:Bs}(h: ∀c∈l,isD c=true):numU l<10^l.length:=by
 have: ∀(l:Bs) (a:Nat),(∀c∈l,isD c=true)→l.foldl (fun n c=>10*n+(c.toNat-48)) a<(a+1)*10^l.length:=by
  intro l;induction l with
  |nil=>intro a _;simp
  |cons c l ih=>
   intro a h;rw[List.foldl_cons,List.length_cons,Nat.pow_succ];have h1:=ih (10*a+(c.toNat-48)) (fun x hx=>h x (by simp[hx]));have h2:=h c (by simp);unfold isD at h2;rw[Bool.and_eq_true,decide_eq_true_eq,decide_eq_true_eq] at h2;refine Nat.lt_of_lt_of_le h1 ?_;rw[Nat.mul_comm (10^l.length) 10,←Nat.mul_assoc];exact Nat.mul_le_mul_right _ om_
 have:=this l 0 h;rw[show(0+1)*10^l.length=10^l.length by simp] at this;exact this
def digP(l:Bs):Nat×Bool:=if l.all isD then(numV l, !l.isEmpty) else(0,false)
theorem digP_le(l:Bs):(digP l).1≤1125899906842624:=by
 unfold digP;split
 · exact numV_le l
 · exact Nat.zero_le _
theorem digP_of{l:Bs}(h: ∀c∈l,isD c=true)(h0:l≠[])(h1:numU l≤1125899906842624):digP l=(numU l,true):=by
 unfold digP;rw[if_pos (List.all_eq_true.2 h),numV_min,show min (numU l) 1125899906842624=numU l by omega];cases l with
 |nil=>exact absurd rfl h0
 |cons=>rfl
theorem index_one(x:UInt8): ∀(D R:Bs),(∀c∈D,c≠x)→index (D++x::R) [x]=D.length
 | [],R,_=>by
   show index (x::R) [x]=0
   unfold index;rw[if_pos (by simp)]
 |c::D,R,h=>by
  have hc:c≠x:=h c (by simp);have ih:=index_one x D R (fun y hy=>h y (by simp[hy]));show index (c::(D++x::R)) [x]=_
  unfold index;rw[if_neg (by simp;exact hc∘Eq.symm),ih,if_neg (by simp)];simp
theorem cut_one{x:UInt8}{D R:Bs}(h: ∀c∈D,c≠x):cut (D++x::R) [x]=(D,R,true):=by
 unfold cut;rw[index_one x D R h,if_pos om_];simp
theorem dgs_len: ∀(k n:Nat),n<10^k→(dgs n k).length=k
 |0,n,h=>by
  have:n=0:=by simpa using h
  subst this;rfl
 |k+1,n,h=>by
  rw[dgs_step (.inr om_),List.length_append,Nat.add_sub_cancel,dgs_len k (n/10) (by rw[Nat.pow_succ] at h;omega)];rfl
theorem dd_head: ∀(n:Nat),0<n→(decDigits n).head?≠some 48:=by
 intro n;induction n using Nat.strongRecOn with
 |_ n ih=>
  intro h0;by_cases h:n<10
  · rw[dd_small h]
    have: ∀n:Fin 10,0<n.val→[dB n].head?≠some 48:=by decide
    exact this ⟨n,h⟩ h0
  · rw[dd_big h,List.head?_append]
    have:=ih (n/10) om_ om_;have hp:=dd_pos (n/10);cases hd:decDigits (n/10) with
    |nil=>rw[hd] at hp;simp at hp
    |cons a l=>rw[hd] at this;simpa using this
theorem dd_lead(n:Nat): ¬(1<(decDigits n).length∧(decDigits n).head?=some 48):=by
 rintro⟨h1,h2⟩
 by_cases h:0<n
 · exact dd_head n h h2
 · rw[show n=0 by omega,dd_small dc_] at h1
   simp at h1
theorem isD_ne{c:UInt8}(h:isD c=true):c≠45∧c≠46∧c≠32:=by
 refine⟨?_,?_,?_⟩<;>(rintro rfl;revert h;decide)
def endP(neg:Bool)(d m t:Nat):Int×Int:=
 if 1099511627776<d then(0,5) else if 1099511627776<d*60000+m*1000+t then(0,5) else(if neg=true then-((d*60000+m*1000+t:Nat):Int) else((d*60000+m*1000+t:Nat):Int),0)
theorem endP_bd(neg:Bool)(d m t:Nat): -1099511627776≤(endP neg d m t).1∧(endP neg d m t).1≤1099511627776:=by
 unfold endP;split
 · simp
 · split
   · simp
   · rename_i h
     generalize d*60000+m*1000+t=z at h⊢;split<;>(simp only[];omega)
def parseP(s:Bs):Int×Int:=
 let c1:=cut (trimPrefix s [45]) [45]
 let c2:=cut c1.2.1 [46]
 let d:=digP c1.1
 let m:=digP c2.1
 let p:=digP c2.2.1
 if c2.2.2=true∧(p.2=false∨3<c2.2.1.length) then(0,7)
 else if c1.2.2=false∨d.2=false∨m.2=false∨(1<c1.1.length∧c1.1.head?=some 48)∨c2.1.length≠2∨60≤m.1 then(0,7)
 else endP (hasPrefix s [45]) d.1 m.1 (if c2.2.2=true then p.1*10^(3-c2.2.1.length) else 0)
theorem parseP_bd(s:Bs): -1099511627776≤(parseP s).1∧(parseP s).1≤1099511627776:=by
 unfold parseP;simp only[];split
 · simp
 · split
   · simp
   · exact endP_bd _ _ _ _
def bodyL(a:Nat):Bs:=decDigits (a/60000)++45::(dgs (a%60000/1000) 2++46::(if a%1000%100=0 then decDigits (a%1000/100) else dgs (a%1000) 3))
theorem textL_eq(n:Int):textL n=(if n<0 then[45] else[])++bodyL n.natAbs:=rfl
theorem body_head(a:Nat): ∃c l,bodyL a=c::l∧isD c=true:=by
 have hp:=dd_pos (a/60000);have hd:=dd_isD (a/60000);unfold bodyL;cases h:decDigits (a/60000) with
 |nil=>rw[h] at hp;simp at hp
 |cons c l=>exact⟨c,_,rfl,hd c (by rw[h];simp)⟩
theorem trim_text(n:Int):trimPrefix (textL n) [45]=bodyL n.natAbs∧(hasPrefix (textL n) [45]=true↔n<0):=by
 rw[textL_eq];by_cases h:n<0
 · rw[if_pos h]
   unfold trimPrefix hasPrefix;simp[h]
 · rw[if_neg h]
   obtain⟨c,l,he,hc⟩:=body_head n.natAbs;have hne:=(isD_ne hc).1;unfold trimPrefix hasPrefix;rw[he];have:(List.isPrefixOf [45] (c::l))=false:=by
    have hx:((45:UInt8)==c)=false:=by simpa using hne∘Eq.symm
    unfold List.isPrefixOf;rw[hx];rfl
   simp only[List.nil_append,this];simp[h]
def fracL(a:Nat):Bs:=if a%1000%100=0 then decDigits (a%1000/100) else dgs (a%1000) 3
theorem frac_facts(a:Nat):(∀c∈fracL a,isD c=true)∧fracL a≠[]∧(fracL a).length≤3∧numU (fracL a)*10^(3-(fracL a).length)=a%1000:=by
 unfold fracL;split
 · rename_i h
   have h1:a%1000/100<10:=by omega
   refine⟨dd_isD _,?_,?_,?_⟩
   · rw[dd_small h1];simp
   · rw[dd_small h1];simp
   · rw[numU_dd,dd_small h1];simp;omega
 · have hl:(dgs (a%1000) 3).length=3:=dgs_len 3 _ om_
   refine⟨dgs_isD _ _,?_,om_,?_⟩
   · intro h;rw[h] at hl;simp at hl
   · rw[hl,numU_dgs];simp
theorem cut_body(a:Nat):cut (bodyL a) [45]=(decDigits (a/60000),dgs (a%60000/1000) 2++46::fracL a,true)∧cut (dgs (a%60000/1000) 2++46::fracL a) [46]=(dgs (a%60000/1000) 2,fracL a,true):=
 ⟨cut_one fun c hc=>(isD_ne (dd_isD _ c hc)).1,cut_one fun c hc=>(isD_ne (dgs_isD _ _ c hc)).2.1⟩
theorem parseP_text{n:Int}(h:n.natAbs≤1099511627776):parseP (textL n)=(n,0):=by
 obtain⟨h1,h2⟩:=trim_text n;obtain⟨c1,c2⟩:=cut_body n.natAbs;obtain⟨f1,f2,f3,f4⟩:=frac_facts n.natAbs;have hl:(dgs (n.natAbs%60000/1000) 2).length=2:=dgs_len 2 _ om_;have hle:=numU_dg3 f1;have hpw:10^(fracL n.natAbs).length≤10^3:=Nat.pow_le_pow_right dc_ f3;have d1:=digP_of (dd_isD (n.natAbs/60000)) (by intro h;have:=dd_pos (n.natAbs/60000);rw[h] at this;simp at this) (by rw[numU_dd];omega);have d2:=digP_of (dgs_isD (n.natAbs%60000/1000) 2) (by intro h;rw[h] at hl;simp at hl) (by rw[numU_dgs];omega);have d3:=digP_of f1 f2 om_;rw[numU_dd] at d1;rw[numU_dgs] at d2;unfold parseP;simp only[h1,c1,c2,d1,d2,d3,hl,f4];rw[if_neg (by simp;omega),if_neg (by simp only[Bool.true_eq_false,false_or,ne_eq,not_true];have:=dd_lead (n.natAbs/60000);rintro(h|h);exact this h;omega)];unfold endP;simp only[if_true];rw[if_neg om_,if_neg om_];by_cases hn:n<0
 · rw[if_pos (h2.2 hn)]
   congr 1
   omega
 · rw[if_neg (fun h=>hn (h2.1 h))]
   congr 1
   omega
def numC(l:Bs):Nat:=l.foldl (fun d c=>if d≤1099511627776 then 10*d+(c.toNat-48) else d) 0
def fracR:Nat→Bs→Nat
 |_,[]=>0
 |u,c::l=>u*(c.toNat-48)+fracR (u/10) l
def finR(neg:Bool)(d m f:Nat):Int×Int:=
 if 18325193<d then(0,5) else if 1099511627776<d*60000+m*1000+f then(0,5) else(if neg=true then-((d*60000+m*1000+f:Nat):Int) else((d*60000+m*1000+f:Nat):Int),0)
def restR(neg:Bool)(d:Nat):Bs→Int×Int
 |x::y::z::r=>
  if x≠45∨isD y=false∨isD z=false∨53<y.toNat then(0,7)
  else match r with
   | []=>finR neg d (10*(y.toNat-48)+(z.toNat-48)) 0
   |p::q=>if p≠46∨q=[]∨3<q.length∨q.all isD=false then(0,7) else finR neg d (10*(y.toNat-48)+(z.toNat-48)) (fracR 100 q)
 |_=>(0,7)
def parseR(s:Bs):Int×Int:=
 let b:=if s.head?=some 45 then s.drop 1 else s
 let D:=b.takeWhile isD
 if D=[]∨(1<D.length∧D.head?=some 48) then(0,7) else restR (decide (s.head?=some 45)) (numC D) (b.dropWhile isD)
theorem finR_bd(neg:Bool)(d m f:Nat): -1099511627776≤(finR neg d m f).1∧(finR neg d m f).1≤1099511627776:=by
 unfold finR;split
 · simp
 · split
   · simp
   · rename_i h
     generalize d*60000+m*1000+f=z at h⊢;split<;>(simp only[];omega)
theorem restR_bd(neg:Bool)(d:Nat)(l:Bs): -1099511627776≤(restR neg d l).1∧(restR neg d l).1≤1099511627776:=by
 unfold restR;split
 · split
   · simp
   · split
     · exact finR_bd _ _ _ _
     · split
       · simp
       · exact finR_bd _ _ _ _
 · simp
theorem parseR_bd(s:Bs): -1099511627776≤(parseR s).1∧(parseR s).1≤1099511627776:=by
 unfold parseR;simp only[];generalize (if s.head?=some 45 then s.drop 1 else s)=b;split
 · simp
 · exact restR_bd _ _ _
theorem take_app{D R:Bs}{x:UInt8}(h: ∀c∈D,isD c=true)(hx:isD x=false):(D++x::R).takeWhile isD=D∧(D++x::R).dropWhile isD=x::R:=by
 induction D with
 |nil=>simp[hx]
 |cons c l ih=>
  have h1:=h c (by simp);have:=ih (fun y hy=>h y (by simp[hy]));simp[h1,this]
theorem numC_dd(n:Nat)(h:n≤1099511627776):numC (decDigits n)=n:=by
 induction n using Nat.strongRecOn with
 |_ n ih=>
  by_cases h1:n<10
  · rw[dd_small h1];show(if 0≤1099511627776 then 10*0+((dB n).toNat-48) else 0)=n;rw[if_pos dc_,(isD_dB h1).2];omega
  · have e:numC (decDigits (n/10)++[dB (n%10)])=(if numC (decDigits (n/10))≤1099511627776 then 10*numC (decDigits (n/10))+((dB (n%10)).toNat-48) else numC (decDigits (n/10))):=by unfold numC;rw[List.foldl_append];rfl
    rw[dd_big h1,e,ih _ om_ om_,if_pos om_,(isD_dB (Nat.mod_lt _ dc_)).2];omega
theorem dgs2{n:Nat}(h:n<60): ∃y z,dgs n 2=[y,z]∧isD y=true∧isD z=true∧ ¬53<y.toNat∧10*(y.toNat-48)+(z.toNat-48)=n:=by
 refine⟨dB (n/10),dB (n%10),?_,(isD_dB om_).1,(isD_dB om_).1,?_,?_⟩
 · rw[dgs_step (.inr dc_),dgs_step (.inr dc_)]
   rw[show n/10/10=0 by omega,show n/10%10=n/10 by omega];rfl
 · have: ∀n:Fin 6,¬53<(dB n).toNat:=by decide
   exact this ⟨n/10,om_⟩
 · rw[(isD_dB (n:=n/10) om_).2,(isD_dB (n:=n%10) om_).2];omega
theorem frac_R(a:Nat):fracR 100 (fracL a)=a%1000:=by
 unfold fracL;split
 · rename_i h
   rw[dd_small om_];show 100*((dB (a%1000/100)).toNat-48)+0=_
   rw[(isD_dB om_).2];omega
 · rw[dgs_step (.inr dc_),dgs_step (.inr dc_),dgs_step (.inr dc_)]
   rw[show a%1000/10/10/10=0 by omega];show 100*((dB (a%1000/10/10%10)).toNat-48)+(10*((dB (a%1000/10%10)).toNat-48)+(1*((dB (a%1000%10)).toNat-48)+0))=_
   rw[(isD_dB om_).2,(isD_dB om_).2,(isD_dB om_).2];omega
theorem parseR_text{n:Int}(h:n.natAbs≤1099511627776):parseR (textL n)=(n,0):=by
 have hb:(if (textL n).head?=some 45 then(textL n).drop 1 else textL n)=bodyL n.natAbs∧decide ((textL n).head?=some 45)=decide (n<0):=by
  rw[textL_eq];by_cases h:n<0
  · rw[if_pos h];simp[h]
  · rw[if_neg h]
    obtain⟨c,l,he,hc⟩:=body_head n.natAbs;have hne:=(isD_ne hc).1;rw[he];simp[hne,h]
 obtain⟨f1,f2,f3,-⟩:=frac_facts n.natAbs;obtain⟨y,z,e1,e2,e3,e4,e5⟩:=dgs2 (n:=n.natAbs%60000/1000) om_;have hB:bodyL n.natAbs=decDigits (n.natAbs/60000)++45::(dgs (n.natAbs%60000/1000) 2++46::fracL n.natAbs):=rfl;have ht:=take_app (D:=decDigits (n.natAbs/60000)) (R:=dgs (n.natAbs%60000/1000) 2++46::fracL n.natAbs) (x:=45) (dd_isD _) dc_;rw[←hB] at ht;have h0:=dd_pos (n.natAbs/60000);unfold parseR;simp only[hb.1,hb.2,ht.1,ht.2];rw[if_neg (by rintro(h|h);rw[h] at h0;simp at h0;exact dd_lead _ h),numC_dd _ om_,e1];show(if (45:UInt8)≠45∨isD y=false∨isD z=false∨53<y.toNat then((0,7):Int×Int) else if (46:UInt8)≠46∨fracL n.natAbs=[]∨3<(fracL n.natAbs).length∨(fracL n.natAbs).all isD=false then(0,7) else finR (decide (n<0)) (n.natAbs/60000) (10*(y.toNat-48)+(z.toNat-48)) (fracR 100 (fracL n.natAbs)))=_
 rw[if_neg (by simp[e2,e3,e4])];rw[if_neg (by
  have:(fracL n.natAbs).all isD=true:=List.all_eq_true.2 f1;simp only[ne_eq,not_true,false_or,this,Bool.true_eq_false,or_false];rintro(h|h)
  · exact f2 h
  · omega),e5,frac_R]
 unfold finR;rw[if_neg om_,if_neg om_];by_cases hn:n<0
 · simp only[hn,decide_true,if_true];congr 1;omega
 · simp only[hn,decide_false,Bool.false_eq_true,if_false];congr 1;omega
theorem dd_len: ∀(k n:Nat),n<10^(k+1)→(decDigits n).length≤k+1
 |0,n,h=>by rw[dd_small (by simpa using h)];simp
 |k+1,n,h=>by
  by_cases h1:n<10
  · rw[dd_small h1];simp
  · rw[dd_big h1,List.length_append]
    have:=dd_len k (n/10) (by rw[Nat.pow_succ] at h;omega);simp only[List.length_singleton];omega
theorem itoa_nat(n:Nat):itoa (n:Int)=decDigits n:=by
 unfold itoa;rw[if_neg om_];rfl
theorem dgs_len_le(n k:Nat)(h:n<10^8)(hk:k≤8):(dgs n k).length≤16:=by
 unfold dgs dg0;rw[List.length_append,List.length_replicate];split
 · simp;omega
 · have:=dd_len 7 n (by simpa using h)
   omega
theorem text_len{n:Int}(h:n.natAbs≤1099511627776):(textL n).length≤40:=by
 have h1:=dd_len 7 (n.natAbs/60000) om_;have h2:(dgs (n.natAbs%60000/1000) 2).length=2:=dgs_len 2 _ om_;have h3:=(frac_facts n.natAbs).2.2.1;have hs:(if n<0 then[45] else([]:Bs)).length≤1:=by split<;>simp
 unfold fracL at h3;unfold textL;rw[List.length_append,List.length_append,List.length_cons,List.length_append,List.length_cons];omega
end Frm
namespace Frm
open Go Go.Lib
theorem text_sp(n:Int): ∀c∈textL n,c≠32:=by
 intro c hc;unfold textL at hc;rcases List.mem_append.1 hc with h|h
 · split at h
   · simp at h;subst h;decide
   · cases h
 rcases List.mem_append.1 h with h|h
 · exact(isD_ne (dd_isD _ c h)).2.2
 rcases List.mem_cons.1 h with h|h
 · subst h;decide
 rcases List.mem_append.1 h with h|h
 · exact(isD_ne (dgs_isD _ _ c h)).2.2
 rcases List.mem_cons.1 h with h|h
 · subst h;decide
 split at h
 · exact(isD_ne (dd_isD _ c h)).2.2
 · exact(isD_ne (dgs_isD _ _ c h)).2.2
end Frm
end Go.Proofs.YtbpnacacnncopaaGreatDoor
namespace Go.Proofs
open Go.Shelf
def Tryz.lays145_ren:Go.Shelf.Ren:=⟨fun|145=>122|220=>175|219=>174|217=>210|225=>211|224=>212|267=>213|266=>231|314=>232|n=>n,fun|9=>9|4=>4|59=>147|3=>3|5=>5|46=>90|146=>219|51=>207|n=>n,fun|1=>1|n=>n⟩
theorem Tryz.lays145:Go.Proofs.Lays.n145 Tryz.prog Tryz.lays145_ren:={
 mixed:=by kernel_rfl
 f145:=Tryz.func122.trans (congrArg some (by kernel_rfl))
 f217:=Tryz.func210.trans (congrArg some (by kernel_rfl))
 f219:=Tryz.func174.trans (congrArg some (by kernel_rfl))
 f220:=Tryz.func175.trans (congrArg some (by kernel_rfl))
 f224:=Tryz.func212.trans (congrArg some (by kernel_rfl))
 f225:=Tryz.func211.trans (congrArg some (by kernel_rfl))
 f266:=Tryz.func231.trans (congrArg some (by kernel_rfl))
 f267:=Tryz.func213.trans (congrArg some (by kernel_rfl))
 f314:=Tryz.func232.trans (congrArg some (by kernel_rfl))
 t3:=underlying3
 a3:=Tryz.isAgg3
 z3:=Tryz.sizeOf3
 v3:=Tryz.zeroValue3
 t4:=underlying4
 a4:=Tryz.isAgg4
 z4:=Tryz.sizeOf4
 v4:=Tryz.zeroValue4
 t5:=underlying5
 a5:=Tryz.isAgg5
 z5:=Tryz.sizeOf5
 v5:=Tryz.zeroValue5
 t9:=underlying9
 a9:=Tryz.isAgg9
 z9:=Tryz.sizeOf9
 v9:=Tryz.zeroValue9
 t46:=underlying90
 a46:=Tryz.isAgg90
 z46:=Tryz.sizeOf90
 v46:=Tryz.zeroValue90
 t51:=underlying207
 a51:=Tryz.isAgg207
 z51:=Tryz.sizeOf207
 v51:=Tryz.zeroValue207
 t59:=underlying147
 a59:=Tryz.isAgg147
 z59:=Tryz.sizeOf147
 v59:=Tryz.zeroValue147
 t146:=underlying219
 a146:=Tryz.isAgg219
 z146:=Tryz.sizeOf219
 v146:=Tryz.zeroValue219
 g1:=by kernel_rfl}
def Tryz.lays103_ren:Go.Shelf.Ren:=⟨fun|103=>126|210=>178|206=>215|n=>n,fun|9=>9|4=>4|24=>151|3=>3|n=>n,fun|n=>n⟩
theorem Tryz.lays103:Go.Proofs.Lays.n103 Tryz.prog Tryz.lays103_ren:={
 mixed:=by kernel_rfl
 f103:=Tryz.func126.trans (congrArg some (by kernel_rfl))
 f206:=Tryz.func215.trans (congrArg some (by kernel_rfl))
 f210:=Tryz.func178.trans (congrArg some (by kernel_rfl))
 t3:=underlying3
 a3:=Tryz.isAgg3
 z3:=Tryz.sizeOf3
 v3:=Tryz.zeroValue3
 t4:=underlying4
 a4:=Tryz.isAgg4
 z4:=Tryz.sizeOf4
 v4:=Tryz.zeroValue4
 t9:=underlying9
 a9:=Tryz.isAgg9
 z9:=Tryz.sizeOf9
 v9:=Tryz.zeroValue9
 t24:=underlying151
 a24:=Tryz.isAgg151
 z24:=Tryz.sizeOf151
 v24:=Tryz.zeroValue151}
def Tryz.lays156_ren:Go.Shelf.Ren:=⟨fun|156=>26|165=>70|166=>71|169=>72|240=>111|241=>112|276=>166|277=>167|n=>n,fun|31=>61|9=>9|3=>3|4=>4|0=>0|20=>20|72=>108|76=>112|70=>105|37=>106|75=>111|127=>142|164=>180|5=>5|80=>75|n=>n,fun|n=>n⟩
theorem Tryz.lays156:Go.Proofs.Lays.n156 Tryz.prog Tryz.lays156_ren:={
 mixed:=by kernel_rfl
 f156:=Tryz.func26.trans (congrArg some (by kernel_rfl))
 f165:=Tryz.func70.trans (congrArg some (by kernel_rfl))
 f166:=Tryz.func71.trans (congrArg some (by kernel_rfl))
 f169:=Tryz.func72.trans (congrArg some (by kernel_rfl))
 f240:=Tryz.func111.trans (congrArg some (by kernel_rfl))
 f241:=Tryz.func112.trans (congrArg some (by kernel_rfl))
 f276:=Tryz.func166.trans (congrArg some (by kernel_rfl))
 f277:=Tryz.func167.trans (congrArg some (by kernel_rfl))
 t0:=underlying0
 a0:=Tryz.isAgg0
 z0:=Tryz.sizeOf0
 v0:=Tryz.zeroValue0
 t3:=underlying3
 a3:=Tryz.isAgg3
 z3:=Tryz.sizeOf3
 v3:=Tryz.zeroValue3
 t4:=underlying4
 a4:=Tryz.isAgg4
 z4:=Tryz.sizeOf4
 v4:=Tryz.zeroValue4
 t9:=underlying9
 a9:=Tryz.isAgg9
 z9:=Tryz.sizeOf9
 v9:=Tryz.zeroValue9
 t20:=underlying20
 a20:=Tryz.isAgg20
 z20:=Tryz.sizeOf20
 v20:=Tryz.zeroValue20
 t31:=underlying61
 a31:=Tryz.isAgg61
 z31:=Tryz.sizeOf61
 v31:=Tryz.zeroValue61
 t37:=underlying106
 a37:=Tryz.isAgg106
 z37:=Tryz.sizeOf106
 v37:=Tryz.zeroValue106
 t70:=underlying105
 a70:=Tryz.isAgg105
 z70:=Tryz.sizeOf105
 v70:=Tryz.zeroValue105
 t72:=underlying108
 a72:=Tryz.isAgg108
 z72:=Tryz.sizeOf108
 v72:=Tryz.zeroValue108
 t75:=underlying111
 a75:=Tryz.isAgg111
 z75:=Tryz.sizeOf111
 v75:=Tryz.zeroValue111
 t76:=underlying112
 a76:=Tryz.isAgg112
 z76:=Tryz.sizeOf112
 v76:=Tryz.zeroValue112
 t127:=underlying142
 a127:=Tryz.isAgg142
 z127:=Tryz.sizeOf142
 v127:=Tryz.zeroValue142
 t164:=underlying180
 a164:=Tryz.isAgg180
 z164:=Tryz.sizeOf180
 v164:=Tryz.zeroValue180}
theorem Tryz.Builder_Extra_156:Builder.Extra Tryz.prog Tryz.lays156_ren:={
 sizeBuilder:=by kernel_rfl
 liesBuilder:=by kernel_rfl
 t5:=underlying5
 a5:=Tryz.isAgg5
 z5:=Tryz.sizeOf5
 v5:=Tryz.zeroValue5
 infoByte:=by kernel_rfl
 cellsByte:=by kernel_rfl
 sizeByte:=by kernel_rfl
 neB5:=by decide}
def Tryz.lays105_ren:Go.Shelf.Ren:=⟨fun|105=>161|212=>198|99=>199|165=>70|166=>71|170=>200|169=>72|263=>227|264=>228|206=>215|240=>111|241=>112|276=>166|277=>167|n=>n,fun|9=>9|3=>3|4=>4|20=>20|0=>0|46=>90|109=>202|5=>5|72=>108|76=>112|51=>207|146=>219|53=>175|148=>221|70=>105|37=>106|75=>111|127=>142|164=>180|80=>75|n=>n,fun|n=>n⟩
theorem Tryz.lays105:Go.Proofs.Lays.n105 Tryz.prog Tryz.lays105_ren:={
 mixed:=by kernel_rfl
 f99:=Tryz.func199.trans (congrArg some (by kernel_rfl))
 f105:=Tryz.func161.trans (congrArg some (by kernel_rfl))
 f165:=Tryz.func70.trans (congrArg some (by kernel_rfl))
 f166:=Tryz.func71.trans (congrArg some (by kernel_rfl))
 f169:=Tryz.func72.trans (congrArg some (by kernel_rfl))
 f170:=Tryz.func200.trans (congrArg some (by kernel_rfl))
 f206:=Tryz.func215.trans (congrArg some (by kernel_rfl))
 f212:=Tryz.func198.trans (congrArg some (by kernel_rfl))
 f240:=Tryz.func111.trans (congrArg some (by kernel_rfl))
 f241:=Tryz.func112.trans (congrArg some (by kernel_rfl))
 f263:=Tryz.func227.trans (congrArg some (by kernel_rfl))
 f264:=Tryz.func228.trans (congrArg some (by kernel_rfl))
 f276:=Tryz.func166.trans (congrArg some (by kernel_rfl))
 f277:=Tryz.func167.trans (congrArg some (by kernel_rfl))
 t0:=underlying0
 a0:=Tryz.isAgg0
 z0:=Tryz.sizeOf0
 v0:=Tryz.zeroValue0
 t3:=underlying3
 a3:=Tryz.isAgg3
 z3:=Tryz.sizeOf3
 v3:=Tryz.zeroValue3
 t4:=underlying4
 a4:=Tryz.isAgg4
 z4:=Tryz.sizeOf4
 v4:=Tryz.zeroValue4
 t5:=underlying5
 a5:=Tryz.isAgg5
 z5:=Tryz.sizeOf5
 v5:=Tryz.zeroValue5
 t9:=underlying9
 a9:=Tryz.isAgg9
 z9:=Tryz.sizeOf9
 v9:=Tryz.zeroValue9
 t20:=underlying20
 a20:=Tryz.isAgg20
 z20:=Tryz.sizeOf20
 v20:=Tryz.zeroValue20
 t37:=underlying106
 a37:=Tryz.isAgg106
 z37:=Tryz.sizeOf106
 v37:=Tryz.zeroValue106
 t46:=underlying90
 a46:=Tryz.isAgg90
 z46:=Tryz.sizeOf90
 v46:=Tryz.zeroValue90
 t51:=underlying207
 a51:=Tryz.isAgg207
 z51:=Tryz.sizeOf207
 v51:=Tryz.zeroValue207
 t53:=underlying175
 a53:=Tryz.isAgg175
 z53:=Tryz.sizeOf175
 v53:=Tryz.zeroValue175
 t70:=underlying105
 a70:=Tryz.isAgg105
 z70:=Tryz.sizeOf105
 v70:=Tryz.zeroValue105
 t72:=underlying108
 a72:=Tryz.isAgg108
 z72:=Tryz.sizeOf108
 v72:=Tryz.zeroValue108
 t75:=underlying111
 a75:=Tryz.isAgg111
 z75:=Tryz.sizeOf111
 v75:=Tryz.zeroValue111
 t76:=underlying112
 a76:=Tryz.isAgg112
 z76:=Tryz.sizeOf112
 v76:=Tryz.zeroValue112
 t109:=underlying202
 a109:=Tryz.isAgg202
 z109:=Tryz.sizeOf202
 v109:=Tryz.zeroValue202
 t127:=underlying142
 a127:=Tryz.isAgg142
 z127:=Tryz.sizeOf142
 v127:=Tryz.zeroValue142
 t146:=underlying219
 a146:=Tryz.isAgg219
 z146:=Tryz.sizeOf219
 v146:=Tryz.zeroValue219
 t148:=underlying221
 a148:=Tryz.isAgg221
 z148:=Tryz.sizeOf221
 v148:=Tryz.zeroValue221
 t164:=underlying180
 a164:=Tryz.isAgg180
 z164:=Tryz.sizeOf180
 v164:=Tryz.zeroValue180}
theorem Tryz.Builder_Extra_105:Builder.Extra Tryz.prog Tryz.lays105_ren:={
 sizeBuilder:=by kernel_rfl
 liesBuilder:=by kernel_rfl
 t5:=underlying5
 a5:=Tryz.isAgg5
 z5:=Tryz.sizeOf5
 v5:=Tryz.zeroValue5
 infoByte:=by kernel_rfl
 cellsByte:=by kernel_rfl
 sizeByte:=by kernel_rfl
 neB5:=by decide}
def Tryz.lays171_ren:Go.Shelf.Ren:=⟨fun|171=>25|243=>69|246=>110|283=>162|284=>163|285=>164|286=>165|129=>202|317=>201|318=>203|319=>204|320=>205|337=>229|338=>230|n=>n,fun|3=>3|9=>9|2=>2|4=>4|171=>174|0=>0|53=>175|37=>106|5=>5|173=>178|212=>206|51=>207|20=>20|213=>208|46=>90|232=>242|233=>243|n=>n,fun|17=>0|18=>6|19=>7|n=>n⟩
theorem Tryz.lays171:Go.Proofs.LaysM.n171 Tryz.prog Tryz.lays171_ren:={
 mixed:=by kernel_rfl
 f129:=Tryz.func202.trans (congrArg some (by kernel_rfl))
 f171:=Tryz.func25.trans (congrArg some (by kernel_rfl))
 f243:=Tryz.func69.trans (congrArg some (by kernel_rfl))
 f246:=Tryz.func110.trans (congrArg some (by kernel_rfl))
 f283:=Tryz.func162.trans (congrArg some (by kernel_rfl))
 f284:=Tryz.func163.trans (congrArg some (by kernel_rfl))
 f285:=Tryz.func164.trans (congrArg some (by kernel_rfl))
 f286:=Tryz.func165.trans (congrArg some (by kernel_rfl))
 f317:=Tryz.func201.trans (congrArg some (by kernel_rfl))
 f318:=Tryz.func203.trans (congrArg some (by kernel_rfl))
 f319:=Tryz.func204.trans (congrArg some (by kernel_rfl))
 f320:=Tryz.func205.trans (congrArg some (by kernel_rfl))
 f337:=Tryz.func229.trans (congrArg some (by kernel_rfl))
 f338:=Tryz.func230.trans (congrArg some (by kernel_rfl))
 t0:=underlying0
 a0:=Tryz.isAgg0
 z0:=Tryz.sizeOf0
 v0:=Tryz.zeroValue0
 t2:=underlying2
 a2:=Tryz.isAgg2
 z2:=Tryz.sizeOf2
 v2:=Tryz.zeroValue2
 t3:=underlying3
 a3:=Tryz.isAgg3
 z3:=Tryz.sizeOf3
 v3:=Tryz.zeroValue3
 t4:=underlying4
 a4:=Tryz.isAgg4
 z4:=Tryz.sizeOf4
 v4:=Tryz.zeroValue4
 t5:=underlying5
 a5:=Tryz.isAgg5
 z5:=Tryz.sizeOf5
 v5:=Tryz.zeroValue5
 t9:=underlying9
 a9:=Tryz.isAgg9
 z9:=Tryz.sizeOf9
 v9:=Tryz.zeroValue9
 t20:=underlying20
 a20:=Tryz.isAgg20
 z20:=Tryz.sizeOf20
 v20:=Tryz.zeroValue20
 t37:=underlying106
 a37:=Tryz.isAgg106
 z37:=Tryz.sizeOf106
 v37:=Tryz.zeroValue106
 t46:=underlying90
 a46:=Tryz.isAgg90
 z46:=Tryz.sizeOf90
 v46:=Tryz.zeroValue90
 t51:=underlying207
 a51:=Tryz.isAgg207
 z51:=Tryz.sizeOf207
 v51:=Tryz.zeroValue207
 t53:=underlying175
 a53:=Tryz.isAgg175
 z53:=Tryz.sizeOf175
 v53:=Tryz.zeroValue175
 t171:=underlying174
 a171:=Tryz.isAgg174
 z171:=Tryz.sizeOf174
 v171:=Tryz.zeroValue174
 t173:=underlying178
 a173:=Tryz.isAgg178
 z173:=Tryz.sizeOf178
 v173:=Tryz.zeroValue178
 t212:=underlying206
 a212:=Tryz.isAgg206
 z212:=Tryz.sizeOf206
 v212:=Tryz.zeroValue206
 t213:=underlying208
 a213:=Tryz.isAgg208
 z213:=Tryz.sizeOf208
 t232:=underlying242
 a232:=Tryz.isAgg242
 z232:=Tryz.sizeOf242
 v232:=Tryz.zeroValue242
 t233:=underlying243
 a233:=Tryz.isAgg243
 z233:=Tryz.sizeOf243
 v233:=Tryz.zeroValue243
 g17:=by kernel_rfl
 g18:=by kernel_rfl
 g19:=by kernel_rfl
 i0:=by kernel_rfl
 i2:=by kernel_rfl
 i3:=by kernel_rfl
 i4:=by kernel_rfl
 i5:=by kernel_rfl
 i9:=by kernel_rfl
 i20:=by kernel_rfl
 i37:=by kernel_rfl
 i46:=by kernel_rfl
 i51:=by kernel_rfl
 i53:=by kernel_rfl
 i171:=by kernel_rfl
 i173:=by kernel_rfl
 i212:=by kernel_rfl
 i232:=by kernel_rfl
 i233:=by kernel_rfl
 m17:=by kernel_rfl
 m18:=by kernel_rfl
 m19:=by kernel_rfl}
def Tryz.lays169_ren:Go.Shelf.Ren:=⟨fun|169=>72|n=>n,fun|70=>105|9=>9|0=>0|72=>108|37=>106|127=>142|3=>3|5=>5|n=>n,fun|n=>n⟩
theorem Tryz.lays169:Go.Proofs.Lays.n169 Tryz.prog Tryz.lays169_ren:={
 mixed:=by kernel_rfl
 f169:=Tryz.func72.trans (congrArg some (by kernel_rfl))
 t0:=underlying0
 a0:=Tryz.isAgg0
 z0:=Tryz.sizeOf0
 v0:=Tryz.zeroValue0
 t3:=underlying3
 a3:=Tryz.isAgg3
 z3:=Tryz.sizeOf3
 v3:=Tryz.zeroValue3
 t9:=underlying9
 a9:=Tryz.isAgg9
 z9:=Tryz.sizeOf9
 v9:=Tryz.zeroValue9
 t37:=underlying106
 a37:=Tryz.isAgg106
 z37:=Tryz.sizeOf106
 v37:=Tryz.zeroValue106
 t70:=underlying105
 a70:=Tryz.isAgg105
 z70:=Tryz.sizeOf105
 v70:=Tryz.zeroValue105
 t72:=underlying108
 a72:=Tryz.isAgg108
 z72:=Tryz.sizeOf108
 v72:=Tryz.zeroValue108
 t127:=underlying142
 a127:=Tryz.isAgg142
 z127:=Tryz.sizeOf142
 v127:=Tryz.zeroValue142}
theorem Tryz.Builder_Extra_169:Builder.Extra Tryz.prog Tryz.lays169_ren:={
 sizeBuilder:=by kernel_rfl
 liesBuilder:=by kernel_rfl
 t5:=underlying5
 a5:=Tryz.isAgg5
 z5:=Tryz.sizeOf5
 v5:=Tryz.zeroValue5
 infoByte:=by kernel_rfl
 cellsByte:=by kernel_rfl
 sizeByte:=by kernel_rfl
 neB5:=by decide}
end Go.Proofs
namespace Go.Proofs.YtbpnacacnncopaaGreatDoor
end Go.Proofs.YtbpnacacnncopaaGreatDoor
namespace Go.Proofs
open Go.Shelf
def Tryz.lays167_ren:Go.Shelf.Ren:=⟨fun|167=>108|240=>111|276=>166|n=>n,fun|0=>0|4=>4|5=>5|9=>9|20=>20|37=>106|70=>105|72=>108|75=>111|80=>75|164=>180|n=>n,fun|n=>n⟩
theorem Tryz.lays167:Go.Proofs.Lays.n167 Tryz.prog Tryz.lays167_ren:={
 mixed:=by kernel_rfl
 f167:=Tryz.func108.trans (congrArg some (by kernel_rfl))
 f240:=Tryz.func111.trans (congrArg some (by kernel_rfl))
 f276:=Tryz.func166.trans (congrArg some (by kernel_rfl))
 t0:=underlying0
 a0:=Tryz.isAgg0
 z0:=Tryz.sizeOf0
 v0:=Tryz.zeroValue0
 t4:=underlying4
 a4:=Tryz.isAgg4
 z4:=Tryz.sizeOf4
 v4:=Tryz.zeroValue4
 t5:=underlying5
 a5:=Tryz.isAgg5
 z5:=Tryz.sizeOf5
 v5:=Tryz.zeroValue5
 t9:=underlying9
 a9:=Tryz.isAgg9
 z9:=Tryz.sizeOf9
 v9:=Tryz.zeroValue9
 t20:=underlying20
 a20:=Tryz.isAgg20
 z20:=Tryz.sizeOf20
 v20:=Tryz.zeroValue20
 t37:=underlying106
 a37:=Tryz.isAgg106
 z37:=Tryz.sizeOf106
 v37:=Tryz.zeroValue106
 t70:=underlying105
 a70:=Tryz.isAgg105
 z70:=Tryz.sizeOf105
 v70:=Tryz.zeroValue105
 t72:=underlying108
 a72:=Tryz.isAgg108
 z72:=Tryz.sizeOf108
 v72:=Tryz.zeroValue108
 t75:=underlying111
 a75:=Tryz.isAgg111
 z75:=Tryz.sizeOf111
 v75:=Tryz.zeroValue111
 t164:=underlying180
 a164:=Tryz.isAgg180
 z164:=Tryz.sizeOf180
 v164:=Tryz.zeroValue180}
theorem Tryz.Builder_Extra_167:Builder.Extra Tryz.prog Tryz.lays167_ren where
 sizeBuilder:=by kernel_rfl
 liesBuilder:=by kernel_rfl
 t5:=underlying5
 a5:=Tryz.isAgg5
 z5:=Tryz.sizeOf5
 v5:=Tryz.zeroValue5
 infoByte:=by kernel_rfl
 cellsByte:=by kernel_rfl
 sizeByte:=by kernel_rfl
 neB5:=by decide
def Tryz.lays166_ren:Go.Shelf.Ren:=⟨fun|166=>71|240=>111|276=>166|n=>n,fun|0=>0|3=>3|4=>4|5=>5|9=>9|20=>20|37=>106|70=>105|72=>108|75=>111|80=>75|164=>180|n=>n,fun|n=>n⟩
theorem Tryz.lays166:Go.Proofs.Lays.n166 Tryz.prog Tryz.lays166_ren:={
 mixed:=by kernel_rfl
 f166:=Tryz.func71.trans (congrArg some (by kernel_rfl))
 f240:=Tryz.func111.trans (congrArg some (by kernel_rfl))
 f276:=Tryz.func166.trans (congrArg some (by kernel_rfl))
 t0:=underlying0
 a0:=Tryz.isAgg0
 z0:=Tryz.sizeOf0
 v0:=Tryz.zeroValue0
 t3:=underlying3
 a3:=Tryz.isAgg3
 z3:=Tryz.sizeOf3
 v3:=Tryz.zeroValue3
 t4:=underlying4
 a4:=Tryz.isAgg4
 z4:=Tryz.sizeOf4
 v4:=Tryz.zeroValue4
 t9:=underlying9
 a9:=Tryz.isAgg9
 z9:=Tryz.sizeOf9
 v9:=Tryz.zeroValue9
 t20:=underlying20
 a20:=Tryz.isAgg20
 z20:=Tryz.sizeOf20
 v20:=Tryz.zeroValue20
 t37:=underlying106
 a37:=Tryz.isAgg106
 z37:=Tryz.sizeOf106
 v37:=Tryz.zeroValue106
 t70:=underlying105
 a70:=Tryz.isAgg105
 z70:=Tryz.sizeOf105
 v70:=Tryz.zeroValue105
 t72:=underlying108
 a72:=Tryz.isAgg108
 z72:=Tryz.sizeOf108
 v72:=Tryz.zeroValue108
 t75:=underlying111
 a75:=Tryz.isAgg111
 z75:=Tryz.sizeOf111
 v75:=Tryz.zeroValue111
 t164:=underlying180
 a164:=Tryz.isAgg180
 z164:=Tryz.sizeOf180
 v164:=Tryz.zeroValue180}
theorem Tryz.Builder_Extra_166:Builder.Extra Tryz.prog Tryz.lays166_ren where
 sizeBuilder:=by kernel_rfl
 liesBuilder:=by kernel_rfl
 t5:=underlying5
 a5:=Tryz.isAgg5
 z5:=Tryz.sizeOf5
 v5:=Tryz.zeroValue5
 infoByte:=by kernel_rfl
 cellsByte:=by kernel_rfl
 sizeByte:=by kernel_rfl
 neB5:=by decide
end Go.Proofs
namespace Go.Proofs.YtbpnacacnncopaaGreatDoor
theorem bl_drewN{B:Nat}{a w:World}(h:Below B a w)(n:Nat):Below B a (w.drewN n):=⟨h.os,h.tape,h.output,h.size,h.block⟩
theorem bl_{n:Nat}{w w':World}(h:Below n w w':=by repeat (first|exact Below.refl _ _|assumption|refine bl_drew ?_|refine bl_drewN ?_ _|refine Below.setCell ?_ (by first|assumption|omega|(simp;done)|(simp;omega)) _|refine Below.alloc ?_ (by first|assumption|omega|(simp;done)|(simp;omega)) _)):Below n w w':=h
theorem bl_drew{B:Nat}{a w:World}(h:Below B a w):Below B a w.drew:=⟨h.os,h.tape,h.output,h.size,h.block⟩
theorem bl_alloc(w:World)(o:Obj):Below w.heap.size w (w.alloc o):=(Below.refl _ _).alloc (Nat.le_refl _) _
theorem ret_int{k:IntKind}{a b:Int}(h:a=b):Ending.returned (.int k a)=.returned (.int k b):=by rw[h]
theorem two_lt{w w1:World}{o1 o2:Obj}(hb:Below ((w.alloc o1).alloc o2).heap.size ((w.alloc o1).alloc o2) w1):w.heap.size<w1.heap.size∧w.heap.size+1<w1.heap.size:=by
 have:=hb.size;simp at this;omega
theorem two_bl{w w1:World}{o1 o2:Obj}(hb:Below ((w.alloc o1).alloc o2).heap.size ((w.alloc o1).alloc o2) w1):Below w.heap.size w w1:=
 (((Below.refl _ _).alloc (Nat.le_refl _) _).alloc (by simp) _).trans (hb.mono (by simp;omega))
theorem one_lt{w w1:World}{o1:Obj}(hb:Below (w.alloc o1).heap.size (w.alloc o1) w1):w.heap.size<w1.heap.size:=by
 have:=hb.size;simp at this;omega
theorem one_bl{w w1:World}{o1:Obj}(hb:Below (w.alloc o1).heap.size (w.alloc o1) w1):Below w.heap.size w w1:=
 ((Below.refl _ _).alloc (Nat.le_refl _) _).trans (hb.mono (by simp))
end Go.Proofs.YtbpnacacnncopaaGreatDoor
