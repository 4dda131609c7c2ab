/- Which times, angles, places, and names are right: the walks of the small functions below logbook.ValidRecord. -/
import Derived.Lib.AtoiAllCases
import Derived.Laws.StructEq
import Derived.Deep.Cut
import Derived.Test.YtbpnacacnncopaaGreatDoorHWords
set_option linter.unusedSimpArgs false
set_option linter.unusedVariables false
set_option maxHeartbeats 4000000
set_option maxRecDepth 100000
open Go.RowKit
open Go.Lib (hid)
open Go.Proofs.Tryz
open Go.Value renaming int→vi
open Go.IntKind renaming i64→vk
namespace Go.Proofs.YtbpnacacnncopaaGreatDoor
theorem puTm{p:Prop}(h:p:=by simp only[Act.put,List.setIfInBounds_toArray,List.set_cons_zero,List.set_cons_succ]):p:=h
namespace CA
def leap(y:Int):Bool:=decide (y%4=0)&&(!decide (y%100=0)||decide (y%400=0))
def dm(y:Int)(m:Nat):Int:=if m=2 then(if leap y=true then 29 else 28) else if m=4∨m=6∨m=9∨m=11 then 30 else 31
theorem dm_pos(y:Int)(m:Nat):28≤dm y m∧dm y m≤31:=by
 unfold dm;split
 · split<;>omega
 · split<;>omega
def cum(y:Int):Nat→Int
 |0=>0
 |1=>0
 |m+2=>cum y (m+1)+dm y (m+1)
theorem cum_succ(y:Int){m:Nat}(h:1≤m):cum y (m+1)=cum y m+dm y m:=by
 obtain⟨k,rfl⟩: ∃k,m=k+1:=⟨m-1,om_⟩;rfl
theorem cum_mono(y:Int){a b:Nat}(ha:1≤a)(h:a≤b):cum y a≤cum y b:=by
 induction b with
 |zero=>omega
 |succ b ih=>
  by_cases e:a=b+1
  · subst e;exact Int.le_refl _
  · have:=ih om_
    rw[cum_succ y om_];have:=(dm_pos y b).1;omega
theorem cum_lt(y:Int){a b:Nat}(ha:1≤a)(h:a<b):cum y a+dm y a≤cum y b:=by
 rw[←cum_succ y ha];exact cum_mono y om_ h
theorem cum_bd(y:Int)(m:Nat):0≤cum y m∧cum y m≤31*m:=by
 induction m with
 |zero=>exact⟨Int.le_refl _,Int.le_refl _⟩
 |succ m ih=>
  by_cases h:1≤m
  · rw[cum_succ y h]
    have:=dm_pos y m;omega
  · obtain rfl:m=0:=by omega
    exact⟨by show(0:Int)≤0;omega,by show(0:Int)≤_;omega⟩
theorem cum13(y:Int):cum y 13=365+(if leap y=true then 1 else 0):=by
 cases h:leap y<;>simp[cum,dm,h]
def bef(y:Int):Int:=365*(y-1)+(y-1)/4-(y-1)/100+(y-1)/400
theorem bef_succ(y:Int):bef (y+1)=bef y+cum y 13:=by
 rw[cum13];unfold bef leap;by_cases h4:y%4=0<;>by_cases h1:y%100=0<;>by_cases h0:y%400=0<;>simp[h4,h1,h0]<;>omega
theorem bef_mono{a b:Int}(h:a≤b):bef a≤bef b:=by
 obtain⟨k,rfl⟩: ∃k:Nat,b=a+k:=⟨(b-a).toNat,om_⟩;clear h;induction k with
 |zero=>simp
 |succ k ih=>
  have:=bef_succ (a+k);have h13:=cum13 (a+k);have:0≤cum (a+k) 13:=by rw[h13];split<;>omega
  rw[show a+((k+1:Nat):Int)=a+k+1 by omega];omega
theorem bef_lt{a b:Int}(h:a<b):bef a+cum a 13≤bef b:=by
 rw[←bef_succ];exact bef_mono om_
structure Date where
 y:Int
 m:Nat
 d:Int
def vld(x:Date):Prop:=1≤x.y∧x.y≤9999∧1≤x.m∧x.m≤12∧1≤x.d∧x.d≤dm x.y x.m
def num(x:Date):Int:=bef x.y-730119+(cum x.y x.m+x.d)-1
theorem in_year{x:Date}(h:vld x):1≤cum x.y x.m+x.d∧cum x.y x.m+x.d≤cum x.y 13:=by
 obtain⟨-,-,h3,h4,h5,h6⟩:=h;have h1:=(cum_bd x.y x.m).1;have h2:=cum_lt x.y h3 (show x.m<13 by omega);omega
theorem num_inj{x x':Date}(h:vld x)(h':vld x')(he:num x=num x'):x=x':=by
 have a:=in_year h;have a':=in_year h';obtain⟨y,m,d⟩:=x;obtain⟨y',m',d'⟩:=x';unfold num at he;simp only[] at*;have hy:y=y':=by
  rcases Int.lt_trichotomy y y' with hl|hl|hl
  · have:=bef_lt hl;omega
  · exact hl
  · have:=bef_lt hl;omega
 subst hy;obtain⟨-,-,h3,h4,h5,h6⟩:=h;obtain⟨-,-,k3,k4,k5,k6⟩:=h';simp only[] at*;have hm:m=m':=by
  rcases Nat.lt_trichotomy m m' with hl|hl|hl
  · have:=cum_lt y h3 hl;omega
  · exact hl
  · have:=cum_lt y k3 hl;omega
 subst hm;have hd:d=d':=by omega
 subst hd;rfl
theorem bef_2000:bef 2000=730119:=by decide
theorem bef_1:bef 1=0:=by decide
theorem bef_10000:bef 10000=3652059:=by decide
end CA
namespace CT
open Go.Lib Frm SW
def goN:List UInt8→Nat→Option Nat
 | [],n=>some n
 |c::l,n=>if isD c=true then(if 1000<10*n+(c.toNat-48) then none else goN l (10*n+(c.toNat-48))) else none
theorem goN_some: ∀{l:List UInt8} {n k:Nat},goN l n=some k→(∀c∈l,isD c=true)∧k=l.foldl (fun n c=>10*n+(c.toNat-48)) n
 | [],n,k,h=>⟨fun c hc=>by simp at hc,by unfold goN at h;cases h;rfl⟩
 |c::l,n,k,h=>by
  unfold goN at h;split at h
  · rename_i hc
    split at h
    · cases h
    · obtain⟨a,b⟩:=goN_some h
      exact⟨fun y hy=>by rcases List.mem_cons.1 hy with e|e;exact e▸hc;exact a y e,b⟩
  · cases h
theorem goN_of: ∀{l:List UInt8} {n:Nat},(∀c∈l,isD c=true)→l.foldl (fun n c=>10*n+(c.toNat-48)) n≤1000→goN l n=some (l.foldl (fun n c=>10*n+(c.toNat-48)) n)
 | [],n,_,_=>rfl
 |c::l,n,h,hb=>by
  have up: ∀(l:List UInt8) (m:Nat),m≤l.foldl (fun n c=>10*n+(c.toNat-48)) m:=by
   intro l;induction l with
   |nil=>intro m;exact Nat.le_refl _
   |cons d l ih=>intro m;exact Nat.le_trans om_ (ih (10*m+(d.toNat-48)))
  have:=up l (10*n+(c.toNat-48));unfold goN;rw[if_pos (h c (by simp)),if_neg (by simp at hb;omega)];exact goN_of (fun y hy=>h y (by simp[hy])) hb
def numb(l:List UInt8)(c lim:Nat):Nat×Bool:=match goN l 0 with
 |none=>(0,false)
 |some n=>(n,decide (l.length=c)&&decide (n<lim))
theorem numb_yes{l:List UInt8}{c lim n:Nat}(h:numb l c lim=(n,true)):l.length=c∧n<lim∧(∀d∈l,isD d=true)∧n=numU l:=by
 unfold numb at h;cases e:goN l 0 with
 |none=>rw[e] at h;cases h
 |some k=>
  rw[e] at h;simp only[Prod.mk.injEq,Bool.and_eq_true,decide_eq_true_eq] at h;obtain⟨a,b⟩:=goN_some e;exact⟨h.2.1,om_,a,by rw[←h.1,b];rfl⟩
theorem numb_of{l:List UInt8}{lim:Nat}(h: ∀d∈l,isD d=true)(h2:numU l<lim)(h3:lim≤1000):numb l l.length lim=(numU l,true):=by
 unfold numb;have e:goN l 0=some (numU l):=goN_of h (show numU l≤1000 by omega);rw[e];show(numU l,decide (l.length=l.length)&&decide (numU l<lim))=(numU l,true)
 rw[decide_eq_true rfl,decide_eq_true h2];rfl
theorem dgs_of: ∀(k:Nat) (l:List UInt8),l.length=k→(∀c∈l,isD c=true)→dgs (numU l) k=l:=by
 intro k;induction k with
 |zero=>
  intro l h _;obtain rfl:l=[]:=List.eq_nil_of_length_eq_zero h;rfl
 |succ k ih=>
  intro l h hd;have hne:l≠[]:=fun e=>by subst e;simp at h
  obtain⟨l',c,rfl⟩: ∃l' c,l=l'++[c]:=⟨l.dropLast,l.getLast hne,(List.dropLast_concat_getLast hne).symm⟩;have hc:isD c=true:=hd c (by simp);have hcb:48≤c.toNat∧c.toNat≤57:=by unfold isD at hc;simpa using hc
  have hu:numU (l'++[c])=10*numU l'+(c.toNat-48):=numU_app l' [] c;rw[dgs_step (Or.inr om_),hu];have e1:(10*numU l'+(c.toNat-48))/10=numU l':=by omega
  have e2:(10*numU l'+(c.toNat-48))%10=c.toNat-48:=by omega
  rw[e1,e2,Nat.add_sub_cancel,ih l' (by simp at h;omega) (fun y hy=>hd y (by simp[hy]))];congr 2
  unfold dB;rw[show 48+(c.toNat-48)=c.toNat by omega];simp
def clockT(ms:Nat):List UInt8:=dgs (ms/3600000) 2++58::(dgs (ms/60000%60) 2++58::(dgs (ms/1000%60) 2++(if ms%1000=0 then[] else 46::dgs (ms%1000) 3)))
def clockV(a p:List UInt8)(has:Bool):Nat×Bool:=match wrd 58 a with
 | [h,m,s]=>((((numb h 2 24).1*60+(numb m 2 60).1)*60+(numb s 2 60).1)*1000+(if has=true then(numb p 3 1000).1 else 0),
     (numb h 2 24).2&&(numb m 2 60).2&&(numb s 2 60).2&&(if has=true then(numb p 3 1000).2&&decide (0<(numb p 3 1000).1) else true))
 |_=>(0,false)
def clockP(t:List UInt8):Nat×Bool:=clockV (cut t [46]).1 (cut t [46]).2.1 (cut t [46]).2.2
theorem dgs_no{n k:Nat}{x:UInt8}(hx:isD x=false):x∉dgs n k:=fun h=>by have:=dgs_isD n k x h;rw[hx] at this;cases this
theorem numb_dgs{n k lim:Nat}(h:n<lim)(hl:lim≤1000)(hk:n<10^k):numb (dgs n k) k lim=(n,true):=by
 have h1:=numb_of (l:=dgs n k) (lim:=lim) (dgs_isD n k) (by rw[numU_dgs];exact h) hl;rw[dgs_len k n hk,numU_dgs] at h1;exact h1
theorem wrd3{a b c:List UInt8}(ha:(58:UInt8)∉a)(hb:(58:UInt8)∉b)(hc:(58:UInt8)∉c):wrd 58 (a++58::(b++58::c))=[a,b,c]:=by
 rw[wrd_app 58 a _ ha,wrd_app 58 b _ hb,wrd_one 58 c hc]
theorem clockP_T{ms:Nat}(h:ms<86400000):clockP (clockT ms)=(ms,true):=by
 have n1: ∀n k,(58:UInt8)∉dgs n k:=fun n k=>dgs_no dc_;have n2: ∀n k,(46:UInt8)∉dgs n k:=fun n k=>dgs_no dc_;have w:=wrd3 (n1 (ms/3600000) 2) (n1 (ms/60000%60) 2) (n1 (ms/1000%60) 2);have nh:(46:UInt8)∉dgs (ms/3600000) 2++58::(dgs (ms/60000%60) 2++58::dgs (ms/1000%60) 2):=by
  simp[n2]
 have b1:=numb_dgs (n:=ms/3600000) (k:=2) (lim:=24) om_ om_ om_;have b2:=numb_dgs (n:=ms/60000%60) (k:=2) (lim:=60) om_ om_ om_;have b3:=numb_dgs (n:=ms/1000%60) (k:=2) (lim:=60) om_ om_ om_;by_cases h0:ms%1000=0
 · have ht:clockT ms=dgs (ms/3600000) 2++58::(dgs (ms/60000%60) 2++58::dgs (ms/1000%60) 2):=by unfold clockT;rw[if_pos h0];simp
   have hc:cut (clockT ms) [46]=(clockT ms,[],false):=by
    unfold cut;rw[ht,index_none 46 _ nh];rfl
   unfold clockP clockV;rw[hc,ht];simp only[w,b1,b2,b3];refine Prod.ext ?_ rfl;simp;omega
 · have ht:clockT ms=(dgs (ms/3600000) 2++58::(dgs (ms/60000%60) 2++58::dgs (ms/1000%60) 2))++46::dgs (ms%1000) 3:=by unfold clockT;rw[if_neg h0];simp
   have hc:cut (clockT ms) [46]=(dgs (ms/3600000) 2++58::(dgs (ms/60000%60) 2++58::dgs (ms/1000%60) 2),dgs (ms%1000) 3,true):=by
    rw[ht];exact cut_one (fun c hc e=>nh (e▸hc))
   have b4:=numb_dgs (n:=ms%1000) (k:=3) (lim:=1000) om_ om_ om_;unfold clockP clockV;rw[hc];simp only[w,b1,b2,b3,b4];refine Prod.ext ?_ ?_
   · simp;omega
   · simp;omega
theorem clockT_P{t:List UInt8}{n:Nat}(h:clockP t=(n,true)):n<86400000∧clockT n=t:=by
 unfold clockP at h;obtain⟨a,p,has,hc⟩: ∃a p has,cut t [46]=(a,p,has):=⟨_,_,_,rfl⟩;rw[hc] at h;have ht:t=if has=true then a++46::p else a:=by
  by_cases hx:(46:UInt8)∈t
  · obtain⟨D,R,rfl,hD⟩: ∃D R,t=D++46::R∧(46:UInt8)∉D:=by
     clear h hc;induction t with
     |nil=>simp at hx
     |cons c t iht=>
      by_cases hc:c=46
      · exact⟨[],t,by rw[hc];rfl,by simp⟩
      · rcases List.mem_cons.1 hx with e|e
        · exact absurd e.symm hc
        · obtain⟨D,R,rfl,hD⟩:=iht e
          exact⟨c::D,R,rfl,fun e=>by rcases List.mem_cons.1 e with e|e;exact hc e.symm;exact hD e⟩
    rw[cut_one (fun c hc (e:c=46)=>hD (e▸hc))] at hc;cases hc
    rfl
  · have:cut t [46]=(t,[],false):=by unfold cut;rw[index_none 46 _ hx];rfl
    rw[this] at hc;cases hc
    rfl
 unfold clockV at h;simp only[] at h;split at h
 case h_2=>cases h
 case h_1 x y z he=>
  have hj:=jn_wrd 58 a;rw[he] at hj;have ha:a=x++58::(y++58::z):=hj.symm;simp only[Prod.mk.injEq,Bool.and_eq_true] at h;obtain⟨hn,⟨⟨h1,h2⟩,h3⟩,h4⟩:=h;obtain⟨l1,c1,d1,e1⟩:=numb_yes (n:=(numb x 2 24).1) (Prod.ext rfl h1);obtain⟨l2,c2,d2,e2⟩:=numb_yes (n:=(numb y 2 60).1) (Prod.ext rfl h2);obtain⟨l3,c3,d3,e3⟩:=numb_yes (n:=(numb z 2 60).1) (Prod.ext rfl h3);have g1:=dgs_of 2 x l1 d1;have g2:=dgs_of 2 y l2 d2;have g3:=dgs_of 2 z l3 d3;rw[←e1] at g1;rw[←e2] at g2;rw[←e3] at g3;generalize (numb x 2 24).1=u at*;generalize (numb y 2 60).1=v at*;generalize (numb z 2 60).1=s at*;cases has with
  |false=>
   simp only[Bool.false_eq_true,if_false,Nat.add_zero] at hn ht;have q1:n/3600000=u:=by omega
   have q2:n/60000%60=v:=by omega
   have q3:n/1000%60=s:=by omega
   have q4:n%1000=0:=by omega
   refine⟨om_,?_⟩;unfold clockT;rw[q1,q2,q3,if_pos q4,g1,g2,g3,ht,ha];simp
  |true=>
   simp only[if_true,Bool.and_eq_true,decide_eq_true_eq] at hn ht h4;obtain⟨l4,c4,d4,e4⟩:=numb_yes (n:=(numb p 3 1000).1) (Prod.ext rfl h4.1);have g4:=dgs_of 3 p l4 d4;rw[←e4] at g4;generalize (numb p 3 1000).1=r at*;have q1:n/3600000=u:=by omega
   have q2:n/60000%60=v:=by omega
   have q3:n/1000%60=s:=by omega
   have q4:n%1000=r:=by omega
   refine⟨om_,?_⟩;unfold clockT;rw[q1,q2,q3,q4,if_neg om_,g1,g2,g3,g4,ht,ha];simp
end CT
section
open Frm
open Lib (decDigits)
theorem fold_ge: ∀(l:Bs) (a:Nat),a≤l.foldl (fun n c=>10*n+(c.toNat-48)) a
 | [],a=>Nat.le_refl _
 |c::l,a=>Nat.le_trans om_ (fold_ge l (10*a+(c.toNat-48)))
theorem puTmdig: ∀(l:Bs) (a:Nat),(∀c∈l,isD c=true)→l.foldl (fun n c=>10*n+(c.toNat-48)) a<18446744073709551616→Lib.parseUint10 a l=.ok (l.foldl (fun n c=>10*n+(c.toNat-48)) a)
 | [],a,_,_=>rfl
 |c::l,a,h,hb=>by
  have hc:=h c (by simp);unfold isD at hc;rw[Bool.and_eq_true,decide_eq_true_eq,decide_eq_true_eq] at hc;rw[List.foldl_cons] at hb⊢;have hg:=fold_ge l (10*a+(c.toNat-48));unfold Lib.parseUint10;rw[if_pos hc,if_neg om_,if_neg om_,show a*10+(c.toNat-48)=10*a+(c.toNat-48) by omega];exact puTmdig l _ (fun c hc=>h c (by simp[hc])) hb
theorem pm_dig{l:Bs}(h: ∀c∈l,isD c=true)(hn:l≠[])(hu:numU l<1000000000000000000):Lib.parseMag l=.ok (numU l):=by
 unfold Lib.parseMag;rw[if_neg hn,puTmdig l 0 h (by show numU l<_;omega)];rfl
theorem atR_dig{l:Bs}(h: ∀c∈l,isD c=true)(hn:l≠[])(hu:numU l<1000000000000000000):atR l=((numU l:Int),true):=by
 have hp:=pm_dig h hn hu;cases l with
 |nil=>exact absurd rfl hn
 |cons c r=>
  have hc:=h c (by simp);unfold isD at hc;rw[Bool.and_eq_true,decide_eq_true_eq,decide_eq_true_eq] at hc;unfold atR Lib.atoiAll;simp only[];rw[if_neg om_,hp];simp only[];rw[if_neg om_,if_neg om_,if_neg om_]
theorem atR_dgs{n k:Nat}(hk:0<k)(h:n<1000000000000000000):atR (dgs n k)=((n:Int),true):=by
 have:=atR_dig (dgs_isD n k) (by rw[dgs_pad hk];have:=dd_pos n;intro e;rw[List.append_eq_nil_iff] at e;rw[e.2] at this;simp at this) (by rw[numU_dgs];exact h);rwa [numU_dgs] at this
theorem atR_itoa{n:Int}(h:n.natAbs<1000000000000000000):atR (Lib.itoa n)=(n,true):=by
 rcases Int.lt_or_le n 0 with hn|hn
 · obtain⟨m,hm⟩: ∃m:Nat,n= -(m:Int):=⟨n.natAbs,om_⟩
   have hp:=pm_dig (dd_isD m) (by intro e;have:=dd_pos m;rw[e] at this;simp at this) (by rw[numU_dd];omega);rw[numU_dd] at hp;have e:Lib.itoa n=45::decDigits m:=by
    unfold Lib.itoa;rw[if_pos hn,hm];simp
   rw[e];unfold atR Lib.atoiAll;simp only[];rw[if_pos dc_,hp];simp only[];rw[if_neg (by simp),if_neg om_,if_pos dc_,hm]
 · obtain⟨m,rfl⟩: ∃m:Nat,n=(m:Int):=⟨n.toNat,om_⟩
   rw[itoa_nat,←dgs_one];exact atR_dgs om_ om_
def dateT(x:CA.Date):Bs:=dgs x.y.toNat 4++45::(dgs x.m 2++45::dgs x.d.toNat 2)
theorem dgs_not{n k:Nat}{x:UInt8}(h:isD x=false):x∉dgs n k:=CT.dgs_no h
theorem dateT_wrd(x:CA.Date):SW.wrd 45 (dateT x)=[dgs x.y.toNat 4,dgs x.m 2,dgs x.d.toNat 2]:=by
 unfold dateT;rw[SW.wrd_app 45 _ _ (dgs_not dc_),SW.wrd_app 45 _ _ (dgs_not dc_),SW.wrd_one 45 _ (dgs_not dc_)]
theorem dm_le(y:Int)(m:Nat):CA.dm y m≤31:=(CA.dm_pos y m).2
theorem dateT_len{x:CA.Date}(h:CA.vld x):(dateT x).length=10:=by
 obtain⟨h1,h2,h3,h4,h5,h6⟩:=h;have:=dm_le x.y x.m;unfold dateT;rw[List.length_append,List.length_cons,List.length_append,List.length_cons,dgs_len 4 _ om_,dgs_len 2 _ om_,dgs_len 2 _ om_]
theorem dateT_no(x:CA.Date){c:UInt8}(h:isD c=false)(h2:c≠45):c∉dateT x:=by
 unfold dateT;simp only[List.mem_append,List.mem_cons,not_or];exact⟨dgs_not h,h2,dgs_not h,h2,dgs_not h⟩
theorem dgs_inj{n m k:Nat}(h:dgs n k=dgs m k):n=m:=by rw[←numU_dgs n k,h,numU_dgs]
theorem dateT_inj{x x':CA.Date}(h:CA.vld x)(h':CA.vld x')(e:dateT x=dateT x'):x=x':=by
 have q:=dateT_wrd x;rw[e,dateT_wrd] at q;simp only[List.cons.injEq,and_true] at q;have q1:=dgs_inj q.1;have q2:=dgs_inj q.2.1;have q3:=dgs_inj q.2.2;obtain⟨y,m,d⟩:=x;obtain⟨y',m',d'⟩:=x';obtain⟨h1,h2,h3,h4,h5,h6⟩:=h;obtain⟨h1',h2',h3',h4',h5',h6'⟩:=h';simp only[] at*;obtain rfl:y=y':=by omega
 obtain rfl:m=m':=by omega
 obtain rfl:d=d':=by omega
 rfl
def IsInst(t:Int)(s:Bs):Prop:= ∃x,CA.vld x∧CA.num x=t/86400000∧s=dateT x++32::CT.clockT (t%86400000).toNat
theorem inst_text{t:Int}{s s':Bs}(h:IsInst t s)(h':IsInst t s'):s=s':=by
 obtain⟨x,h1,h2,rfl⟩:=h;obtain⟨x',h1',h2',rfl⟩:=h';obtain rfl:=CA.num_inj h1 h1' (h2.trans h2'.symm);rfl
theorem cut_date(x:CA.Date)(R:Bs):Lib.cut (dateT x++32::R) [32]=(dateT x,R,true):=cut_one fun c hc e=>by
 subst e;exact dateT_no x dc_ dc_ hc
theorem inst_num{t t':Int}{s:Bs}(h:IsInst t s)(h':IsInst t' s):t=t':=by
 obtain⟨x,h1,h2,rfl⟩:=h;obtain⟨x',h1',h2',e⟩:=h';have q:=cut_date x (CT.clockT (t%86400000).toNat);rw[e,cut_date] at q;simp only[Prod.mk.injEq,and_true] at q;obtain rfl:=dateT_inj h1' h1 q.1;have q2:=CT.clockP_T (ms:=(t%86400000).toNat) om_;rw[←q.2,CT.clockP_T om_] at q2;simp only[Prod.mk.injEq,and_true] at q2;omega
end
namespace LB
def w64(x:Int):Int:=(x+9223372036854775808)%18446744073709551616-9223372036854775808
def stp(n c:Int):Int:=w64 (n*256)+c
abbrev Bs:=List UInt8
structure Rec where
 kind:Int
 at0:Int
 at1:Int
 p0:Int
 p1:Int
 p2:Int
 p3:Int
 m0:Int
 m1:Int
 m2:Int
 m3:Int
 body:Bs
 limb:Int
 sa0:Int
 sa1:Int
 hs:Int
 within:Int
 horizon:Int
 eye:Int
 shore:Int
 temp:Int
 pres:Int
 list:List Int
 text:Bs
deriving DecidableEq
def Rec.zero:Rec:=⟨0,0,0,0,0,0,0,0,0,0,0,[],0,0,0,0,0,0,0,0,0,0,[],[]⟩
def b8(n:Int):UInt8:=UInt8.ofNat (n%256).toNat
def num(n:Int):Bs:=[b8 (n/72057594037927936),b8 (n/281474976710656),b8 (n/1099511627776),b8 (n/4294967296),b8 (n/16777216),b8 (n/65536),b8 (n/256),b8 n]
def nums:List Int→Bs
 | []=>[]
 |n::l=>num n++nums l
def un(l:Bs):Int:=l.foldl (fun n c=>stp n (c.toNat:Int)) 0
def siz(n:Nat):Bs:=[b8 ((n:Int)/256),b8 (n:Int)]
def str(s:Bs):Bs:=siz s.length++s
def sightL(r:Rec):List Int:=[r.limb,r.sa0,r.sa1,r.hs,r.within,r.horizon,r.eye,r.shore,r.temp,r.pres]
def enc(r:Rec):Bs:=
 b8 r.kind::(if r.kind=3 then str r.body++nums (sightL r)
 else nums [r.at0,r.at1]++((if r.kind=1∨r.kind=4 then nums [r.p0,r.p1,r.p2,r.p3] else if r.kind=2 then nums [r.m0,r.m1,r.m2,r.m3] else if r.kind=5 then str r.text else[])++
  (if r.kind=4 then siz r.list.length++nums r.list else[])))
abbrev St:=Bs×Bool
def take(n:Nat)(s:St):Bs×St:=if s.2=true∨s.1.length<n then([],(s.1,true)) else(s.1.take n,(s.1.drop n,s.2))
def one(s:St):Int×St:=(un (take 8 s).1,(take 8 s).2)
def ints:Nat→St→List Int×St
 |0,s=>([],s)
 |k+1,s=>((one s).1::(ints k (one s).2).1,(ints k (one s).2).2)
def size(s:St):Nat×St:=match take 2 s with
 |([a,b],s')=>(a.toNat*256+b.toNat,s')
 |(_,s')=>(0,s')
def text(s:St):Bs×St:=take (size s).1 (size s).2
def loop:Nat→St→List Int×St
 |0,s=>([],s)
 |k+1,s=>if (one s).2.2=true then([],(one s).2) else((one s).1::(loop k (one s).2).1,(loop k (one s).2).2)
def at'(l:List Int)(i:Nat):Int:=l.getD i 0
def body(kind:Int)(s0:St):Rec×St:=
 if kind=3 then
  let b:=text s0
  let n:=ints 10 b.2
  ({Rec.zero with kind:=3,body:=b.1,limb:=at' n.1 0,sa0:=at' n.1 1,sa1:=at' n.1 2,hs:=at' n.1 3,within:=at' n.1 4,horizon:=at' n.1 5,eye:=at' n.1 6,shore:=at' n.1 7,temp:=at' n.1 8,pres:=at' n.1 9},n.2)
 else
  let t:=ints 2 s0
  let x:={Rec.zero with kind:=kind,at0:=at' t.1 0,at1:=at' t.1 1}
  if kind=1 then
   let p:=ints 4 t.2
   ({x with p0:=at' p.1 0,p1:=at' p.1 1,p2:=at' p.1 2,p3:=at' p.1 3},p.2)
  else if kind=2 then
   let p:=ints 4 t.2
   ({x with m0:=at' p.1 0,m1:=at' p.1 1,m2:=at' p.1 2,m3:=at' p.1 3},p.2)
  else if kind=5 then
   let b:=text t.2
   ({x with text:=b.1},b.2)
  else
   let p:=ints 4 t.2
   let n:=size p.2
   let l:=loop n.1 n.2
   ({x with p0:=at' p.1 0,p1:=at' p.1 1,p2:=at' p.1 2,p3:=at' p.1 3,list:=l.1},l.2)
theorem take_app(x y:Bs):take x.length (x++y,false)=(x,(y,false)):=by
 unfold take;rw[if_neg (by simp)];simp
end LB
section
open LB (Bs Rec)
abbrev txb(l:Bs):Value:=.string ⟨l.toArray⟩
abbrev tiv(a b:Int):Value:=.agg #[vi vk a,vi vk b]
abbrev sgv(x:Bs)(a b c d e f g h i j:Int):Value:=.agg #[txb x,vi vk a,vi vk b,vi vk c,vi vk d,vi vk e,vi vk f,vi vk g,vi vk h,vi vk i,vi vk j]
theorem eqInTime(d:Nat)(x y x' y':Int)(w:World):(Op.equalIn (d+1+1) 23 (tiv x y) (tiv x' y')).run Tryz.prog w=.ok (decide (x=x'∧y=y')) w:=by
 have u3:=underlying3;have hS:Tryz.prog.underlying 23=some (.struct (Tryz.prog.fieldsOf 23)):=by kernel_rfl
 have hp:Tryz.prog.stoodInHeld 23=false:=by kernel_rfl
 have a3:=Tryz.isAgg3;have z3:=Tryz.sizeOf3;rw[run_equalIn_agg w (d+1) 23 _ _ hS hp];simp only[Program.fieldsOf,underlying23];go_simp
 by_cases h1:x=x'<;>by_cases h2:y=y'<;>simp[h1,h2]
theorem eqInArc(d:Nat)(x y x' y':Int)(w:World):(Op.equalIn (d+1+1) 41 (tiv x y) (tiv x' y')).run Tryz.prog w=.ok (decide (x=x'∧y=y')) w:=by
 have u3:=underlying3;have hS:Tryz.prog.underlying 41=some (.struct (Tryz.prog.fieldsOf 41)):=by kernel_rfl
 have hp:Tryz.prog.stoodInHeld 41=false:=by kernel_rfl
 have a3:=Tryz.isAgg3;have z3:=Tryz.sizeOf3;rw[run_equalIn_agg w (d+1) 41 _ _ hS hp];simp only[Program.fieldsOf,underlying41];go_simp
 by_cases h1:x=x'<;>by_cases h2:y=y'<;>simp[h1,h2]
def sgE(x:Bs)(a b c d e f g h i j:Int)(x':Bs)(a' b' c' d' e' f' g' h' i' j':Int):Bool:=decide (x=x'∧a=a'∧b=b'∧c=c'∧d=d'∧e=e'∧f=f'∧g=g'∧h=h'∧i=i'∧j=j')
theorem eqInSight(x:Bs)(a b c d e f g h i j:Int)(x':Bs)(a' b' c' d' e' f' g' h' i' j':Int)(w:World):
 (Op.equalIn 10000 25 (sgv x a b c d e f g h i j) (sgv x' a' b' c' d' e' f' g' h' i' j')).run Tryz.prog w=.ok (sgE x a b c d e f g h i j x' a' b' c' d' e' f' g' h' i' j') w:=by
 have hS:Tryz.prog.underlying 25=some (.struct (Tryz.prog.fieldsOf 25)):=by kernel_rfl
 have hp:Tryz.prog.stoodInHeld 25=false:=by kernel_rfl
 have a1:=Tryz.isAgg23;have z1:=Tryz.sizeOf23;have u3:=underlying3;have a3:=Tryz.isAgg3;have z3:=Tryz.sizeOf3;have u4:=underlying9;have a4:=Tryz.isAgg9;have z4:=Tryz.sizeOf9;have hA:=fun(x y x' y':Int) (w:World)=>eqInTime 9997 x y x' y' w;rw[show(10000:Nat)=9999+1 from rfl,run_equalIn_agg w 9999 25 _ _ hS hp];simp only[Program.fieldsOf,underlying25];simp only[Nat.reduceAdd] at hA;go_simp
 unfold sgE;by_cases h1:x=x'
 · by_cases h2:a=a'
   · by_cases h3:b=b'∧c=c'
     · by_cases h4:d=d'
       · by_cases h5:e=e'
         · by_cases h6:f=f'
           · by_cases h7:g=g'
             · by_cases h8:h=h'
               · by_cases h9:i=i'<;>by_cases h10:j=j'<;>simp[h1,h2,h3,h4,h5,h6,h7,h8,h9,h10]
               · simp[h1,h2,h3,h4,h5,h6,h7,h8]
             · simp[h1,h2,h3,h4,h5,h6,h7]
           · simp[h1,h2,h3,h4,h5,h6]
         · simp[h1,h2,h3,h4,h5]
       · simp[h1,h2,h3,h4]
     · have: ∀p:Prop,¬(b=b'∧c=c'∧p):=fun p ⟨q,r,_⟩=>h3 ⟨q,r⟩
       simp[h1,h2,h3,this]
   · simp[h1,h2]
 · simp[h1]
end
section
open LB (Bs Rec)
theorem ret_boo{a b:Bool}(h:a=b):Ending.returned (.bool a)=.returned (.bool b):=by rw[h]
def insB(n:Int):Bool:=decide (-70368744177664≤n∧n≤70368744177664)
theorem instant_any(n:Int)(w:World):Calls Tryz.prog 91 #[vi vk n] w fun e w'=>e=.returned (.bool (insB n))∧w'=w:=by
 unfold insB;go_enter func91,ntmps91;go_wp2;all_goals
  go_ret;exact⟨ret_boo (by first|rfl|(simp_all;done)|(simp_all;omega)),rfl⟩
def clkB(a b:Int):Bool:=decide (a≤b)&&insB a&&insB b
theorem clock_any(lo hi:Int)(w:World):Calls Tryz.prog 49 #[tiv lo hi] w fun e w'=>e=.returned (.bool (clkB lo hi))∧Below w.heap.size w w':=by
 have KL:=hid (fun W=>instant_any lo W);have KH:=hid (fun W=>instant_any hi W);unfold clkB;generalize insB lo=s at*;generalize insB hi=t at*;by_cases h:lo≤hi
 · have d:decide (lo≤hi)=true:=decide_eq_true h
   rw[d];cases s
   · go_enter func49,ntmps49
     go_wp2_with (go_at_call 91;(with_reducible refine(KL.out _).mono ?_);rintro e w9 ⟨rfl,rfl⟩);go_ret;refine⟨rfl,?_⟩;exact bl_
   · cases t
     all_goals
      go_enter func49,ntmps49;go_wp2_with (go_at_call 91;(first|(with_reducible refine(KL.out _).mono ?_)|(with_reducible refine(KH.out _).mono ?_));rintro e w9 ⟨rfl,rfl⟩);go_ret;refine⟨rfl,?_⟩;exact bl_
 · have d:decide (lo≤hi)=false:=decide_eq_false h
   rw[d];go_enter func49,ntmps49;go_wp2;go_ret;refine⟨rfl,?_⟩;exact bl_
structure BVl(w0:World) where
 w:World
 hb:Below w0.heap.size w0 w
instance bvlSome (w0:World):Nonempty (BVl w0):=⟨⟨w0,Below.refl _ _⟩⟩
end
end Go.Proofs.YtbpnacacnncopaaGreatDoor
