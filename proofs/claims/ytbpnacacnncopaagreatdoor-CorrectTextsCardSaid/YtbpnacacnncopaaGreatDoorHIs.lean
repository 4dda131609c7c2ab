/- The reference's angle: the integer of units that a word stands for. -/
import Derived.BigRegion
import Derived.Test.YtbpnacacnncopaaGreatDoorHSt
set_option linter.unusedSimpArgs false
set_option linter.unusedVariables false
set_option maxHeartbeats 4000000
set_option maxRecDepth 100000
open Go.RowKit
open Go.Lib (hid)
open Go.Proofs.Tryz
open Go.Value renaming int→vi
open Go.IntKind renaming i64→vk
namespace Go.Proofs.YtbpnacacnncopaaGreatDoor
section
open Go.Shelf Frm
open Lib (decDigits)
theorem isD_iff(c:UInt8):isD c=true↔48≤c.toNat∧c.toNat≤57:=by simp[isD]
theorem rdigit_any(c:UInt8)(w:World):Calls Tryz.prog 133 #[.int .u8 (c.toNat:Int)] w fun e w'=>e=.returned (.bool (isD c))∧w'=w:=by
 have hi:=isD_iff c;generalize isD c=b at*;by_cases h0:48≤c.toNat
 · have d0:decide ((48:Int)≤(c.toNat:Int))=true:=decide_eq_true om_
   by_cases h1:c.toNat≤57
   · have d1:decide ((c.toNat:Int)≤57)=true:=decide_eq_true om_
     obtain rfl:=hi.2 ⟨h0,h1⟩;clear hi h0 h1;go_enter func133,ntmps133;go_wp2;go_ret;exact⟨rfl,rfl⟩
   · have d1:decide ((c.toNat:Int)≤57)=false:=decide_eq_false om_
     obtain rfl:b=false:=by cases b with|false=>rfl|true=>exact absurd (hi.1 rfl).2 h1
     clear hi h0 h1;go_enter func133,ntmps133;go_wp2;go_ret;exact⟨rfl,rfl⟩
 · have d0:decide ((48:Int)≤(c.toNat:Int))=false:=decide_eq_false om_
   obtain rfl:b=false:=by cases b with|false=>rfl|true=>exact absurd (hi.1 rfl).1 h0
   clear hi h0;go_enter func133,ntmps133;go_wp2;go_ret;exact⟨rfl,rfl⟩
theorem while_at: ∀(b:Bs) (k:Nat),(∀c∈b.take k,isD c=true)→(∀c,b[k]? =some c→isD c=false)→b.takeWhile isD=b.take k∧b.dropWhile isD=b.drop k
 | [],k,_,_=>by simp
 |c::b,0,_,h=>by
  have:=h c rfl;simp[this]
 |c::b,k+1,h0,h1=>by
  have hc:isD c=true:=h0 c (by simp);have:=while_at b k (fun x hx=>h0 x (by simp[hx])) (fun x hx=>h1 x (by simpa using hx));simp[hc,this]
theorem numC_app(l:Bs)(c:UInt8):numC (l++[c])=if numC l≤1099511627776 then 10*numC l+(c.toNat-48) else numC l:=by unfold numC;rw[List.foldl_append];rfl
theorem numC_le(l:Bs)(h: ∀c∈l,isD c=true):numC l≤10995116277769:=by
 suffices H: ∀(l:Bs) (a:Nat),a≤10995116277769→(∀c∈l,isD c=true)→l.foldl (fun d c=>if d≤1099511627776 then 10*d+(c.toNat-48) else d) a≤10995116277769 from H l 0 om_ h
 intro l;induction l with
 |nil=>intro a ha _;exact ha
 |cons c l ih=>
  intro a ha hc;have h9:=(isD_iff c).1 (hc c (by simp));simp only[List.foldl_cons];refine ih _ ?_ (fun x hx=>hc x (by simp[hx]));split<;>omega
theorem take_succ{b:Bs}{k:Nat}{c:UInt8}(h:b[k]? =some c):b.take (k+1)=b.take k++[c]:=by
 obtain⟨hk,rfl⟩:=List.getElem?_eq_some_iff.1 h;rw[List.take_succ_eq_append_getElem hk]
theorem wq(q c:Nat)(h:q≤1000)(hc:c≤10):wrap64 ((q:Int)+(c:Int))=((q+c:Nat):Int):=by rw[IntWalk.wrap64_in _ om_];omega
theorem wsub{q i k:Nat}(h:i+k=q)(hq:q≤1000):wrap64 ((q:Int)-(i:Int))=(k:Int):=by rw[IntWalk.wrap64_in _ om_];omega
theorem wq2{q n:Nat}(h:q≤n)(hn:n≤1000):wrap64 ((q:Int)+3+1)=(q:Int)+4∧wrap64 ((q:Int)+3+4)=(q:Int)+7:=
 ⟨by rw[IntWalk.wrap64_in _ om_];omega,by rw[IntWalk.wrap64_in _ om_];omega⟩
theorem wfin{N m f:Nat}(h:N≤18325193)(hm:m<60)(hf:f≤1000):wrap64 ((N:Int)*60000)=(N:Int)*60000∧wrap64 ((m:Int)*1000)=(m:Int)*1000∧wrap64 ((N:Int)*60000+(m:Int)*1000)=(N:Int)*60000+(m:Int)*1000∧wrap64 ((N:Int)*60000+(m:Int)*1000+(f:Int))=(N:Int)*60000+(m:Int)*1000+(f:Int)∧wrap64 (0-((N:Int)*60000+(m:Int)*1000+(f:Int)))= -((N:Int)*60000+(m:Int)*1000+(f:Int)):=
 ⟨IntWalk.wrap64_in _ om_,IntWalk.wrap64_in _ om_,IntWalk.wrap64_in _ om_,IntWalk.wrap64_in _ om_,by rw[IntWalk.wrap64_in _ om_];omega⟩
theorem u8_digI{c:UInt8}(h:isD c=true):IntKind.u8.wrap ((c.toNat:Int)-48)=(c.toNat:Int)-48:=by
 have:=(isD_iff c).1 h;rw[IntKind.wrap_u8];omega
def MinOk(R:Bs)(y z:UInt8)(r:Bs):Prop:=R=45::y::z::r∧isD y=true∧isD z=true∧y.toNat≤53
theorem restR_bad{neg:Bool}{d:Nat}{R:Bs}(h: ∀y z r,¬MinOk R y z r):restR neg d R=(0,7):=by
 unfold restR;split
 · rename_i x y z r
   rw[if_pos];have:=h y z r;unfold MinOk at this;by_cases hx:x=45
   · subst hx
     cases hy:isD y with
     |false=>exact .inr (.inl rfl)
     |true=>
      cases hz:isD z with
      |false=>exact .inr (.inr (.inl rfl))
      |true=>exact .inr (.inr (.inr (by
        rcases Nat.lt_or_ge 53 y.toNat with q|q
        · exact q
        · exact absurd ⟨rfl,hy,hz,q⟩ this)))
   · exact .inl hx
 · rfl
def secR(neg:Bool)(d m:Nat)(r:Bs):Int×Int:=
 match r with
 | []=>finR neg d m 0
 |p::q=>if p≠46∨q=[]∨3<q.length∨q.all isD=false then(0,7) else finR neg d m (fracR 100 q)
theorem restR_ok{neg:Bool}{d:Nat}{R:Bs}{y z:UInt8}{r:Bs}(h:MinOk R y z r):restR neg d R=secR neg d (10*(y.toNat-48)+(z.toNat-48)) r:=by
 obtain⟨rfl,h1,h2,h3⟩:=h;unfold restR;simp only[];rw[if_neg (by simp[h1,h2];omega)];cases r<;>rfl
theorem rparse_any(s:Bs)(w:World)(hl:s.length≤1000):
 Calls Tryz.prog 90 #[tx s] w fun e w'=>e=.returned (.tuple #[vi vk (parseR s).1,vi vk (parseR s).2])∧Below w.heap.size w w':=by
 have KD:=hid (fun(c:UInt8) (W:World)=>rdigit_any c W);have ss:=tx_size s;obtain⟨n,hn⟩: ∃n,s.length=n:=⟨_,rfl⟩;rw[hn] at ss hl;obtain⟨res,hres⟩: ∃r,parseR s=r:=⟨_,rfl⟩;rw[hres];obtain⟨i0,neg,b,hb⟩: ∃(i0:Nat) (neg:Bool) (b:Bs),(s=b∧i0=0∧neg=false∧b.head?≠some 45)∨(s=45::b∧i0=1∧neg=true):=by
  cases s with
  |nil=>exact⟨0,false,[],.inl ⟨rfl,rfl,rfl,by simp⟩⟩
  |cons c t=>
   by_cases hc:c=45
   · subst hc;exact⟨1,true,t,.inr ⟨rfl,rfl,rfl⟩⟩
   · exact⟨0,false,c::t,.inl ⟨rfl,rfl,rfl,by simpa using hc⟩⟩
 have hat: ∀k,s[i0+k]? =b[k]? :=by
  rcases hb with ⟨rfl,rfl,rfl,_⟩|⟨rfl,rfl,rfl⟩
  · intro k;rw[Nat.zero_add]
  · intro k;rw[Nat.add_comm];simp
 have hlen:s.length=i0+b.length:=by
  rcases hb with ⟨rfl,rfl,rfl,_⟩|⟨rfl,rfl,rfl⟩
  · omega
  · simp;omega
 have hR:(if b.takeWhile isD=[]∨(1<(b.takeWhile isD).length∧(b.takeWhile isD).head?=some 48) then(0,7) else restR neg (numC (b.takeWhile isD)) (b.dropWhile isD))=res:=by
  rw[←hres];unfold parseR;rcases hb with ⟨rfl,rfl,rfl,hn⟩|⟨rfl,rfl,rfl⟩
  · simp only[if_neg hn,decide_eq_false hn]
  · simp
 have HR:=hid hR;have HAT:=hid hat;have hi0:i0≤1:=by rcases hb with ⟨_,rfl,_⟩|⟨_,rfl,_⟩<;>omega
 rw[hn] at hlen;have hneg:neg=decide (i0=1):=by rcases hb with ⟨_,rfl,rfl,_⟩|⟨_,rfl,rfl⟩<;>rfl
 have HB:=hid hb;have HN:=hid hn;have HL:=hid hlen;have HG:=hid hneg;clear hR hat hres hb hn hlen hneg;go_enter func90,ntmps90;go_upto_region 3 with (fail)
 go_cut [19] from 12 to 19 (fun c wx=>c=.bool neg∧wx=w)
 case first=>
  have hn:=HN.out;cases hs:s[0]? with
  |none=>
   have hl0:n=0:=by have:=List.getElem?_eq_none_iff.1 hs;omega
   have d0:decide (0<n)=false:=decide_eq_false om_;have hng:neg=false:=by
    rcases HB.out with ⟨_,_,h,_⟩|⟨h,_,_⟩
    · exact h
    · rw[h] at hn;simp at hn;omega
   subst hng;clear HB hs hl0 hn;go_wp2;go_meet
   case rel=>exact⟨rfl,rfl⟩
  |some c=>
   have h0:=getB hs;have hl0:0<n:=by rw[←hn];exact(List.getElem?_eq_some_iff.1 hs).1
   have d0:decide (0<n)=true:=decide_eq_true om_;have d1:((c.toNat:Int)==45)=neg:=by
    rcases HB.out with ⟨h,_,rfl,hn⟩|⟨h,_,rfl⟩
    · apply beq_eq_false_iff_ne.2
      intro h;refine hn ?_;subst s;rw[List.head?_eq_getElem?,hs];congr 1
      exact UInt8.toNat.inj (by simp;omega)
    · subst s
      simp at hs;subst hs;rfl
   clear HB hs hn;go_wp2;go_meet
   case rel=>exact⟨rfl,rfl⟩
 case rest=>
 obtain⟨rfl,rfl⟩:=hcut;go_upto_if 19 with (fail)
 go_cut [5] from 12 to 19 (fun s5 wx=>s5=vi vk (i0:Int)∧wx=wc)
 case first=>
  have hneg:=HG.out;cases neg with
  |false=>
   obtain rfl:i0=0:=by have:=of_decide_eq_false hneg.symm;omega
   clear hneg;go_wp2;go_meet
   case rel=>exact⟨rfl,rfl⟩
  |true=>
   obtain rfl:i0=1:=of_decide_eq_true hneg.symm;clear hneg;go_wp2;go_meet
   case rel=>exact⟨rfl,rfl⟩
 case rest=>
 obtain⟨rfl,rfl⟩:=hcut;go_wp2;go_loopg [5,7] (b.length+1) (fun gz s5 s7 wr=> ∃(k:Nat),s5=vi vk ((i0+k:Nat):Int)∧s7=vi vk ((numC (b.take k):Nat):Int)∧k+gz=b.length+1∧k≤b.length∧(∀c∈b.take k,isD c=true)∧wr=wc)
 case atStart=>exact⟨0,by simp,by simp[numC],om_,om_,by simp,rfl⟩
 case round=>
  obtain⟨k,rfl,rfl,hk,hkb,hd,rfl⟩:=hrel;have hdn:=numC_le _ hd;have hlen:=HL.out;obtain⟨q,hq⟩: ∃q,i0+k=q:=⟨_,rfl⟩;have hqn:q≤n:=by omega
  have e1:wrap64 ((q:Int)+1)=((q+1:Nat):Int):=by rw[IntWalk.wrap64_in _ om_];omega
  have hsq:s[q]? =b[k]? :=by rw[←hq];exact HAT.out k
  have hqb:q<n↔k<b.length:=by omega
  rw[hq];have HD:=hid hd;clear hlen hd;obtain⟨go,hgo⟩: ∃go:Bool,(go=true∧ ∃c,b[k]? =some c∧isD c=true)∨(go=false∧ ∀c,b[k]? =some c→isD c=false):=by
   cases hb:b[k]? with
   |none=>exact⟨false,.inr ⟨rfl,fun c h=>by cases h⟩⟩
   |some c=>
    cases hc:isD c with
    |true=>exact⟨true,.inl ⟨rfl,c,rfl,hc⟩⟩
    |false=>exact⟨false,.inr ⟨rfl,fun c' h=>by cases h;exact hc⟩⟩
  go_upto_region 7 with (fail)
  go_cut [30] from 21 to 42 (fun c wx=>c=.bool go∧wx=wr)
  case first=>
   cases hb:b[k]? with
   |none=>
    have d0:decide (q<n)=false:=decide_eq_false (by have:=List.getElem?_eq_none_iff.1 hb;omega);obtain rfl:go=false:=by rcases hgo with ⟨_,c,h,_⟩|⟨h,_⟩<;>simp_all
    clear hgo hb hsq hqb;go_wp2;go_meet
    case rel=>exact⟨rfl,rfl⟩
   |some c=>
    have hlt:q<n:=hqb.2 (List.getElem?_eq_some_iff.1 hb).1;have d0:decide (q<n)=true:=decide_eq_true hlt;have g0:=getB (hsq.trans hb);have KC:=hid (KD.out c);have hc:isD c=go:=by rcases hgo with ⟨h,c',h1,h2⟩|⟨h,h1⟩<;>simp_all
    rw[hc] at KC;clear hgo hb hsq hqb hc;go_wp2_with fail;(with_reducible refine(KC.out _).mono ?_)
    rintro e w1 ⟨rfl,rfl⟩
    go_wp2;go_meet
    case rel=>exact⟨rfl,rfl⟩
  case rest=>
  obtain⟨rfl,rfl⟩:=hcut;cases go with
  |true=>
   obtain⟨c,hb,hc⟩: ∃c,b[k]? =some c∧isD c=true:=by rcases hgo with ⟨_,h⟩|⟨h,_⟩;exact h;cases h
   have hlt:q<n:=hqb.2 (List.getElem?_eq_some_iff.1 hb).1;have hkl:=hqb.1 hlt;have g0:=getB (hsq.trans hb);have h8:=u8_digI hc;have hci:=(isD_iff c).1 hc;have htk:=take_succ hb;have hst:=numC_app (b.take k) c;rw[←htk] at hst;have hall: ∀x∈b.take (k+1),isD x=true:=by
    rw[htk];intro x hx;rcases List.mem_append.1 hx with h|h
    · exact HD.out x h
    · simp at h;subst h;exact hc
   obtain⟨z,hz⟩: ∃z:Int,(c.toNat:Int)-48=z:=⟨_,rfl⟩;rw[hz] at h8;have zb:0≤z∧z≤9:=by omega
   have HALL:=hid hall;have HST:=hid hst;have HZ:=hid hz;have HQ:=hid hq;generalize numC (b.take k)=N at*;clear hgo hb hc hsq hqb htk hall hst hci hz hq;by_cases hN:N≤1099511627776
   · have d1:decide (N≤1099511627776)=true:=decide_eq_true hN
     have e4:wrap64 (10*(N:Int))=10*(N:Int):=IntWalk.wrap64_in _ om_;have e5:wrap64 (10*(N:Int)+z)=10*(N:Int)+z:=IntWalk.wrap64_in _ om_;go_wp2;go_roundg (gk-1)
     case measure=>omega
     case rel=>exact⟨k+1,by rw[←HQ.out];rfl,by have:=HST.out;rw[if_pos hN] at this;rw[this];have:=HZ.out;congr 1;omega,om_,om_,HALL.out,rfl⟩
   · have d1:decide (N≤1099511627776)=false:=decide_eq_false hN
     go_wp2;go_roundg (gk-1)
     case measure=>omega
     case rel=>exact⟨k+1,by rw[←HQ.out];rfl,by have:=HST.out;rw[if_neg hN] at this;rw[this],om_,om_,HALL.out,rfl⟩
  |false=>
   have E1:=hid e1;clear e1;have q1000:q≤1000:=by omega
   have E2:Hid (wrap64 ((q:Int)+2)=((q+2:Nat):Int)):=hid (wq q 2 q1000 dc_);have E3:Hid (wrap64 ((q:Int)+3)=((q+3:Nat):Int)):=hid (wq q 3 q1000 dc_);have E4:Hid (wrap64 ((q:Int)-(i0:Int))=(k:Int)):=hid (wsub hq q1000);have hno: ∀c,b[k]? =some c→isD c=false:=by rcases hgo with ⟨h,_⟩|⟨_,h⟩;cases h;exact h
   obtain⟨hw1,hw2⟩:=while_at b k HD.out hno;have hR:=HR.out;rw[hw1,hw2] at hR;have hlk:(b.take k).length=k:=by rw[List.length_take];omega
   have hrl:(b.drop k).length+q=n:=by rw[List.length_drop];have:=HL.out;omega
   have hrs: ∀j,s[q+j]? =(b.drop k)[j]? :=fun j=>by rw[←hq,List.getElem?_drop,Nat.add_assoc];exact HAT.out _
   have hh0:0<k→(b.take k).head?=s[i0]? :=fun h=>by
    have:=HAT.out 0;rw[Nat.add_zero] at this;rw[this,List.head?_take,if_neg om_,List.head?_eq_getElem?]
   have hnil:(b.take k=[])↔k=0:=by rw[←List.length_eq_zero_iff,hlk]
   simp only[hnil,hlk] at hR;generalize numC (b.take k)=N at*;generalize b.drop k=R at*;generalize (b.take k).head?=hd at*;clear hgo hsq hqb hno hw1 hw2 HD HR HAT HL hlk hnil;have HRL:=hid hrl;have HRS:=hid hrs;clear hrl hrs;by_cases hk0:k=0
   · obtain rfl:i0=q:=by omega
     rw[if_pos (.inl hk0)] at hR;subst hR;clear hh0 hk0 hq E1 E2 E3 E4 HRL HRS HB HN HG KD hi0 hdn hk hkb;go_wp2;go_ret2
     exact⟨rfl,Below.refl _ _⟩
   have dq:((q:Int)==(i0:Int))=false:=by simp;omega
   have dq2:(q==i0)=false:=by simp;omega
   have dq3: ¬q=i0:=by omega
   have h48:=hh0 om_;obtain⟨c0,hc0⟩: ∃c0,s[i0]? =some c0:=by
    have:i0<s.length:=by rw[HN.out];omega
    exact⟨_,List.getElem?_eq_getElem this⟩
   rw[hc0] at h48;subst h48;have g0:=getB hc0;have p0:i0<n:=by omega
   by_cases hbad:1<k∧c0=48
   · obtain⟨h1,rfl⟩:=hbad
     rw[if_pos (.inr ⟨h1,rfl⟩)] at hR;subst hR;have d1:decide ((1:Int)<(q:Int)-(i0:Int))=true:=decide_eq_true om_;clear hh0 hk0 hq hc0 h1 E1 E2 E3 E4 HRL HRS HB HN HG KD hi0 hdn hk hkb;go_wp2;go_ret2
     exact⟨rfl,Below.refl _ _⟩
   rw[if_neg (fun h=>h.elim hk0 (fun h=>hbad ⟨h.1,by have:=h.2;simpa using this⟩))] at hR;have hlead:decide ((1:Int)<(q:Int)-(i0:Int))=false∨(decide ((1:Int)<(q:Int)-(i0:Int))=true∧((c0.toNat:Int)==48)=false):=by
    by_cases h1:1<k
    · refine .inr ⟨decide_eq_true om_,?_⟩
      apply beq_eq_false_iff_ne.2;intro h;exact hbad ⟨h1,UInt8.toNat.inj (by simp;omega)⟩
    · exact .inl (decide_eq_false om_)
   have hrl:=HRL.out;have hrs:=HRS.out;clear hh0 hbad hq hc0 hk0 E1 E2 E3 E4 HRL HRS HB HN KD hi0 hk hkb;have hshort:R.length<3∨ ∃x y z r,R=x::y::z::r:=by
    match R with
    | []=>exact .inl (by simp)
    | [_]=>exact .inl (by simp)
    | [_,_]=>exact .inl (by simp)
    |x::y::z::r=>exact .inr ⟨x,y,z,r,rfl⟩
   rcases hshort with hs3|⟨x,y,z,r,rfl⟩
   · have d3:decide ((n:Int)<(q:Int)+3)=true:=decide_eq_true om_
     rw[restR_bad (fun y z r h=>by rw[h.1] at hs3;simp at hs3;omega)] at hR;subst hR;clear hrl hrs hs3 hdn HG;rcases hlead with d1|⟨d1,d2⟩
     all_goals (go_wp2;go_ret2;exact⟨rfl,Below.refl _ _⟩)
   have d3:decide ((n:Int)<(q:Int)+3)=false:=decide_eq_false (by simp at hrl;omega);have p1:q<n:=by simp at hrl;omega
   have p2:0≤(q:Int)+1∧(q:Int)+1<(n:Int):=by simp at hrl;omega
   have p3:0≤(q:Int)+2∧(q:Int)+2<(n:Int):=by simp at hrl;omega
   have g1:=getB (s:=s) (k:=q) (c:=x) ((hrs 0).trans rfl);have g2:=getB ((hrs 1).trans rfl:s[q+1]? =some y);have g3:=getB ((hrs 2).trans rfl:s[q+2]? =some z);have hrr: ∀j,s[q+3+j]? =r[j]? :=fun j=>by rw[Nat.add_assoc,hrs];rw[Nat.add_comm 3 j];rfl
   have hrn:q+3+r.length=n:=by simp at hrl;omega
   have HRR:=hid hrr;have HRN:=hid hrn;clear hrl hrs hrr hrn;by_cases hx:x=45
   case neg=>
    have dx:((x.toNat:Int) != 45)=true:=by
     apply bne_iff_ne.2;intro h;exact hx (UInt8.toNat.inj (by simp;omega))
    rw[restR_bad (fun y z r h=>hx (by have:=h.1;simp at this;exact this.1))] at hR;subst hR;clear hx hdn HG HRR HRN;rcases hlead with d1|⟨d1,d2⟩
    all_goals (go_wp2;go_ret2;exact⟨rfl,Below.refl _ _⟩)
   subst hx;by_cases hy:isD y=true
   case neg=>
    rw[restR_bad (fun y' z' r' h=>hy (by have:=h.1;simp at this;rw[this.1];exact h.2.1))] at hR;subst hR;have hyi:=isD_iff y;have hcase:decide ((48:Int)≤(y.toNat:Int))=false∨(decide ((48:Int)≤(y.toNat:Int))=true∧decide ((y.toNat:Int)≤57)=false):=by
     by_cases h:48≤y.toNat
     · exact .inr ⟨decide_eq_true om_,decide_eq_false (fun h2=>hy (hyi.2 ⟨h,om_⟩))⟩
     · exact .inl (decide_eq_false om_)
    clear hy hyi hdn HG HRR HRN;rcases hlead with d1|⟨d1,d2⟩<;>rcases hcase with d4|⟨d4,d5⟩
    all_goals (go_wp2;go_ret2;exact⟨rfl,Below.refl _ _⟩)
   have hyi:=(isD_iff y).1 hy;have dy1:decide ((48:Int)≤(y.toNat:Int))=true:=decide_eq_true om_;have dy2:decide ((y.toNat:Int)≤57)=true:=decide_eq_true om_;by_cases hz:isD z=true
   case neg=>
    rw[restR_bad (fun y' z' r' h=>hz (by have:=h.1;simp at this;rw[this.2.1];exact h.2.2.1))] at hR;subst hR;have hyi:=isD_iff z;have hcase:decide ((48:Int)≤(z.toNat:Int))=false∨(decide ((48:Int)≤(z.toNat:Int))=true∧decide ((z.toNat:Int)≤57)=false):=by
     by_cases h:48≤z.toNat
     · exact .inr ⟨decide_eq_true om_,decide_eq_false (fun h2=>hz (hyi.2 ⟨h,om_⟩))⟩
     · exact .inl (decide_eq_false om_)
    clear hy hz hyi hdn HG HRR HRN;rcases hlead with d1|⟨d1,d2⟩<;>rcases hcase with d4|⟨d4,d5⟩
    all_goals (go_wp2;go_ret2;exact⟨rfl,Below.refl _ _⟩)
   have hzi:=(isD_iff z).1 hz;have dz1:decide ((48:Int)≤(z.toNat:Int))=true:=decide_eq_true om_;have dz2:decide ((z.toNat:Int)≤57)=true:=decide_eq_true om_;by_cases h53:y.toNat≤53
   case neg=>
    rw[restR_bad (fun y' z' r' h=>h53 (by have:=h.1;simp at this;rw[this.1];exact h.2.2.2))] at hR;subst hR;have d6:decide ((53:Int)<(y.toNat:Int))=true:=decide_eq_true om_;clear hy hz hyi hzi h53 hdn HG HRR HRN;rcases hlead with d1|⟨d1,d2⟩
    all_goals (go_wp2;go_ret2;exact⟨rfl,Below.refl _ _⟩)
   have d6:decide ((53:Int)<(y.toNat:Int))=false:=decide_eq_false om_;rw[restR_ok ⟨rfl,hy,hz,h53⟩] at hR;have h8y:=u8_digI hy;have h8z:=u8_digI hz;clear hy hz;go_upto_region 11 with (fail)
   go_cut [93] from 43 to 93 (fun c wx=>c=.bool false∧wx=wc)
   case first=>
    clear hR hyi hzi h53 hdn HG HRR HRN h8y h8z;rcases hlead with d1|⟨d1,d2⟩
    all_goals (go_wp2;go_meet;exact⟨rfl,rfl⟩)
   case rest=>
   obtain⟨rfl,rfl⟩:=hcut;clear dy1 dy2 dz1 dz2 d6 g1 p1 hlead g0 p0 dq dq2 dq3 d3;obtain⟨m,hm⟩: ∃m,10*(y.toNat-48)+(z.toNat-48)=m:=⟨_,rfl⟩;have hm8:10*(((y.toNat:Int)-48)%256)+((z.toNat:Int)-48)%256=(m:Int):=by omega
   have m60:m<60:=by omega
   rw[hm] at hR;have HM8:=hid hm8;have HR:=hid hR;clear hm hyi hzi h53 hm8 h8y h8z hR;go_upto_region 13 with (fail)
   go_region
   go_upto_if 114 with (fail)
   rw[HM8.out];clear HM8;have HDN:=hid hdn;have HL:=hid hl;clear hdn hl q1000 hqn;go_cut [9] from 94 to 158 (fun s9 wx=> ∃f:Nat,f≤1000∧s9=vi vk (f:Int)∧wx=wc.drew∧finR neg N m f=res)
   case first=>
    cases r with
    |nil=>
     have hn3:q+3=n:=by have:=HRN.out;simpa using this
     have d0:decide ((q:Int)+3<(n:Int))=false:=decide_eq_false om_;have d1:decide (q+3<n)=false:=decide_eq_false om_;have d2: ¬(q:Int)+3<(n:Int):=by omega
     have d3: ¬q+3<n:=by omega
     have hR:=HR.out;clear HR HRN HRR HG hn3;go_wp2;go_meet
     case rel=>exact⟨0,om_,rfl,rfl,hR⟩
    |cons p t=>
     have hn3:q+4+t.length=n:=by have:=HRN.out;simp at this;omega
     have p4:(q:Int)+3<(n:Int):=by omega
     have p5:q+3<n:=by omega
     have d0:decide ((q:Int)+3<(n:Int))=true:=decide_eq_true p4;obtain⟨w4,w7⟩:=wq2 (q:=q) (n:=n) om_ HL.out;have gp:=getB (s:=s) (k:=q+3) (c:=p) ((HRR.out 0).trans rfl);have hR:=HR.out;unfold secR at hR;simp only[] at hR;by_cases hp:p=46
     case neg=>
      rw[if_pos (.inl hp)] at hR;subst hR;have dp:((p.toNat:Int) != 46)=true:=by
       apply bne_iff_ne.2;intro h;exact hp (UInt8.toNat.inj (by simp;omega))
      clear HR HRN HRR HG hn3 hp;go_wp2;go_ret2
      exact⟨rfl,bl_drew (Below.refl _ _)⟩
     subst hp;by_cases ht:t=[]
     · subst ht
       rw[if_pos (.inr (.inl rfl))] at hR;subst hR;have dn:((n:Int)==(q:Int)+4)=true:=by simp at hn3;simp;omega
       clear HR HRN HRR HG hn3;go_wp2;go_ret2
       exact⟨rfl,bl_drew (Below.refl _ _)⟩
     have dn1:((n:Int)==(q:Int)+4)=false:=by
      have:0<t.length:=List.length_pos_iff.2 ht;simp;omega
     have dn2: ¬(n:Int)=(q:Int)+4:=by simpa using dn1
     by_cases h3:3<t.length
     · rw[if_pos (.inr (.inr (.inl h3)))] at hR
       subst hR;have d7:decide ((q:Int)+7<(n:Int))=true:=decide_eq_true om_;clear HR HRN HRR HG hn3 h3 ht;go_wp2;go_ret2
       exact⟨rfl,bl_drew (Below.refl _ _)⟩
     have d7:decide ((q:Int)+7<(n:Int))=false:=decide_eq_false om_;have hts: ∀j,s[q+4+j]? =t[j]? :=fun j=>by have:=HRR.out (j+1);rw[List.getElem?_cons_succ] at this;rw[←this];congr 1;omega
     have HTS:=hid hts;have HN4:=hid hn3;have HT:=hid ht;have H3:=hid h3;have HRF:=hid hR;clear HR HRN HRR hn3 hts h3 ht hR;go_wp2;go_loopg [5,9,10] (t.length+1) (fun gz s5 s9 s10 wr=> ∃(j f u:Nat),s5=vi vk ((q+4+j:Nat):Int)∧s9=vi vk (f:Int)∧s10=vi vk (u:Int)∧j+gz=t.length+1∧j≤t.length∧(∀c∈t.take j,isD c=true)∧fracR 100 t=f+fracR u (t.drop j)∧f+10*u≤1000∧wr=wc.drew)
     case atStart=>exact⟨0,0,100,by rw[w4];rfl,rfl,rfl,om_,om_,by simp,by simp,om_,rfl⟩
     case round=>
      obtain⟨j,f,u,rfl,rfl,rfl,hj,hjl,hd,hfr,hfu,rfl⟩:=hrel;have hn4:=HN4.out;obtain⟨a,ha⟩: ∃a,q+4+j=a:=⟨_,rfl⟩;have hsa:s[a]? =t[j]? :=by rw[←ha];exact HTS.out j
      have an:a≤n:=by omega
      have hab:a<n↔j<t.length:=by omega
      rw[ha];have HD:=hid hd;have HFR:=hid hfr;have HA:=hid ha;clear hn4 hd hfr ha w4 w7 dn1 dn2 d7 d0 p4 p5 gp;cases hb:t[j]? with
      |none=>
       have jl:j=t.length:=by have:=List.getElem?_eq_none_iff.1 hb;omega
       have da:decide (a<n)=false:=decide_eq_false om_;have da2: ¬a<n:=by omega
       have hall:t.all isD=true:=by
        rw[List.all_eq_true];intro c hc;exact HD.out c (by rw[jl,List.take_length];exact hc)
       have hff:fracR 100 t=f:=by rw[HFR.out,jl,List.drop_length];rfl
       have hR:=HRF.out;rw[if_neg (fun h=>h.elim (fun h=>h rfl) (fun h=>h.elim HT.out (fun h=>h.elim H3.out (fun h=>by rw[hall] at h;cases h)))),hff] at hR;clear HRF HT H3 HTS HN4 HD HFR HA hb hsa hab an hall hff jl;go_wp2;go_meet
       case rel=>exact⟨f,om_,rfl,rfl,hR⟩
      |some c=>
       have jl:j<t.length:=(List.getElem?_eq_some_iff.1 hb).1;have pa:a<n:=hab.2 jl;have da:decide (a<n)=true:=decide_eq_true pa;have ga:=getB (hsa.trans hb);have hci:=isD_iff c;cases hc:isD c with
       |false=>
        have hall:t.all isD=false:=by
         rw[Bool.eq_false_iff];intro h;rw[List.all_eq_true] at h;have:=h c (List.mem_of_getElem? hb);rw[hc] at this;cases this
        have hR:=HRF.out;rw[if_pos (.inr (.inr (.inr hall)))] at hR;subst hR;have hcase:decide ((48:Int)≤(c.toNat:Int))=false∨(decide ((48:Int)≤(c.toNat:Int))=true∧decide ((c.toNat:Int)≤57)=false):=by
         by_cases h:48≤c.toNat
         · exact .inr ⟨decide_eq_true om_,decide_eq_false (fun h2=>by have:=hci.2 ⟨h,om_⟩;rw[hc] at this;cases this)⟩
         · exact .inl (decide_eq_false om_)
        clear HRF HT H3 HTS HN4 HD HFR HA hb hsa hab an hall hci hc jl;rcases hcase with d4|⟨d4,d5⟩
        all_goals (go_wp2;go_ret2;exact⟨rfl,bl_drew (Below.refl _ _)⟩)
       |true=>
        have hcd:=hci.1 hc;have dy1:decide ((48:Int)≤(c.toNat:Int))=true:=decide_eq_true om_;have dy2:decide ((c.toNat:Int)≤57)=true:=decide_eq_true om_;have h8:=u8_digI hc;have htk:=take_succ hb;have hall: ∀x∈t.take (j+1),isD x=true:=by
         rw[htk];intro x hx;rcases List.mem_append.1 hx with h|h
         · exact HD.out x h
         · simp at h;subst h;exact hc
        obtain⟨hjj,hcc⟩:=List.getElem?_eq_some_iff.1 hb;have hfr:fracR 100 t=f+u*(c.toNat-48)+fracR (u/10) (t.drop (j+1)):=by
         rw[HFR.out,List.drop_eq_getElem_cons hjj,hcc,fracR];omega
        obtain⟨v,hv⟩: ∃v,c.toNat-48=v:=⟨_,rfl⟩;obtain⟨z,hz⟩: ∃z:Int,(c.toNat:Int)-48=z:=⟨_,rfl⟩;rw[hz] at h8;rw[hv] at hfr;have hzv:z=(v:Int):=by omega
        have v9:v≤9:=by omega
        have huv:u*v≤u*9:=Nat.mul_le_mul_left u v9;obtain⟨g,hg⟩: ∃g,u*v=g:=⟨_,rfl⟩;have hgz:(u:Int)*z=(g:Int):=by rw[hzv,←hg];exact(Int.natCast_mul u v).symm
        rw[hg] at huv hfr;have zb:0≤z∧z≤9:=by omega
        obtain⟨u2,hu2⟩: ∃k,u/10=k:=⟨_,rfl⟩;have hut:((u:Int)).tdiv 10=(u2:Int):=by rw[Int.tdiv_eq_ediv_of_nonneg om_];omega
        have hinv:f+g+10*u2≤1000:=by omega
        rw[hu2] at hfr;have hz256:((c.toNat:Int)-48)%256=z:=by omega
        have E9:Hid (wrap64 ((f:Int)+wrap64 ((u:Int)*(((c.toNat:Int)-48)%256)))=((f+g:Nat):Int)):=hid (by rw[hz256,hgz,IntWalk.wrap64_in (g:Int) om_,IntWalk.wrap64_in _ om_];omega);have E10:Hid (wrap64 (u2:Int)=(u2:Int)):=hid (IntWalk.wrap64_in _ om_);have E5:Hid (wrap64 ((a:Int)+1)=((q+4+(j+1):Nat):Int)):=hid (by have:=HA.out;have:=HL.out;rw[IntWalk.wrap64_in _ om_];omega);have HALL:=hid hall;have HF2:=hid hfr;have hjl2:j+1≤t.length:=jl;clear HRF HT H3 HTS HN4 HD HFR hb hsa hab an hall hci hcd hc htk hjj hcc hfr hv hz hzv huv hg hu2 jl hz256 h8 zb hgz;go_wp2;go_roundg (gk-1)
        case measure=>omega
        case rel=>exact⟨j+1,f+g,u2,congrArg (Value.int .i64) E5.out,congrArg (Value.int .i64) E9.out,rfl,om_,hjl2,HALL.out,HF2.out,hinv,rfl⟩
   case rest=>
   obtain⟨f,hf,rfl,rfl,hfin⟩:=hcut;have hl:=HL.out;have hdn:=HDN.out;have hneg:=HG.out;unfold finR at hfin;clear HR HRR HRN HL HDN HG p2 p3 g2 g3 hl;by_cases h1:18325193<N
   · have d0:decide (18325193<N)=true:=decide_eq_true h1
     have d1:decide ((18325193:Int)<(N:Int))=true:=decide_eq_true om_;rw[if_pos h1] at hfin;subst hfin;clear hneg;go_wp2;go_ret2
     exact⟨rfl,bl_drew (Below.refl _ _)⟩
   have d0:decide (18325193<N)=false:=decide_eq_false h1;have d1:decide ((18325193:Int)<(N:Int))=false:=decide_eq_false om_;have d2: ¬(18325193:Int)<(N:Int):=by omega
   rw[if_neg h1] at hfin;have hV:((N*60000+m*1000+f:Nat):Int)=(N:Int)*60000+(m:Int)*1000+(f:Int):=by omega
   have hm9:m<60:=m60;by_cases h2:1099511627776<N*60000+m*1000+f
   · rw[if_pos h2] at hfin
     subst hfin;obtain⟨e6,e7,e8,e9,e0⟩:=wfin (N:=N) (m:=m) (f:=f) om_ hm9 hf;have d3:decide ((1099511627776:Int)<(N:Int)*60000+(m:Int)*1000+(f:Int))=true:=decide_eq_true om_;clear hneg hV h1 h2;go_wp2;go_ret2
     exact⟨rfl,bl_drew (Below.refl _ _)⟩
   rw[if_neg h2] at hfin;obtain⟨e6,e7,e8,e9,e0⟩:=wfin (N:=N) (m:=m) (f:=f) om_ hm9 hf;have d3:decide ((1099511627776:Int)<(N:Int)*60000+(m:Int)*1000+(f:Int))=false:=decide_eq_false om_;cases neg with
   |true=>
    obtain rfl:i0=1:=of_decide_eq_true hneg.symm;rw[if_pos rfl] at hfin;subst hfin;have HV:=hid hV;clear hneg hV h1 h2;go_wp2;go_ret2
    exact⟨rfl,bl_drew (Below.refl _ _)⟩
   |false=>
    have hi1:((i0:Int)==1)=false:=by
     have:=of_decide_eq_false hneg.symm;simp;omega
    have hi2: ¬i0=1:=of_decide_eq_false hneg.symm;rw[if_neg dc_] at hfin;subst hfin;have HV:=hid hV;clear hneg hV h1 h2;go_wp2;go_ret2
    exact⟨rfl,bl_drew (Below.refl _ _)⟩
end
section
open Go.Shelf Frm
theorem rangle_any(z:Bs)(w:World)(l1:z.length≤400):
 Calls Tryz.prog 45 #[tx z] w fun e w'=>(∃(k:Int) (ok:Bool),e=.returned (.tuple #[vi vk k,.bool ok])∧(ok=true→z=textL k∧k.natAbs≤1099511627776)∧(ok=false→ ¬ ∃n:Int,z=textL n∧n.natAbs≤1099511627776))∧Below w.heap.size w w':=by
 have hbd:=parseR_bd z;have KP:=hid (fun W=>rparse_any z W om_);have KT:=hid (fun W=>rtext_any (parseR z).1 W om_);have hpt: ∀m:Int,z=textL m→m.natAbs≤1099511627776→parseR z=(m,0):=fun m hm hb=>by rw[hm];exact parseR_text hb
 obtain⟨q,hq⟩: ∃q,parseR z=q:=⟨_,rfl⟩;rw[hq] at KP KT hpt hbd;obtain⟨n,E⟩:=q;simp only[] at KP KT hbd;have HPT:=hid hpt;clear hq hpt;by_cases hE:E=0
 · subst hE
   by_cases hz:textL n=z
   · have q1:=(bs_eq hz).1
     have HZ:=hid hz;have HB:=hid hbd;subst hz;go_enter func45,ntmps45;go_wp2_with (first|(go_at_call 90;(with_reducible refine(KP.out _).mono ?_);rintro e w1 ⟨rfl,hb1⟩)|(go_at_call 33;(with_reducible refine(KT.out _).mono ?_);rintro e w2 ⟨rfl,hb2⟩));go_ret2
     exact⟨⟨_,_,rfl,fun _=>⟨rfl,by have:=HB.out;omega⟩,fun h=>by simp at h⟩,hb1.trans (hb2.mono hb1.size)⟩
   · have q1:=(bs_ne hz).1
     have q2:=(bs_ne hz).2.1;have HZ:=hid hz;clear hz;go_enter func45,ntmps45;go_wp2_with (first|(go_at_call 90;(with_reducible refine(KP.out _).mono ?_);rintro e w1 ⟨rfl,hb1⟩)|(go_at_call 33;(with_reducible refine(KT.out _).mono ?_);rintro e w2 ⟨rfl,hb2⟩));go_ret2
     refine⟨⟨_,_,rfl,fun h=>by simp at h,fun _ ⟨m,h1,h2⟩=>?_⟩,hb1.trans (hb2.mono hb1.size)⟩;have:=HPT.out m h1 h2;injection this with h3 _
     exact HZ.out (by rw[h3];exact h1.symm)
 · have dE:((E:Int)==0)=false:=by simpa using hE
   have HE:=hid hE;clear hE;go_enter func45,ntmps45;go_wp2_with (first|(go_at_call 90;(with_reducible refine(KP.out _).mono ?_);rintro e w1 ⟨rfl,hb1⟩)|(go_at_call 33;(with_reducible refine(KT.out _).mono ?_);rintro e w2 ⟨rfl,hb2⟩));go_ret2
   refine⟨⟨_,_,rfl,fun h=>by simp at h,fun _ ⟨m,h1,h2⟩=>?_⟩,hb1⟩;have:=HPT.out m h1 h2;injection this with _ h4
   exact HE.out h4
end
end Go.Proofs.YtbpnacacnncopaaGreatDoor
