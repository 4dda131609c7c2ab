/- The walks of the reference's Side, and of Agrees and agrees of layer 39 at valid circles and cells. -/
import Derived.Test.YtdeiofgddhbdaaaGreatHNa
set_option linter.unusedSimpArgs false
set_option linter.unusedVariables false
set_option maxHeartbeats 4000000
set_option maxRecDepth 100000
open Go.RowKit
open Go.Lib (hid)
open Go.Proofs.Tryz
open Go.Value renaming int→vi
open Go.IntKind renaming i64→vk
namespace Go.Proofs.YtdeiofgddhbdaaaGreat
section
open Canon
def parC(x:Cl):Cl:=(x.1-1,x.2.1/2,x.2.2/2)
def four4(L:List Cl):Bool:=decide (4≤L.length)&&(decide (0<(gt L (L.length-4)).1)&&decide (kidsC (parC (gt L (L.length-4)))=L.drop (L.length-4)))
def mg1(L:List Cl):List Cl:=L.take (L.length-4)++[parC (gt L (L.length-4))]
def mgF:Nat→List Cl→List Cl
 |0,L=>L
 |f+1,L=>if four4 L=true then mgF f (mg1 L) else L
theorem par_kids{p:Cl}: ∀x∈kidsC p,parC x=p:=by
 obtain⟨l,r,c⟩:=p;intro x hx;simp only[kidsC,kids,List.mem_cons,List.not_mem_nil,or_false] at hx;rcases hx with rfl|rfl|rfl|rfl<;>(simp only[parC,Prod.mk.injEq];omega)
theorem par_vl{x:Cl}(hx:Vl x)(h:0<x.1):Vl (parC x):=by
 obtain⟨a0,a1,a2,a3,a4,a5⟩:=hx;have e:x.1.toNat=(x.1-1).toNat+1:=by omega
 rw[e,Nat.pow_succ] at a3 a5;unfold parC;constructor<;>simp only[]<;>omega
theorem drop_four(L:List Cl)(h:4≤L.length):L.drop (L.length-4)=[gt L (L.length-4),gt L (L.length-4+1),gt L (L.length-4+2),gt L (L.length-4+3)]:=by
 have e: ∀j,j<L.length→L.drop j=gt L j::L.drop (j+1):=fun j hj=>by
  rw[List.drop_eq_getElem_cons hj];simp[gt,hj]
 rw[e _ om_,e _ om_,e _ om_,e _ om_,List.drop_of_length_le om_]
theorem four4_iff{L:List Cl}(hL:AllV L):four4 L=true↔4≤L.length∧ ∃h n,h<16∧(L.drop (L.length-4)).map blkOf=kidsB h n:=by
 unfold four4;rw[Bool.and_eq_true,Bool.and_eq_true,decide_eq_true_eq,decide_eq_true_eq,decide_eq_true_eq];constructor
 · rintro⟨h4,h0,hk⟩
   refine⟨h4,?_⟩;have hx:=gt_v hL (i:=L.length-4) om_;generalize gt L (L.length-4)=x at h0 hk hx;have hp:=par_vl hx h0;have hl:(parC x).1<16:=by have:=hx.l1;simp only[parC];omega
   rw[←hk,kids_blk hp hl];refine⟨_,_,?_,rfl⟩;have:(blkOf (parC x)).1=16-(parC x).1.toNat:=rfl;have h0':=hp.l0;omega
 · rintro⟨h4,h,n,hh,he⟩
   refine⟨h4,?_⟩;have hd:=drop_four L h4;have hv:AllV (L.drop (L.length-4)):=fun x hx=>hL x (List.mem_of_mem_drop hx);have hu:Vl (gt L (L.length-4+3)):=gt_v hL om_;have hlt:=(blk_lt _ hu).2;have hux:blkOf (gt L (L.length-4+3))=(h,4*n+3):=by
    rw[hd] at he;simp only[List.map_cons,List.map_nil,kidsB,List.cons.injEq,and_true] at he;exact he.2.2.2
   rw[hux] at hlt;simp only[] at hlt;have hpv:Vl (cellB (h+1,n)):=by
    refine cellB_vl _ so_ ?_;simp only[];rw[show 16-h=(16-(h+1))+1 by omega,Nat.pow_succ] at hlt;omega
   have hb:=blkOf_cellB (h+1,n) so_;have hl:(cellB (h+1,n)).1<16:=by
    simp only[cellB,cellN];omega
   have hk:=kids_blk hpv hl;rw[hb] at hk;simp only[Nat.add_sub_cancel] at hk;have e:L.drop (L.length-4)=kidsC (cellB (h+1,n)):=by
    rw[←map_blk_back hv,←map_blk_back (kids_vl hpv hl),he,hk]
   have hx:gt L (L.length-4)∈kidsC (cellB (h+1,n)):=by rw[←e,hd];exact List.mem_cons_self ..
   rw[par_kids _ hx,e];refine⟨?_,rfl⟩;have hp0:=hpv.l0;generalize cellB (h+1,n)=p at hx hp0;obtain⟨pl,pr,pc⟩:=p;simp only[kidsC,kids,List.mem_cons,List.not_mem_nil,or_false] at hx;simp only[] at hp0;rcases hx with hx|hx|hx|hx<;>(rw[hx];simp only[];omega)
def Td(L:List Cl):Prop:=AllV L∧(L.map blkOf).Pairwise before2∧NoFour (L.map blkOf)
theorem td_iff{L:List Cl}(hL:AllV L):Td L↔canonC (covL L)=L:=by
 rw[tidy_iff hL,pairs_iff hL,fours_iff hL];exact⟨fun h=>h.2,fun h=>⟨hL,h⟩⟩
theorem td_take{L:List Cl}(h:Td L)(k:Nat):Td (L.take k):=by
 obtain⟨h1,h2,h3⟩:=h;refine⟨fun x hx=>h1 x (List.mem_of_mem_take hx),?_,?_⟩
 · rw[List.map_take];exact h2.sublist (List.take_sublist _ _)
 · intro hh n pre suf e
   refine h3 hh n pre (suf++(L.map blkOf).drop k) ?_;rw[List.map_take] at e;have:=(List.take_append_drop k (L.map blkOf)).symm;rw[e] at this;simpa using this
theorem cov_appL(A B:List Cl)(q:Nat):covL (A++B) q↔(covL A q∨covL B q):=by
 unfold covL;simp only[List.mem_append];constructor
 · rintro⟨x,h|h,hq⟩
   · exact .inl ⟨x,h,hq⟩
   · exact .inr ⟨x,h,hq⟩
 · rintro(⟨x,h,hq⟩|⟨x,h,hq⟩)
   · exact⟨x,.inl h,hq⟩
   · exact⟨x,.inr h,hq⟩
theorem cov_one(x:Cl)(q:Nat):covL [x] q↔(spF x≤q∧q<spT x):=by simp[covL]
theorem cov_kids{p:Cl}(hp:Vl p)(h:p.1<16)(q:Nat):covL (kidsC p) q↔covL [p] q:=by
 show(covL (kidsC p) q↔covL [p] q)
 unfold covL;rw[←covB_map,←covB_map];rw[kids_blk hp h];obtain⟨k,hb⟩: ∃k,(blkOf p).1=k+1:=⟨(blkOf p).1-1,by
  have:(blkOf p).1=16-p.1.toNat:=rfl;have:=hp.l0;omega⟩
 rw[covS,covS];simp only[List.map_cons,List.map_nil,List.mem_singleton,exists_eq_left];rw[hb];simp only[Nat.add_sub_cancel];generalize (blkOf p).2=n;have e:4^(k+1)=4*4^k:=by rw[Nat.pow_succ];omega
 rw[e];generalize hu:4^k=u;simp only[kidsB,List.mem_cons,List.not_mem_nil,or_false];have m0:4*n*u=4*(n*u):=by rw[Nat.mul_assoc]
 have m1:n*(4*u)=4*(n*u):=by rw[←Nat.mul_assoc,Nat.mul_comm n 4,Nat.mul_assoc]
 have m2:(n+1)*(4*u)=4*(n*u)+4*u:=by rw[Nat.add_mul,m1];omega
 have a1:(4*n+1)*u=4*(n*u)+u:=by rw[Nat.add_mul,m0];omega
 have a2:(4*n+2)*u=4*(n*u)+2*u:=by rw[Nat.add_mul,m0]
 have a3:(4*n+3)*u=4*(n*u)+3*u:=by rw[Nat.add_mul,m0]
 have a4:(4*n+3+1)*u=4*(n*u)+4*u:=by rw[show 4*n+3+1=4*n+4 by omega,Nat.add_mul,m0]
 have b1:(4*n+1+1)*u=4*(n*u)+2*u:=a2;have b2:(4*n+2+1)*u=4*(n*u)+3*u:=a3;constructor
 · rintro⟨b,rfl|rfl|rfl|rfl,h1,h2⟩<;>simp only[hu] at h1 h2<;>(constructor<;>omega)
 · rintro⟨h1,h2⟩
   by_cases c1:q<(4*n+1)*u
   · exact⟨(k,4*n),.inl rfl,by simp only[hu];omega,by simp only[hu];omega⟩
   · by_cases c2:q<(4*n+2)*u
     · exact⟨(k,4*n+1),.inr (.inl rfl),by simp only[hu];omega,by simp only[hu];rw[show 4*n+1+1=4*n+2 by omega];omega⟩
     · by_cases c3:q<(4*n+3)*u
       · exact⟨(k,4*n+2),.inr (.inr (.inl rfl)),by simp only[hu];omega,by simp only[hu];rw[show 4*n+2+1=4*n+3 by omega];omega⟩
       · exact⟨(k,4*n+3),.inr (.inr (.inr rfl)),by simp only[hu];omega,by simp only[hu];omega⟩
theorem cov_v{L:List Cl}(hL:AllV L){q:Nat}(h:covL L q):q<2*4^16:=by
 obtain⟨x,hx,-,h2⟩:=h;have hv:=hL x hx;obtain⟨g1,g2⟩:=blk_lt x hv;rw[spT_blk] at h2;have e:4^(16-(blkOf x).1)*4^(blkOf x).1=4^16:=by rw[←Nat.pow_add];congr 1;omega
 have:((blkOf x).2+1)*4^(blkOf x).1≤(2*4^(16-(blkOf x).1))*4^(blkOf x).1:=Nat.mul_le_mul_right _ om_;rw[Nat.mul_assoc,e] at this;omega
theorem sp_pos(x:Cl):spF x<spT x:=by
 rw[spF_blk,spT_blk];exact Nat.mul_lt_mul_of_pos_right om_ (Nat.pow_pos om_)
theorem mg_step{O:List Cl}{c:Cl}(hO:Td O)(hc:Vl c)(hb: ∀x∈O,before2 (blkOf x) (blkOf c)):
 (four4 (O++[c])=false→Td (O++[c]))∧(four4 (O++[c])=true→ ∃p,mg1 (O++[c])=O.take (O.length-3)++[p]∧Vl p∧(∀x∈O.take (O.length-3),before2 (blkOf x) (blkOf p))∧ ∀q,covL (O.take (O.length-3)++[p]) q↔covL (O++[c]) q):=by
 have hV:AllV (O++[c]):=by
  intro x hx;rcases List.mem_append.1 hx with hx|hx
  · exact hO.1 x hx
  · simp at hx;subst hx;exact hc
 have hP:((O++[c]).map blkOf).Pairwise before2:=by
  rw[List.map_append,List.pairwise_append];refine⟨hO.2.1,by simp,?_⟩;intro a ha b hb';obtain⟨x,hx,rfl⟩:=List.mem_map.1 ha;simp at hb';subst hb';exact hb x hx
 constructor
 · intro h4
   refine⟨hV,hP,?_⟩;intro h n pre suf e hh;rcases List.eq_nil_or_concat suf with rfl|⟨s',l,rfl⟩
   · have h4':four4 (O++[c])=true:=by
      rw[four4_iff hV];have hl:=congrArg List.length e;simp[kidsB] at hl;refine⟨by simp;omega,h,n,hh,?_⟩;rw[List.map_drop,e];simp only[List.append_nil,List.length_append,List.length_cons,List.length_nil];rw[show O.length+(0+1)-4=pre.length by omega,List.drop_left]
     rw[h4] at h4';cases h4'
   · rw[List.map_append,List.map_cons,List.map_nil,List.concat_eq_append,←List.append_assoc,←List.append_assoc] at e
     have:=(List.append_inj' e rfl).1;exact hO.2.2 h n pre s' (by rw[this,List.append_assoc]) hh
 · intro h4
   have h4':=h4;unfold four4 at h4;rw[Bool.and_eq_true,Bool.and_eq_true,decide_eq_true_eq,decide_eq_true_eq,decide_eq_true_eq] at h4;obtain⟨hn,h0,hk⟩:=h4;have hl:(O++[c]).length-4=O.length-3:=by simp
   have hn':3≤O.length:=by simp at hn;omega
   have hx:=gt_v hV (i:=(O++[c]).length-4) (by simp;omega);unfold mg1;rw[hl] at hk hx h0⊢;generalize gt (O++[c]) (O.length-3)=x at hk hx h0⊢;have hp:=par_vl hx h0;have hlt:(parC x).1<16:=by have:=hx.l1;simp only[parC];omega
   have ht:(O++[c]).take (O.length-3)=O.take (O.length-3):=List.take_append_of_le_length om_;rw[ht];have hsplit:(O++[c])=O.take (O.length-3)++kidsC (parC x):=by rw[hk,←ht,List.take_append_drop]
   refine⟨_,rfl,hp,?_,?_⟩
   · intro y hy
     have hPs:=hP;rw[hsplit,List.map_append,List.pairwise_append] at hPs;have h1:=hPs.2.2 (blkOf y) (List.mem_map.2 ⟨y,hy,rfl⟩);rw[kids_blk hp hlt] at h1;have h2:=h1 _ (List.mem_cons_self ..);unfold before2 at h2⊢;simp only[] at h2;obtain⟨k,hb'⟩: ∃k,(blkOf (parC x)).1=k+1:=⟨(blkOf (parC x)).1-1,by
      have:(blkOf (parC x)).1=16-(parC x).1.toNat:=rfl;have:=hp.l0;omega⟩
     rw[hb'] at h2⊢;simp only[Nat.add_sub_cancel] at h2;have e:(blkOf (parC x)).2*4^(k+1)=4*(blkOf (parC x)).2*4^k:=by rw[Nat.pow_succ,Nat.mul_comm (4^k) 4,←Nat.mul_assoc,Nat.mul_comm _ 4]
     rw[e];exact h2
   · intro q
     rw[cov_appL,hsplit,cov_appL,cov_kids hp hlt]
theorem mgF_ok: ∀(f:Nat) (O:List Cl) (c:Cl),Td O→Vl c→(∀x∈O,before2 (blkOf x) (blkOf c))→O.length<f→mgF f (O++[c])=canonC (covL (O++[c]))∧Td (mgF f (O++[c])):=by
 intro f;induction f with
 |zero=>intro O c _ _ _ h;omega
 |succ f ih=>
  intro O c hO hc hb hf;obtain⟨s1,s2⟩:=mg_step hO hc hb;unfold mgF;cases h4:four4 (O++[c]) with
  |false=>
   have ht:=s1 h4;simp only[Bool.false_eq_true,if_false];exact⟨((td_iff ht.1).1 ht).symm,ht⟩
  |true=>
   obtain⟨p,e,hp,hbp,hcov⟩:=s2 h4;simp only[if_true];have hlen:3≤O.length:=by
    unfold four4 at h4;rw[Bool.and_eq_true,decide_eq_true_eq] at h4;have:=h4.1;simp at this;omega
   rw[e];obtain⟨i1,i2⟩:=ih (O.take (O.length-3)) p (td_take hO _) hp hbp (by simp;omega);exact⟨by rw[i1];exact canonC_congr hcov,i2⟩
def arnL(mt:Cl→Bool)(lev:Int):Nat→Cl→List Cl
 |0,c=>if mt c=true then(if c.1=lev then[c] else[]) else[]
 |f+1,c=>if mt c=true then(if c.1=lev then[c] else(kidsC c).flatMap (arnL mt lev f)) else[]
def covP(mt ins:Cl→Bool)(lev:Int):Nat→Cl→List Cl→List Cl
 |0,c,O=>if mt c=true then mgF (O.length+1) (O++[c]) else O
 |f+1,c,O=>if mt c=true then(if c.1=lev∨ins c=true then mgF (O.length+1) (O++[c]) else(kidsC c).foldl (fun O x=>covP mt ins lev f x O) O) else O
theorem arn_v{mt:Cl→Bool}{lev:Int}(h16:lev≤16): ∀(f:Nat) (c:Cl),Vl c→c.1+f=lev→AllV (arnL mt lev f c)∧ ∀q,covL (arnL mt lev f c) q→covL [c] q:=by
 intro f;induction f with
 |zero=>
  intro c hc hl;unfold arnL;split
  · split
    · exact⟨fun x hx=>by simp at hx;subst hx;exact hc,fun q h=>h⟩
    · exact⟨fun x hx=>(by cases hx),fun q h=>(by obtain⟨x,hx,-⟩:=h;cases hx)⟩
  · exact⟨fun x hx=>(by cases hx),fun q h=>(by obtain⟨x,hx,-⟩:=h;cases hx)⟩
 |succ f ih=>
  intro c hc hl;unfold arnL;split
  · split
    · exact⟨fun x hx=>by simp at hx;subst hx;exact hc,fun q h=>h⟩
    · have hlt:c.1<16:=by omega
      have hkv:=kids_vl hc hlt;have hkl: ∀x∈kidsC c,x.1+f=lev:=by
       intro x hx;simp only[kidsC,kids,List.mem_cons,List.not_mem_nil,or_false] at hx;rcases hx with rfl|rfl|rfl|rfl<;>(simp only[];omega)
      refine⟨fun x hx=>?_,fun q h=>?_⟩
      · obtain⟨y,hy,hxy⟩:=List.mem_flatMap.1 hx
        exact(ih y (hkv y hy) (hkl y hy)).1 x hxy
      · obtain⟨x,hx,hq⟩:=h
        obtain⟨y,hy,hxy⟩:=List.mem_flatMap.1 hx;have:=(ih y (hkv y hy) (hkl y hy)).2 q ⟨x,hxy,hq⟩;rw[←cov_kids hc hlt];rw[cov_one] at this;exact⟨y,hy,this⟩
  · exact⟨fun x hx=>(by cases hx),fun q h=>(by obtain⟨x,hx,-⟩:=h;cases hx)⟩
theorem can_v(X:List Cl)(hX:AllV X):AllV (canonC (covL X)):=by
 have e:canonC (covL X)=regB (covB (X.map blkOf)):=canonC_congr fun q=>(covB_map X q).symm;rw[e];exact reg_v _
theorem can_cov{X:List Cl}(hX:AllV X)(q:Nat):covL (canonC (covL X)) q↔covL X q:=by
 have hv:=can_v X hX;by_cases hq:q<2*4^16
 · have h:=cov_canonC (covL X) q hq
   rw[covB_map] at h;exact h
 · exact⟨fun h=>absurd (cov_v hv h) hq,fun h=>absurd (cov_v hX h) hq⟩
theorem can_td{X:List Cl}(hX:AllV X):Td (canonC (covL X)):=(td_iff (can_v X hX)).2 (canonC_congr (can_cov hX))
theorem ins_full{mt ins:Cl→Bool}{lev:Int}(h16:lev≤16)(hins: ∀x,Vl x→x.1<lev→ins x=true→ ∀y∈kidsC x,ins y=true∧mt y=true): ∀(f:Nat) (c:Cl),Vl c→c.1+f=lev→mt c=true→ins c=true→ ∀q,covL (arnL mt lev f c) q↔covL [c] q:=by
 intro f;induction f with
 |zero=>
  intro c hc hl hm hi q;unfold arnL;rw[if_pos hm,if_pos om_]
 |succ f ih=>
  intro c hc hl hm hi q;have hlt:c.1<16:=by omega
  unfold arnL;rw[if_pos hm,if_neg om_,←cov_kids hc hlt];have hkv:=kids_vl hc hlt;have hkl: ∀x∈kidsC c,x.1+f=lev:=by
   intro x hx;simp only[kidsC,kids,List.mem_cons,List.not_mem_nil,or_false] at hx;rcases hx with rfl|rfl|rfl|rfl<;>(simp only[];omega)
  have hki:=hins c hc om_ hi;constructor
  · rintro⟨x,hx,hq⟩
    obtain⟨y,hy,hxy⟩:=List.mem_flatMap.1 hx;have:=(ih y (hkv y hy) (hkl y hy) (hki y hy).2 (hki y hy).1 q).1 ⟨x,hxy,hq⟩;rw[cov_one] at this;exact⟨y,hy,this⟩
  · rintro⟨y,hy,hq⟩
    obtain⟨x,hx,hq'⟩:=(ih y (hkv y hy) (hkl y hy) (hki y hy).2 (hki y hy).1 q).2 ((cov_one y q).2 hq);exact⟨x,List.mem_flatMap.2 ⟨y,hy,hx⟩,hq'⟩
theorem kids_sp{c:Cl}(hc:Vl c)(h:c.1<16):spF (gt (kidsC c) 0)=spF c∧spT (gt (kidsC c) 0)=spF (gt (kidsC c) 1)∧spT (gt (kidsC c) 1)=spF (gt (kidsC c) 2)∧spT (gt (kidsC c) 2)=spF (gt (kidsC c) 3):=by
 have hk:=kids_blk hc h;have e:kidsC c=[gt (kidsC c) 0,gt (kidsC c) 1,gt (kidsC c) 2,gt (kidsC c) 3]:=rfl;rw[e] at hk;simp only[List.map_cons,List.map_nil,kidsB,List.cons.injEq,and_true] at hk;obtain⟨k0,k1,k2,k3⟩:=hk;obtain⟨k,hb⟩: ∃k,(blkOf c).1=k+1:=⟨(blkOf c).1-1,by
  have:(blkOf c).1=16-c.1.toNat:=rfl;have:=hc.l0;omega⟩
 rw[spF_blk,spF_blk,spF_blk,spF_blk,spF_blk,spT_blk,spT_blk,spT_blk,k0,k1,k2,k3,hb];simp only[Nat.add_sub_cancel];refine⟨?_,trivial,trivial,trivial⟩;rw[Nat.pow_succ,Nat.mul_comm (4^k) 4,←Nat.mul_assoc,Nat.mul_comm _ 4]
theorem cov_ok{mt ins:Cl→Bool}{lev:Int}(h16:lev≤16)(hins: ∀x,Vl x→x.1<lev→ins x=true→ ∀y∈kidsC x,ins y=true∧mt y=true): ∀(f:Nat) (c:Cl) (X:List Cl),Vl c→c.1+f=lev→AllV X→(∀q,covL X q→q<spF c)→covP mt ins lev f c (canonC (covL X))=canonC (covL (X++arnL mt lev f c)):=by
 have leaf: ∀(c:Cl) (X A:List Cl),Vl c→AllV X→(∀q,covL X q→q<spF c)→(∀q,covL A q↔covL [c] q)→mgF ((canonC (covL X)).length+1) (canonC (covL X)++[c])=canonC (covL (X++A)):=by
  intro c X A hc hX hlt hA;have hv:=can_v X hX;rw[(mgF_ok _ (canonC (covL X)) c (can_td hX) hc (fun x hx=>by
   have h1:=hlt (spT x-1) ((can_cov hX _).1 ⟨x,hx,by have:=sp_pos x;omega,by have:=sp_pos x;omega⟩);show(blkOf x).2.succ*4^(blkOf x).1≤(blkOf c).2*4^(blkOf c).1
   have h2:spT x≤spF c:=by have:=sp_pos x;omega
   exact h2) om_).1]
  refine canonC_congr fun q=>?_;rw[cov_appL,cov_appL,can_cov hX,hA]
 intro f;induction f with
 |zero=>
  intro c X hc hl hX hlt;unfold covP arnL;by_cases hm:mt c=true
  · rw[if_pos hm,if_pos hm,if_pos om_]
    exact leaf c X [c] hc hX hlt (fun _=>Iff.rfl)
  · rw[if_neg hm,if_neg hm,List.append_nil]
 |succ f ih=>
  intro c X hc hl hX hlt;have hc16:c.1<16:=by omega
  by_cases hm:mt c=true
  · by_cases hi:ins c=true
    · have hfull:=ins_full h16 hins (f+1) c hc hl hm hi
      unfold covP;rw[if_pos hm,if_pos (.inr hi)];exact leaf c X _ hc hX hlt hfull
    · unfold covP arnL
      rw[if_pos hm,if_pos hm,if_neg (by intro h;rcases h with h|h;omega;exact hi h),if_neg om_];have hkv:=kids_vl hc hc16;have hkl: ∀x∈kidsC c,x.1+f=lev:=by
       intro x hx;simp only[kidsC,kids,List.mem_cons,List.not_mem_nil,or_false] at hx;rcases hx with rfl|rfl|rfl|rfl<;>(simp only[];omega)
      obtain⟨s0,s1,s2,s3⟩:=kids_sp hc hc16;have e:kidsC c=[gt (kidsC c) 0,gt (kidsC c) 1,gt (kidsC c) 2,gt (kidsC c) 3]:=rfl;rw[e] at hkv hkl⊢;generalize gt (kidsC c) 0=y0 at*;generalize gt (kidsC c) 1=y1 at*;generalize gt (kidsC c) 2=y2 at*;generalize gt (kidsC c) 3=y3 at*;clear e;have v0:=hkv y0 (by simp);have v1:=hkv y1 (by simp);have v2:=hkv y2 (by simp);have v3:=hkv y3 (by simp);have a0:=arn_v (mt:=mt) h16 f y0 v0 (hkl y0 (by simp));have a1:=arn_v (mt:=mt) h16 f y1 v1 (hkl y1 (by simp));have a2:=arn_v (mt:=mt) h16 f y2 v2 (hkl y2 (by simp));have p0:=sp_pos y0;have p1:=sp_pos y1;have p2:=sp_pos y2;have vapp: ∀{A B:List Cl},AllV A→AllV B→AllV (A++B):=fun hA hB x hx=>(List.mem_append.1 hx).elim (hA x) (hB x);have x1:AllV (X++arnL mt lev f y0):=vapp hX a0.1;have x2:AllV (X++arnL mt lev f y0++arnL mt lev f y1):=vapp x1 a1.1;have x3:AllV (X++arnL mt lev f y0++arnL mt lev f y1++arnL mt lev f y2):=vapp x2 a2.1;have l1: ∀q,covL (X++arnL mt lev f y0) q→q<spF y1:=by
       intro q hq;rcases (cov_appL _ _ q).1 hq with h|h
       · have:=hlt q h;omega
       · have:=(cov_one y0 q).1 (a0.2 q h);omega
      have l2: ∀q,covL (X++arnL mt lev f y0++arnL mt lev f y1) q→q<spF y2:=by
       intro q hq;rcases (cov_appL _ _ q).1 hq with h|h
       · have:=l1 q h;omega
       · have:=(cov_one y1 q).1 (a1.2 q h);omega
      have l3: ∀q,covL (X++arnL mt lev f y0++arnL mt lev f y1++arnL mt lev f y2) q→q<spF y3:=by
       intro q hq;rcases (cov_appL _ _ q).1 hq with h|h
       · have:=l2 q h;omega
       · have:=(cov_one y2 q).1 (a2.2 q h);omega
      simp only[List.foldl_cons,List.foldl_nil];rw[ih y0 X v0 (hkl y0 (by simp)) hX (by rw[s0];exact hlt),ih y1 _ v1 (hkl y1 (by simp)) x1 l1,ih y2 _ v2 (hkl y2 (by simp)) x2 l2,ih y3 _ v3 (hkl y3 (by simp)) x3 l3];simp only[List.flatMap_cons,List.flatMap_nil,List.append_nil,List.append_assoc]
  · unfold covP arnL
    rw[if_neg hm,if_neg hm,List.append_nil]
end
section
open Canon
def arnA(mt:Cl→Bool)(lev:Int):List Cl:=arnL mt lev lev.toNat (0,0,0)++arnL mt lev lev.toNat (0,0,1)
theorem top_vl(c:Int)(h0:0≤c)(h1:c≤1):Vl (0,0,c):=by
 constructor<;>simp only[]<;>first|omega|(simp;done)|(simp;omega)
theorem arnA_v{mt:Cl→Bool}{lev:Int}(h0:0≤lev)(h16:lev≤16):AllV (arnA mt lev):=by
 intro x hx;rcases List.mem_append.1 hx with h|h
 · exact(arn_v h16 _ _ (top_vl 0 om_ om_) so_).1 x h
 · exact(arn_v h16 _ _ (top_vl 1 om_ om_) so_).1 x h
theorem can_nil:canonC (covL [])=[]:=(td_iff (L:=[]) (fun x hx=>by cases hx)).1 ⟨fun x hx=>(by cases hx),by simp,fun h n pre suf e=>by simp[kidsB] at e⟩
theorem cov_around{mt ins:Cl→Bool}{lev:Int}(h0:0≤lev)(h16:lev≤16)(hins: ∀x,Vl x→x.1<lev→ins x=true→ ∀y∈kidsC x,ins y=true∧mt y=true):
 covP mt ins lev lev.toNat (0,0,0) []=canonC (covL (arnL mt lev lev.toNat (0,0,0)))∧covP mt ins lev lev.toNat (0,0,1) (canonC (covL (arnL mt lev lev.toNat (0,0,0))))=canonC (covL (arnA mt lev)):=by
 have v0:=top_vl 0 om_ om_;have v1:=top_vl 1 om_ om_;have a0:=arn_v (mt:=mt) h16 lev.toNat _ v0 so_;have e0:=cov_ok h16 hins lev.toNat (0,0,0) [] v0 so_ (fun x hx=>by cases hx) (fun q h=>by obtain⟨x,hx,-⟩:=h;cases hx);rw[can_nil] at e0;refine⟨e0,?_⟩;refine cov_ok h16 hins lev.toNat (0,0,1) _ v1 so_ a0.1 (fun q h=>?_);have:=(cov_one _ q).1 (a0.2 q h);have e:spT (0,0,0)=spF (0,0,1):=by decide
 omega
end
section
open Canon
theorem edg_odd(i:Int)(l:Nat):edg (2*i+1+1) ((l+1:Nat):Int)=edg (i+1) (l:Int):=by
 rw[show 2*i+1+1=2*(i+1) by omega,edg_even]
end
section
open Canon
def insA(a b:Sp):Bool:=decide (b.1= -10800000∧b.2=10800000)||(!decide (a.1= -10800000∧a.2=10800000)&&decide ((a.1-b.1)%21600000+a.2-a.1≤b.2-b.1))
def insX(a b:Bx):Bool:=decide (b.1≤a.1∧a.2.1≤b.2.1)&&insA (a.2.2.1,a.2.2.2) (b.2.2.1,b.2.2.2)
theorem nest_ins{a0 a1 a2 a3 y0 y1 y2 y3 p0 p1 p2 p3:Int}(hp:VP (p0,p1,p2,p3))(h0:a0≤y0)(h1:y0≤y1)(h2:y1≤a1)(h3:a2≤y2)(h4:y2≤y3)(h5:y3≤a3)(b0: -10800000≤a2)(b1:a3≤10800000)(b2:y3-y2<21600000)(b3:y2<10800000)
 (hi:insX (a0,a1,a2,a3) (p0,p1,p2,p3)=true):insX (y0,y1,y2,y3) (p0,p1,p2,p3)=true∧meetB (p0,p1,p2,p3) (y0,y1,y2,y3)=true:=by
 obtain⟨q1,q2,q3,q4⟩:=hp;unfold VL at q4;unfold insX insA at hi⊢;unfold meetB lonM;simp only[Bool.and_eq_true,Bool.or_eq_true,Bool.not_eq_true',decide_eq_true_eq,decide_eq_false_iff_not] at*;omega
theorem bx_facts{x:Cl}(hx:Vl x): -5400000≤(bxI x).1∧(bxI x).1≤(bxI x).2.1∧(bxI x).2.1≤5400000∧ -10800000≤(bxI x).2.2.1∧(bxI x).2.2.1≤(bxI x).2.2.2∧(bxI x).2.2.2≤10800000∧(bxI x).2.2.2-(bxI x).2.2.1<21600000∧(bxI x).2.2.1<10800000:=by
 have h:=box_nums hx;have h2:edg (x.2.2+1) x.1≤21600000:=by
  have hv:=(vl_iff x).2 hx;obtain⟨v0,v1,v2,v3,v4,v5⟩:=vldB_true.1 hv;exact(edg_bd v1 om_ om_).2
 unfold bxI;simp only[];omega
theorem kid_nest{x y:Cl}(hx:Vl x)(h:x.1<16)(hy:y∈kidsC x):(bxI x).1≤(bxI y).1∧(bxI y).2.1≤(bxI x).2.1∧(bxI x).2.2.1≤(bxI y).2.2.1∧(bxI y).2.2.2≤(bxI x).2.2.2:=by
 obtain⟨l,r,c⟩:=x;have hl0:=hx.l0;simp only[] at hl0 h;obtain⟨l,rfl⟩:=Int.eq_ofNat_of_zero_le hl0;have e:((l:Nat):Int)+1=((l+1:Nat):Int):=by omega
 have r0:edg (2*r) ((l+1:Nat):Int)=edg r (l:Int):=edg_even r l;have r1:edg (2*r+1+1) ((l+1:Nat):Int)=edg (r+1) (l:Int):=edg_odd r l;have c0:edg (2*c) ((l+1:Nat):Int)=edg c (l:Int):=edg_even c l;have c1:edg (2*c+1+1) ((l+1:Nat):Int)=edg (c+1) (l:Int):=edg_odd c l;have m0:=edg_mono (i:=2*r) (j:=2*r+1) ((l+1:Nat):Int) om_;have m1:=edg_mono (i:=2*r+1) (j:=2*r+1+1) ((l+1:Nat):Int) om_;have m2:=edg_mono (i:=2*c) (j:=2*c+1) ((l+1:Nat):Int) om_;have m3:=edg_mono (i:=2*c+1) (j:=2*c+1+1) ((l+1:Nat):Int) om_;simp only[kidsC,kids,List.mem_cons,List.not_mem_nil,or_false] at hy;rw[e] at hy;rcases hy with rfl|rfl|rfl|rfl<;>(unfold bxI;simp only[];omega)
theorem ins_kid{x:Cl}{p:Bx}(hp:VP p)(hx:Vl x)(h:x.1<16)(hi:insX (bxI x) p=true): ∀y∈kidsC x,insX (bxI y) p=true∧meetB p (bxI y)=true:=by
 intro y hy;have fx:=bx_facts hx;have fy:=bx_facts (kids_vl hx h y hy);have n:=kid_nest hx h hy;exact nest_ins (p0:=p.1) (p1:=p.2.1) (p2:=p.2.2.1) (p3:=p.2.2.2) (a0:=(bxI x).1) (a1:=(bxI x).2.1) (a2:=(bxI x).2.2.1) (a3:=(bxI x).2.2.2) (y0:=(bxI y).1) (y1:=(bxI y).2.1) (y2:=(bxI y).2.2.1) (y3:=(bxI y).2.2.2) hp om_ om_ om_ om_ om_ om_ om_ om_ om_ om_ hi
end
theorem insideArc_any(x y u v:Int)(w:World)(ha:VL (x,y))(hb:VL (u,v)):
 Calls Tryz.prog 137 #[.agg #[vi vk x,vi vk y],.agg #[vi vk u,vi vk v]] w fun e w'=>e=.returned (.bool (insA (x,y) (u,v)))∧Below w.heap.size w w':=by
 have oa:(x= -10800000∧y=10800000)∨(-10800000≤x∧x<10800000∧x≤y∧y-x<21600000):=ha;have ob:(u= -10800000∧v=10800000)∨(-10800000≤u∧u<10800000∧u≤v∧v-u<21600000):=hb;clear ha hb;have K1:=fun W=>all_any u v W;have K2:=fun W=>all_any x y W;have K3:=hid (fun W=>beyond_any u v x W om_ om_ om_ om_);obtain⟨m,hm⟩: ∃m,(x-u)%21600000=m:=⟨_,rfl⟩;have hm0:0≤m∧m<21600000:=by omega
 have hR:insA (x,y) (u,v)=(decide (u= -10800000∧v=10800000)||(!decide (x= -10800000∧y=10800000)&&decide (m+y-x≤v-u))):=by unfold insA;rw[←hm]
 rw[hm] at K3;rw[hR];clear hR hm;by_cases h1:u= -10800000∧v=10800000
 · have q:aeq u v (-10800000) 10800000=true:=by simp[aeq,h1]
   rw[q] at K1;rw[decide_eq_true h1];clear q h1;have K1:=hid K1;go_enter func137,ntmps137;go_wp2_with fail;(with_reducible refine(K1.out _).mono ?_)
   rintro e w1 ⟨rfl,hb1⟩
   have hb1':=hid (two_bl hb1);clear hb1;go_wp2;go_ret;exact⟨rfl,hb1'.out⟩
 · have q:aeq u v (-10800000) 10800000=false:=by simp[aeq];omega
   rw[q] at K1;rw[decide_eq_false h1];clear q;have H1:=hid h1;clear h1;have K1:=hid K1;by_cases h2:x= -10800000∧y=10800000
   · have q:aeq x y (-10800000) 10800000=true:=by simp[aeq,h2]
     rw[q] at K2;rw[decide_eq_true h2];clear q h2;have K2:=hid K2;go_enter func137,ntmps137;go_wp2_with fail;(with_reducible refine(K1.out _).mono ?_)
     rintro e w1 ⟨rfl,hb1⟩
     have hb1':=two_bl hb1;have hz1:=two_lt hb1;have x0:=(hb1.cell (p:=⟨w.heap.size,0,none⟩) (by simp;omega)).trans (show _=some (vi vk x) by simp);have x1:=(hb1.cell (p:=⟨w.heap.size,1,none⟩) (by simp;omega)).trans (show _=some (vi vk y) by simp);have y0:=(hb1.cell (p:=⟨w.heap.size+1,0,none⟩) (by simp)).trans (show _=some (vi vk u) by simp);have y1:=(hb1.cell (p:=⟨w.heap.size+1,1,none⟩) (by simp)).trans (show _=some (vi vk v) by simp);clear hb1;go_wp2_with fail;(with_reducible refine(K2.out _).mono ?_)
     rintro e w2 ⟨rfl,hb2⟩
     have hb2':=hid (hb1'.trans (hb2.mono hb1'.size));clear hb2 hb1' x0 x1 y0 y1;go_wp2;go_ret;exact⟨rfl,hb2'.out⟩
   · have q:aeq x y (-10800000) 10800000=false:=by simp[aeq];omega
     rw[q] at K2;rw[decide_eq_false h2];clear q;have H2:=hid h2;clear h2;have K2:=hid K2;obtain⟨K,hK⟩: ∃K,decide (m+y-x≤v-u)=K:=⟨_,rfl⟩;rw[hK];go_enter func137,ntmps137;go_wp2_with fail;(with_reducible refine(K1.out _).mono ?_)
     rintro e w1 ⟨rfl,hb1⟩
     have hb1':=two_bl hb1;have hz1:=two_lt hb1;have x0:=(hb1.cell (p:=⟨w.heap.size,0,none⟩) (by simp;omega)).trans (show _=some (vi vk x) by simp);have x1:=(hb1.cell (p:=⟨w.heap.size,1,none⟩) (by simp;omega)).trans (show _=some (vi vk y) by simp);have y0:=(hb1.cell (p:=⟨w.heap.size+1,0,none⟩) (by simp)).trans (show _=some (vi vk u) by simp);have y1:=(hb1.cell (p:=⟨w.heap.size+1,1,none⟩) (by simp)).trans (show _=some (vi vk v) by simp);clear hb1;go_wp2_with fail;(with_reducible refine(K2.out _).mono ?_)
     rintro e w2 ⟨rfl,hb2⟩
     have hb2':=hb1'.trans (hb2.mono hb1'.size);have hz2:w.heap.size+1<w2.heap.size:=Nat.lt_of_lt_of_le hz1.2 hb2.size;have x0:=(hb2.cell (p:=⟨w.heap.size,0,none⟩) hz1.1).trans x0;have x1:=(hb2.cell (p:=⟨w.heap.size,1,none⟩) hz1.1).trans x1;have y0:=(hb2.cell (p:=⟨w.heap.size+1,0,none⟩) hz1.2).trans y0;have y1:=(hb2.cell (p:=⟨w.heap.size+1,1,none⟩) hz1.2).trans y1;clear hb2 hb1' K1 K2 hz1;go_upto_region 5 with fail
     have c0: ∀s:BV w2,s.w.cell? ⟨w.heap.size,0,none⟩=some (vi vk x):=fun s=>(s.hb.cell (p:=⟨w.heap.size,0,none⟩) so_).trans x0;have c1: ∀s:BV w2,s.w.cell? ⟨w.heap.size,1,none⟩=some (vi vk y):=fun s=>(s.hb.cell (p:=⟨w.heap.size,1,none⟩) so_).trans x1;have c2: ∀s:BV w2,s.w.cell? ⟨w.heap.size+1,0,none⟩=some (vi vk u):=fun s=>(s.hb.cell (p:=⟨w.heap.size+1,0,none⟩) hz2).trans y0;have c3: ∀s:BV w2,s.w.cell? ⟨w.heap.size+1,1,none⟩=some (vi vk v):=fun s=>(s.hb.cell (p:=⟨w.heap.size+1,1,none⟩) hz2).trans y1;have s1:IntKind.i64.wrap (m+y)=m+y:=IntWalk.i64_in _ om_;have s2:IntKind.i64.wrap (m+y-x)=m+y-x:=IntWalk.i64_in _ (by clear s1;omega);have s3:IntKind.i64.wrap (v-u)=v-u:=IntWalk.i64_in _ (by clear s1 s2;omega);clear x0 x1 y0 y1;refine wp_region_bv w2 (by kernel_rfl) (by kernel_rfl) (Below.refl _ _) ?_;(repeat (go_big_quiet_step (first|(go_at_call 65;with_reducible exact quiet_bv (K3.out _))|fail)))
     refine wpQuiet_nil ?_;intro w9 hb9;clear c0 c1 c2 c3 s1 s2 s3;go_wp2;go_ret;exact⟨ret_bool (by first|rfl|(simp;done)|simp[hK]),hb2'.trans (hb9.mono hb2'.size)⟩
theorem placeInside_any(a0 a1 a2 a3 b0 b1 b2 b3:Int)(w:World)(ha:VP (a0,a1,a2,a3))(hb:VP (b0,b1,b2,b3)):
 Calls Tryz.prog 99 #[.agg #[vi vk a0,vi vk a1,vi vk a2,vi vk a3],.agg #[vi vk b0,vi vk b1,vi vk b2,vi vk b3]] w fun e w'=>e=.returned (.bool (insX (a0,a1,a2,a3) (b0,b1,b2,b3)))∧Below w.heap.size w w':=by
 have K1:=hid (fun W=>placeValid_vp a0 a1 a2 a3 W ha);have K2:=hid (fun W=>placeValid_vp b0 b1 b2 b3 W hb);have K3:=fun W=>insideArc_any a2 a3 b2 b3 W ha.o hb.o;have hR:insX (a0,a1,a2,a3) (b0,b1,b2,b3)=(decide (b0≤a0)&&(decide (a1≤b1)&&insA (a2,a3) (b2,b3))):=by
  unfold insX;simp only[Bool.decide_and,Bool.and_assoc]
 rw[hR];clear hR ha hb;generalize insA (a2,a3) (b2,b3)=K at*;have K3:=hid K3;go_enter func99,ntmps99;go_wp2_with fail;(with_reducible refine(K1.out _).mono ?_)
 rintro e w1 ⟨rfl,hb1⟩
 have hb1':=two_bl hb1;have hz1:=two_lt hb1;have x0:=(hb1.cell (p:=⟨w.heap.size,0,none⟩) (by simp;omega)).trans (show _=some (vi vk a0) by simp);have x1:=(hb1.cell (p:=⟨w.heap.size,1,none⟩) (by simp;omega)).trans (show _=some (vi vk a1) by simp);have x2:=(hb1.cell (p:=⟨w.heap.size,2,none⟩) (by simp;omega)).trans (show _=some (vi vk a2) by simp);have x3:=(hb1.cell (p:=⟨w.heap.size,3,none⟩) (by simp;omega)).trans (show _=some (vi vk a3) by simp);have y0:=(hb1.cell (p:=⟨w.heap.size+1,0,none⟩) (by simp)).trans (show _=some (vi vk b0) by simp);have y1:=(hb1.cell (p:=⟨w.heap.size+1,1,none⟩) (by simp)).trans (show _=some (vi vk b1) by simp);have y2:=(hb1.cell (p:=⟨w.heap.size+1,2,none⟩) (by simp)).trans (show _=some (vi vk b2) by simp);have y3:=(hb1.cell (p:=⟨w.heap.size+1,3,none⟩) (by simp)).trans (show _=some (vi vk b3) by simp);clear hb1;go_wp2_with fail;(with_reducible refine(K2.out _).mono ?_)
 rintro e w2 ⟨rfl,hb2⟩
 have hb2':=hb1'.trans (hb2.mono hb1'.size);have x0:=(hb2.cell (p:=⟨w.heap.size,0,none⟩) hz1.1).trans x0;have x1:=(hb2.cell (p:=⟨w.heap.size,1,none⟩) hz1.1).trans x1;have x2:=(hb2.cell (p:=⟨w.heap.size,2,none⟩) hz1.1).trans x2;have x3:=(hb2.cell (p:=⟨w.heap.size,3,none⟩) hz1.1).trans x3;have y0:=(hb2.cell (p:=⟨w.heap.size+1,0,none⟩) hz1.2).trans y0;have y1:=(hb2.cell (p:=⟨w.heap.size+1,1,none⟩) hz1.2).trans y1;have y2:=(hb2.cell (p:=⟨w.heap.size+1,2,none⟩) hz1.2).trans y2;have y3:=(hb2.cell (p:=⟨w.heap.size+1,3,none⟩) hz1.2).trans y3;clear hb2 hb1' K1 K2;have HBB:=hid hb2';clear hb2';by_cases d0:b0≤a0
 · have q0:=decide_eq_true d0
   by_cases d1:a1≤b1
   · have q1:=decide_eq_true d1
     go_wp2_with (go_at_call 137;(with_reducible refine(K3.out _).mono ?_);rintro e w3 ⟨rfl,hb3⟩);go_ret;exact⟨ret_bool (by simp[d0,d1]),HBB.out.trans (hb3.mono HBB.out.size)⟩
   · have q1:=decide_eq_false d1
     go_wp2;go_ret;exact⟨ret_bool (by rw[q1];simp),HBB.out⟩
 · have q0:=decide_eq_false d0
   go_wp2;go_ret;exact⟨ret_bool (by rw[q0];simp),HBB.out⟩
theorem bx_vp{x:Cl}(hx:Vl x):VP (bxI x):=by
 have f:=bx_facts hx;refine⟨om_,om_,om_,.inr ?_⟩;simp only[];omega
theorem rbox_any(l r c:Int)(w:World)(hv:vldB l r c=true):Calls Tryz.prog 97 #[.agg #[vi vk l,vi vk r,vi vk c]] w fun e w'=>e=.returned (boxV l r c)∧Below w.heap.size w w':=by
 have KB:=hid (fun W=>Box_yes l r c W hv);obtain⟨b0,b1,b2,b3,hbv⟩: ∃b0 b1 b2 b3:Int,boxV l r c=.agg #[vi vk b0,vi vk b1,vi vk b2,vi vk b3]:=⟨_,_,_,_,rfl⟩;rw[hbv] at KB⊢;clear hbv hv;go_enter func97,ntmps97;go_wp2_with fail;(with_reducible refine(KB.out _).mono ?_)
 rintro e w1 ⟨rfl,hb1⟩
 have hb2:=hid (two_bl hb1);have hz:=two_lt hb1;have G:=Blk.below (((Blk.new (w.alloc (.cells #[vi vk l,vi vk r,vi vk c] 55)) 40 #[vi vk 0,vi vk 0,vi vk 0,vi vk 0]))) hb1 (by simp);rw[World.size_alloc] at G;have hf:=G.frozen 0;have hf1:=G.frozen 1;have hf2:=G.frozen 2;have hf3:=G.frozen 3;have y0:=G.cell 0;have y1:=G.cell 1;have y2:=G.cell 2;have y3:=G.cell 3;simp only[List.getElem?_toArray,List.getElem?_cons_zero,List.getElem?_cons_succ] at y0 y1 y2 y3;have BK:=(((G.set_ 0 (vi vk b0)).set_ 1 (vi vk b1)).set_ 2 (vi vk b2)).set_ 3 (vi vk b3);simp only[List.setIfInBounds_toArray,List.set_cons_zero,List.set_cons_succ] at BK;have BK:=BK.alloc (.cells #[vi vk b0,vi vk b1,vi vk b2,vi vk b3] 40);have BB:Below w.heap.size w _:=((((hb2.out.setCell (p:=⟨w.heap.size+1,0,none⟩) (Nat.le_succ _) (vi vk b0)).setCell (p:=⟨w.heap.size+1,1,none⟩) (Nat.le_succ _) (vi vk b1)).setCell (p:=⟨w.heap.size+1,2,none⟩) (Nat.le_succ _) (vi vk b2)).setCell (p:=⟨w.heap.size+1,3,none⟩) (Nat.le_succ _) (vi vk b3)).alloc (by simp[World.setCell];omega) (.cells #[vi vk b0,vi vk b1,vi vk b2,vi vk b3] 40);have BKH:=hid BK;have BBH:=hid BB;clear hb1 G BK BB;go_wp2;have c0:=BKH.out.cell 0;have c1:=BKH.out.cell 1;have c2:=BKH.out.cell 2;have c3:=BKH.out.cell 3;have BB:=BBH.out;generalize World.alloc _ _=W9 at c0 c1 c2 c3 BB⊢;simp only[List.getElem?_toArray,List.getElem?_cons_zero,List.getElem?_cons_succ] at c0 c1 c2 c3;refine bodyPost_ret (v:=.agg #[vi vk b0,vi vk b1,vi vk b2,vi vk b3]) (by simp[results,results97,go_sem,c0,c1,c2,c3]) rfl ⟨rfl,BB⟩
theorem rgMeets_any(a0 a1 a2 a3 b0 b1 b2 b3:Int)(w:World)(ha:VP (a0,a1,a2,a3))(hb:VP (b0,b1,b2,b3)):
 Calls Tryz.prog 98 #[.agg #[vi vk a0,vi vk a1,vi vk a2,vi vk a3],.agg #[vi vk b0,vi vk b1,vi vk b2,vi vk b3]] w fun e w'=>e=.returned (.bool (meetB (a0,a1,a2,a3) (b0,b1,b2,b3)))∧Below w.heap.size w w':=by
 have KM:=fun W=>Meet_any a0 a1 a2 a3 b0 b1 b2 b3 W ha hb;clear ha hb;cases hm:meetB (a0,a1,a2,a3) (b0,b1,b2,b3)
 all_goals
  rw[hm] at KM;simp only[if_true,Bool.false_eq_true,if_false] at KM;have KM:=hid KM;clear hm;go_enter func98,ntmps98;go_wp2_with fail;(with_reducible refine(KM.out _).mono ?_)
  rintro e w1 ⟨r0,r1,r2,r3,rfl,hb1⟩
  have HB:=hid ((two_bl hb1).alloc (two_bl hb1).size (.cells #[vi vk r0,vi vk r1,vi vk r2,vi vk r3] 40));clear hb1;go_wp2;go_ret;exact⟨ret_bool (by simp),HB.out⟩
theorem rSide_yes(a0 a1 o0 o1 r0 r1 q0 q1 q2 q3:Int)(w:World)(hc:VC a0 a1 o0 o1 r0 r1)(hq:VP (q0,q1,q2,q3)):
 Calls Tryz.prog 180 #[.agg #[vi vk a0,vi vk a1,vi vk o0,vi vk o1,vi vk r0,vi vk r1],.agg #[vi vk q0,vi vk q1,vi vk q2,vi vk q3]] w fun e w'=>e=.returned (vi vk (sdV (Trig.sinT (q0,q1) (a0,a1) (q2-o1,q3-o0)) (Trig.csP (r0,r1))))∧Below w.heap.size w w':=by
 have bq:=vp_bd hq;have bp:=vp_bd hc.p;have br:=hc.h0;have br1:=hc.h1;have br2:=hc.h2;have KT:=fun W=>Triangle2_any a0 a1 o0 o1 r0 r1 q0 q1 q2 q3 W om_;have KS:=fun W=>Sine25_any (q0,q1) (a0,a1) (q2-o1,q3-o0) W so_ so_ so_;have KC:=fun W=>CosR_any r0 r1 W om_ om_ om_ om_;rw[show Trig.enLo (r0+5400000) (r1+5400000)=(Trig.csP (r0,r1)).1 from rfl,show Trig.enHi (r0+5400000) (r1+5400000)=(Trig.csP (r0,r1)).2 from rfl] at KC;clear hc hq bq bp br br1 br2;generalize Trig.sinT (q0,q1) (a0,a1) (q2-o1,q3-o0)=s at*;generalize Trig.csP (r0,r1)=tr at*;obtain⟨V,hV⟩: ∃V,sdV s tr=V:=⟨_,rfl⟩;rw[hV];unfold sdV at hV;obtain⟨t0,t1⟩:=tr;obtain⟨s0,s1⟩:=s;simp only[] at KS KC hV;generalize q2-o1=c0 at*;generalize q3-o0=c1 at*;have KT:=hid KT;have KS:=hid KS;have KC:=hid KC;have HV:=hid hV;clear hV;have C0:=hid ((Blk.new w 33 #[vi vk a0,vi vk a1,vi vk o0,vi vk o1,vi vk r0,vi vk r1]).alloc (.cells #[vi vk q0,vi vk q1,vi vk q2,vi vk q3] 40));have B0:=hid ((bl_alloc w (.cells #[vi vk a0,vi vk a1,vi vk o0,vi vk o1,vi vk r0,vi vk r1] 33)).alloc (by simp) (.cells #[vi vk q0,vi vk q1,vi vk q2,vi vk q3] 40));go_enter func180,ntmps180;go_wp2_with fail;(with_reducible refine(KT.out _).mono ?_)
 rintro e w1 ⟨rfl,hb1⟩
 have C1:=hid (C0.out.below hb1 C0.out.lt);have B1:=hid (B0.out.trans (hb1.mono B0.out.size));clear hb1 C0 B0 KT;go_wp2_with fail;(with_reducible refine(KS.out _).mono ?_)
 rintro e w2 ⟨rfl,hb2⟩
 have C2:=hid ((C1.out.below hb2 C1.out.lt).alloc (.cells #[vi vk s0,vi vk s1] 158));have D2':=hid (D2.new w2 s0 s1 158);have b2:=B1.out.trans (hb2.mono B1.out.size);have B2:=hid (b2.alloc b2.size (.cells #[vi vk s0,vi vk s1] 158));have k4:(w2.alloc (.cells #[vi vk s0,vi vk s1] 158)).cell? ⟨w.heap.size,4,none⟩=some (vi vk r0):=C2.out.cell 4;have k5:(w2.alloc (.cells #[vi vk s0,vi vk s1] 158)).cell? ⟨w.heap.size,5,none⟩=some (vi vk r1):=C2.out.cell 5;clear hb2 b2 C1 B1 KS;go_wp2_with fail;(with_reducible refine(KC.out _).mono ?_)
 rintro e w3 ⟨rfl,hb3⟩
 have D3:=hid ((D2'.out.below hb3 D2'.out.lt).alloc (.cells #[vi vk t0,vi vk t1] 158));have b3:=B2.out.trans (hb3.mono B2.out.size);have B3:=hid (b3.alloc b3.size (.cells #[vi vk t0,vi vk t1] 158));clear hb3 b3 C2 B2 D2' k4 k5 KC;obtain⟨-,u0,u1,-,-⟩:=D3.out;have HV:=HV.out;by_cases h1:t1<s0
 · rw[if_pos h1] at HV
   subst HV;have d1:decide (t1<s0)=true:=decide_eq_true h1;clear h1;go_wp2;go_ret;exact⟨rfl,B3.out⟩
 · rw[if_neg h1] at HV
   have d1:decide (t1<s0)=false:=decide_eq_false h1;by_cases h2:s1<t0
   · rw[if_pos h2] at HV
     subst HV;have d2:decide (s1<t0)=true:=decide_eq_true h2;clear h1 h2;go_wp2;go_ret;exact⟨rfl,B3.out⟩
   · rw[if_neg h2] at HV
     subst HV;have d2:decide (s1<t0)=false:=decide_eq_false h2;clear h1 h2;go_wp2;go_ret;exact⟨rfl,B3.out⟩
end Go.Proofs.YtdeiofgddhbdaaaGreat
