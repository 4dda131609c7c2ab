/- Plain: regions as sets, and how long they are. No program in sight. -/
import Derived.Test.YtdeiofgddhbdaaaGreatHRc
set_option linter.unusedSimpArgs false
set_option linter.unusedVariables false
set_option maxHeartbeats 4000000
set_option maxRecDepth 100000
namespace Go.Proofs.YtdeiofgddhbdaaaGreat
section
open Canon
theorem mort_split(l r c k:Nat)(hk:k≤l):mort k (r/2^(l-k)) (c/2^(l-k))*4^(l-k)≤mort l r c∧mort l r c+1≤(mort k (r/2^(l-k)) (c/2^(l-k))+1)*4^(l-k):=by
 have h:=mort_anc (l-k) l r c om_;rw[show l-(l-k)=k by omega] at h;rw[←h];have hp:0<4^(l-k):=Nat.pow_pos om_;refine⟨Nat.div_mul_le_self _ _,?_⟩;have:=Nat.lt_mul_div_succ (mort l r c) hp;rw[Nat.mul_comm] at this;exact this
theorem before_of_mort{l r c l' r' c' k:Nat}(hk:k≤l)(hk':k≤l')(hl:l≤16)(hl':l'≤16)(h:mort k (r/2^(l-k)) (c/2^(l-k))<mort k (r'/2^(l'-k)) (c'/2^(l'-k))):
 (mort l r c+1)*4^(16-l)≤mort l' r' c'*4^(16-l'):=by
 have h1:=(mort_split l r c k hk).2;have h2:=(mort_split l' r' c' k hk').1;generalize mort k (r/2^(l-k)) (c/2^(l-k))=u at*;generalize mort k (r'/2^(l'-k)) (c'/2^(l'-k))=v at*;have e1:4^(16-k)=4^(l-k)*4^(16-l):=by rw[←Nat.pow_add];congr 1;omega
 have e2:4^(16-k)=4^(l'-k)*4^(16-l'):=by rw[←Nat.pow_add];congr 1;omega
 calc (mort l r c+1)*4^(16-l)≤(u+1)*4^(l-k)*4^(16-l):=Nat.mul_le_mul_right _ h1
  _=(u+1)*4^(16-k):=by rw[Nat.mul_assoc,←e1]
  _≤v*4^(16-k):=Nat.mul_le_mul_right _ h
  _=v*4^(l'-k)*4^(16-l'):=by rw[Nat.mul_assoc,←e2]
  _≤mort l' r' c'*4^(16-l'):=Nat.mul_le_mul_right _ h2
theorem anc_nat(r l k:Nat):anc (r:Int) (l:Int) k=((r/2^(l-k):Nat):Int):=by simp[anc]
theorem befF_spec(l r c l' r' c':Nat)(hl:l≤16)(hl':l'≤16)(hr:r<2^l)(hr':r'<2^l')(n1:wiB ((l:Int),(r:Int),(c:Int)) ((l':Int),(r':Int),(c':Int))=false)(n2:wiB ((l':Int),(r':Int),(c':Int)) ((l:Int),(r:Int),(c:Int))=false):
 ∀f k:Nat,f+k=min l l'+1→(0<k→r/2^(l-(k-1))=r'/2^(l'-(k-1))∧c/2^(l-(k-1))=c'/2^(l'-(k-1)))→
  (befF ((l:Int),(r:Int),(c:Int)) ((l':Int),(r':Int),(c':Int)) f k=true→(mort l r c+1)*4^(16-l)≤mort l' r' c'*4^(16-l'))∧
  (befF ((l:Int),(r:Int),(c:Int)) ((l':Int),(r':Int),(c':Int)) f k=false→(mort l' r' c'+1)*4^(16-l')≤mort l r c*4^(16-l)):=by
 intro f;induction f with
 |zero=>
  intro k hk h;exfalso
  obtain⟨h1,h2⟩:=h om_;rw[show k-1=min l l' by omega] at h1 h2;by_cases hll:l≤l'
  · rw[show min l l'=l by omega,Nat.sub_self,Nat.pow_zero,Nat.div_one] at h1 h2
    have:wiB ((l':Int),(r':Int),(c':Int)) ((l:Int),(r:Int),(c:Int))=true:=by
     simp only[wiB,decide_eq_true_eq];have ed:((l':Int)-(l:Int)).toNat=l'-l:=by omega
     rw[ed];refine⟨om_,?_,?_⟩
     · rw[h1];simp
     · rw[h2];simp
    rw[n2] at this;exact Bool.noConfusion this
  · rw[show min l l'=l' by omega,Nat.sub_self,Nat.pow_zero,Nat.div_one] at h1 h2
    have:wiB ((l:Int),(r:Int),(c:Int)) ((l':Int),(r':Int),(c':Int))=true:=by
     simp only[wiB,decide_eq_true_eq];have ed:((l:Int)-(l':Int)).toNat=l-l':=by omega
     rw[ed];refine⟨om_,?_,?_⟩
     · rw[←h1];simp
     · rw[←h2];simp
    rw[n1] at this;exact Bool.noConfusion this
 |succ f ih=>
  intro k hk h;have kl:k≤l:=by omega
  have kl':k≤l':=by omega
  unfold befF;simp only[anc_nat];have half: ∀z m:Nat,0<k→k≤m→z/2^(m-(k-1))=z/2^(m-k)/2:=by
   intro z m h0 hm;rw[show m-(k-1)=(m-k)+1 by omega,Nat.pow_succ,Nat.div_div_eq_div_mul]
  have up: ∀z m z' m':Nat,k=0→m<2^l→m'<2^l'→m/2^(l-k)=m'/2^(l'-k):=by
   intro z m z' m' h0 hm hm';rw[h0,Nat.sub_zero,Nat.sub_zero,Nat.div_eq_of_lt hm,Nat.div_eq_of_lt hm']
  have hm0: ∀a b:Nat,mort 0 a b=b:=fun a b=>rfl;have hB:=before_of_mort (r:=r) (c:=c) (r':=r') (c':=c') kl kl' hl hl';have hB':=before_of_mort (r:=r') (c:=c') (r':=r) (c':=c) kl' kl hl' hl;have hu0:=up 0 r 0 r';have hstep:=fun h1 h2=>ih (k+1) om_ (fun _=>⟨h1,h2⟩);simp only[Nat.add_sub_cancel] at hstep;have hh:0<k→r/2^(l-k)/2=r'/2^(l'-k)/2∧c/2^(l-k)/2=c'/2^(l'-k)/2:=by
   intro h0;obtain⟨h1,h2⟩:=h h0;rw[half r l h0 kl,half r' l' h0 kl'] at h1;rw[half c l h0 kl,half c' l' h0 kl'] at h2;exact⟨h1,h2⟩
  have hu1:=fun h0=>hu0 h0 hr hr';clear h half up hu0 ih;generalize r/2^(l-k)=a at*;generalize r'/2^(l'-k)=a' at*;generalize c/2^(l-k)=b at*;generalize c'/2^(l'-k)=b' at*;have hlt:(a<a'∨(a=a'∧b<b'))→mort k a b<mort k a' b':=by
   intro hc;rcases Nat.eq_zero_or_pos k with h0|h0
   · have:=hu1 h0
     rw[h0,hm0,hm0];omega
   · obtain⟨h1,h2⟩:=hh h0
     obtain⟨m,rfl⟩: ∃m,k=m+1:=⟨k-1,om_⟩;simp only[mort];rw[h1,h2];omega
  have hgt:(a'<a∨(a=a'∧b'<b))→mort k a' b'<mort k a b:=by
   intro hc;rcases Nat.eq_zero_or_pos k with h0|h0
   · have:=hu1 h0
     rw[h0,hm0,hm0];omega
   · obtain⟨h1,h2⟩:=hh h0
     obtain⟨m,rfl⟩: ∃m,k=m+1:=⟨k-1,om_⟩;simp only[mort];rw[h1,h2];omega
  by_cases e1:a=a'
  · rw[if_pos (by rw[e1])]
    by_cases e2:b=b'
    · rw[if_pos (by rw[e2])]
      exact hstep e1 e2
    · rw[if_neg om_]
      constructor
      · intro hd
        have hd:=of_decide_eq_true hd;exact hB (hlt (.inr ⟨e1,om_⟩))
      · intro hd
        have hd:=of_decide_eq_false hd;exact hB' (hgt (.inr ⟨e1,om_⟩))
  · rw[if_neg om_]
    constructor
    · intro hd
      have hd:=of_decide_eq_true hd;exact hB (hlt (.inl om_))
    · intro hd
      have hd:=of_decide_eq_false hd;exact hB' (hgt (.inl om_))
theorem befB_spec{x y:Cl}(hx:Vl x)(hy:Vl y)(n1:wiB x y=false)(n2:wiB y x=false):(befB x y=true→before2 (blkOf x) (blkOf y))∧(befB x y=false→before2 (blkOf y) (blkOf x)):=by
 obtain⟨l,r,c⟩:=x;obtain⟨l',r',c'⟩:=y;obtain⟨a0,a1,a2,a3,a4,a5⟩:=hx;obtain⟨b0,b1,b2,b3,b4,b5⟩:=hy;simp only[] at*;obtain⟨l,rfl⟩:=Int.eq_ofNat_of_zero_le a0;obtain⟨r,rfl⟩:=Int.eq_ofNat_of_zero_le a2;obtain⟨c,rfl⟩:=Int.eq_ofNat_of_zero_le a4;obtain⟨l',rfl⟩:=Int.eq_ofNat_of_zero_le b0;obtain⟨r',rfl⟩:=Int.eq_ofNat_of_zero_le b2;obtain⟨c',rfl⟩:=Int.eq_ofNat_of_zero_le b4;simp only[Int.toNat_natCast] at*;have h:=befF_spec l r c l' r' c' om_ om_ a3 b3 n1 n2 (min l l'+1) 0 om_ om_;have e:(min (l:Int) (l':Int)).toNat=min l l':=by omega
 unfold befB before2 blkOf mortI;simp only[e,Int.toNat_natCast];exact h
def pairOk(x y:Cl):Bool:= !wiB y x&& !wiB x y&&befB x y
theorem ins_bounds{a b:Blk2}(h:insB a b.1 b.2=true):b.2*4^b.1≤a.2*4^a.1∧(a.2+1)*4^a.1≤(b.2+1)*4^b.1:=by
 have hle:a.1≤b.1:=by simp only[insB,decide_eq_true_eq] at h;exact h.1
 exact(ins_iff hle).1 h
theorem pairOk_iff{x y:Cl}(hx:Vl x)(hy:Vl y):pairOk x y=true↔before2 (blkOf x) (blkOf y):=by
 have px:=blk_pos (blkOf x);have py:=blk_pos (blkOf y);unfold pairOk;constructor
 · intro h
   simp only[Bool.and_eq_true,Bool.not_eq_true'] at h;exact(befB_spec hx hy h.1.2 h.1.1).1 h.2
 · intro h
   have n1:wiB y x=false:=by
    cases hw:wiB y x with
    |false=>rfl
    |true=>
     rw[wiB_ins hy hx] at hw;have:=ins_bounds hw;unfold before2 at h;omega
   have n2:wiB x y=false:=by
    cases hw:wiB x y with
    |false=>rfl
    |true=>
     rw[wiB_ins hx hy] at hw;have:=ins_bounds hw;unfold before2 at h;omega
   rw[n1,n2];cases hb:befB x y with
   |true=>rfl
   |false=>
    have:=(befB_spec hx hy n2 n1).2 hb;unfold before2 at h this;omega
def fourOk(x y z u:Cl):Bool:= !(decide (0<u.1)&&broB x y z u)
def PairsTo(L:List Cl)(k:Nat):Prop:= ∀i,i+1<k→pairOk (gt L i) (gt L (i+1))=true
def FoursTo(L:List Cl)(k:Nat):Prop:= ∀i,i+3<k→fourOk (gt L i) (gt L (i+1)) (gt L (i+2)) (gt L (i+3))=true
open Classical in
noncomputable def rvrB (L:List Cl):Bool:=decide (L.length≤4000)&& !badL L&&decide (PairsTo L L.length)&&decide (FoursTo L L.length)
theorem chain_pairwise: ∀{L:List Cl},(∀i,i+1<L.length→before2 (blkOf (gt L i)) (blkOf (gt L (i+1))))→(L.map blkOf).Pairwise before2
 | [],_=>by simp
 | [x],_=>by simp
 |x::y::L,h=>by
  have h2:=chain_pairwise (L:=y::L) (fun i hi=>by
   have:=h (i+1) (by simp only[List.length_cons] at hi⊢;omega);simpa [gt] using this)
  have h0:before2 (blkOf x) (blkOf y):=by simpa [gt] using h 0 (by simp)
  rw[List.map_cons,List.pairwise_cons];refine⟨fun b hb=>?_,h2⟩;rw[List.map_cons,List.mem_cons] at hb;rcases hb with rfl|hb
  · exact h0
  · rw[List.map_cons,List.pairwise_cons] at h2
    have:=h2.1 b hb;have hp:=blk_pos (blkOf y);unfold before2 at*;omega
theorem pairwise_gt{L:List Cl}(h:(L.map blkOf).Pairwise before2)(i:Nat)(hi:i+1<L.length):before2 (blkOf (gt L i)) (blkOf (gt L (i+1))):=by
 rw[List.pairwise_map] at h;have:=(List.pairwise_iff_getElem.1 h) i (i+1) om_ hi om_;simpa [gt,hi,show i<L.length by omega] using this
theorem gt_v{L:List Cl}(hL:AllV L){i:Nat}(hi:i<L.length):Vl (gt L i):=hL _ (by simp[gt,hi])
theorem pairs_iff{L:List Cl}(hL:AllV L):PairsTo L L.length↔(L.map blkOf).Pairwise before2:=by
 constructor
 · intro h
   exact chain_pairwise fun i hi=>(pairOk_iff (gt_v hL om_) (gt_v hL hi)).1 (h i hi)
 · intro h i hi
   exact(pairOk_iff (gt_v hL om_) (gt_v hL hi)).2 (pairwise_gt h i hi)
theorem bro_true{x y z u:Cl}(hx:Vl x)(hy:Vl y)(hz:Vl z)(hu:Vl u):(decide (0<u.1)&&broB x y z u)=true↔ ∃h n,h<16∧[x,y,z,u].map blkOf=kidsB h n:=by
 constructor
 · intro h
   rw[Bool.and_eq_true,decide_eq_true_eq] at h;obtain⟨_,h⟩:=h;unfold broB at h;by_cases hx0:x.1=0
   · rw[if_pos hx0] at h
     exact Bool.noConfusion h
   · rw[if_neg hx0] at h
     simp only[Bool.and_eq_true,ceq_true] at h;obtain⟨⟨⟨e1,e2⟩,e3⟩,e4⟩:=h;have hp:Vl (x.1-1,x.2.1/2,x.2.2/2):=by
      obtain⟨a0,a1,a2,a3,a4,a5⟩:=hx;have e:x.1.toNat=(x.1-1).toNat+1:=by omega
      rw[e,Nat.pow_succ] at a3 a5;constructor<;>simp only[]<;>omega
     have hk:=kids_blk hp (by have:=hx.l1;simp only[];omega);refine⟨(blkOf (x.1-1,x.2.1/2,x.2.2/2)).1-1,(blkOf (x.1-1,x.2.1/2,x.2.2/2)).2,?_,?_⟩
     · have:=(blk_lt _ hp).1
       have h16:(blkOf (x.1-1,x.2.1/2,x.2.2/2)).1=16-(x.1-1).toNat:=rfl;omega
     · rw[←hk]
       show[blkOf x,blkOf y,blkOf z,blkOf u]=[blkOf (gt (kids (x.1-1) (x.2.1/2) (x.2.2/2)) 0),blkOf (gt (kids (x.1-1) (x.2.1/2) (x.2.2/2)) 1),blkOf (gt (kids (x.1-1) (x.2.1/2) (x.2.2/2)) 2),blkOf (gt (kids (x.1-1) (x.2.1/2) (x.2.2/2)) 3)]
       rw[←e1,←e2,←e3,←e4]
 · rintro⟨h,n,hh,he⟩
   have hux:blkOf x=(h,4*n)∧blkOf u=(h,4*n+3):=by
    simp only[List.map_cons,List.map_nil,kidsB,List.cons.injEq,and_true] at he;exact⟨he.1,he.2.2.2⟩
   have hlt:=(blk_lt u hu).2;rw[hux.2] at hlt;simp only[] at hlt;have hpv:Vl (cellB (h+1,n)):=by
    refine cellB_vl _ so_ ?_;simp only[];rw[show 16-h=(16-(h+1))+1 by omega,Nat.pow_succ] at hlt;omega
   have hb:=blkOf_cellB (h+1,n) so_;have hl:(cellB (h+1,n)).1<16:=by
    simp only[cellB,cellN];omega
   have hk:=kids_blk hpv hl;rw[hb] at hk;simp only[Nat.add_sub_cancel] at hk;have e:[x,y,z,u]=kidsC (cellB (h+1,n)):=by
    have hv:AllV [x,y,z,u]:=by
     intro v hv;simp only[List.mem_cons,List.not_mem_nil,or_false] at hv;rcases hv with rfl|rfl|rfl|rfl<;>assumption
    rw[←map_blk_back hv,←map_blk_back (kids_vl hpv hl),he,hk]
   generalize cellB (h+1,n)=p at*;obtain⟨pl,pr,pc⟩:=p;simp only[kidsC,kids,List.cons.injEq,and_true] at e;obtain⟨rfl,rfl,rfl,rfl⟩:=e;have hp0:=hpv.l0;simp only[] at hp0;have q1:pl+1-1=pl:=by omega
   have q2:2*pr/2=pr:=by omega
   have q3:2*pc/2=pc:=by omega
   have q4: ¬pl+1=0:=by omega
   rw[Bool.and_eq_true,decide_eq_true_eq];refine⟨so_,?_⟩;simp only[broB,q1,q2,q3,q4,if_false,kids,gt,List.getD_cons_zero,List.getD_cons_succ,ceq,decide_true,Bool.and_self]
theorem gt_drop(L:List Cl)(i:Nat)(h:i+3<L.length): ∃pre suf,L=pre++([gt L i,gt L (i+1),gt L (i+2),gt L (i+3)]++suf)∧pre.length=i:=by
 refine⟨L.take i,L.drop (i+4),?_,by simp;omega⟩;have e: ∀j,j<L.length→L.drop j=gt L j::L.drop (j+1):=fun j hj=>by
  rw[List.drop_eq_getElem_cons hj];simp[gt,hj]
 have:=(List.take_append_drop i L).symm;rw[e i om_,e (i+1) om_,e (i+2) om_,e (i+3) om_] at this;exact this
theorem gt_at(pre:List Cl)(x y z u:Cl)(suf:List Cl):gt (pre++([x,y,z,u]++suf)) pre.length=x∧gt (pre++([x,y,z,u]++suf)) (pre.length+1)=y∧gt (pre++([x,y,z,u]++suf)) (pre.length+2)=z∧gt (pre++([x,y,z,u]++suf)) (pre.length+3)=u:=by
 refine⟨?_,?_,?_,?_⟩<;>simp[gt,List.getD_eq_getElem?_getD]
theorem fours_iff{L:List Cl}(hL:AllV L):FoursTo L L.length↔NoFour (L.map blkOf):=by
 constructor
 · intro h k n pre suf he hk
   obtain⟨P1,R,rfl,h1,h2⟩:=List.map_eq_append_iff.1 he;obtain⟨Q,S,rfl,h3,h4⟩:=List.map_eq_append_iff.1 h2;have hlen:Q.length=4:=by
    have:=congrArg List.length h3;simpa [kidsB] using this
   match Q,hlen with
   | [x,y,z,u],_=>
     have hi:=h P1.length (by simp only[List.length_append,List.length_cons,List.length_nil];omega);obtain⟨g0,g1,g2,g3⟩:=gt_at P1 x y z u S;rw[g0,g1,g2,g3] at hi;have hv: ∀w∈[x,y,z,u],Vl w:=fun w hw=>hL w (by simp only[List.mem_append];exact .inr (.inl hw));have:=(bro_true (hv x (by simp)) (hv y (by simp)) (hv z (by simp)) (hv u (by simp))).2 ⟨k,n,hk,h3⟩;unfold fourOk at hi;rw[this] at hi;exact Bool.noConfusion hi
 · intro h i hi
   obtain⟨pre,suf,he,_⟩:=gt_drop L i hi;unfold fourOk;cases hb:(decide (0<(gt L (i+3)).1)&&broB (gt L i) (gt L (i+1)) (gt L (i+2)) (gt L (i+3))) with
   |false=>rfl
   |true=>
    exfalso
    obtain⟨k,n,hk,hm⟩:=(bro_true (gt_v hL om_) (gt_v hL om_) (gt_v hL om_) (gt_v hL om_)).1 hb;refine h k n (pre.map blkOf) (suf.map blkOf) ?_ hk;conv=>lhs;rw[he]
    rw[List.map_append,List.map_append,hm]
theorem allV_of{L:List Cl}(h:badL L=false):AllV L:=fun x hx=>(vl_iff x).1 (badL_false h x hx)
theorem canonC_blk(S:Nat→Prop):(canonC S).map blkOf=canon S 16 0++canon S 16 1:=by
 unfold canonC;rw[List.map_map];conv=>rhs;rw[←List.map_id (canon S 16 0++canon S 16 1)]
 refine List.map_congr_left fun b hb=>blkOf_cellB b ?_;rw[List.mem_append] at hb;rcases hb with hb|hb<;>exact canon_h16 (Nat.le_refl _) b hb
theorem canon2_sorted(S:Nat→Prop):(canon S 16 0++canon S 16 1).Pairwise before2:=by
 rw[List.pairwise_append];refine⟨canon_sorted _ _ _,canon_sorted _ _ _,fun x hx y hy=>?_⟩;have h1:=(canon_in _ 16 0 x hx).2;have h2:=(canon_in _ 16 1 y hy).1;unfold before2;omega
theorem tidy_iff{L:List Cl}(hL:AllV L):canonC (covL L)=L↔(PairsTo L L.length∧FoursTo L L.length):=by
 rw[pairs_iff hL,fours_iff hL];constructor
 · intro h
   have h2:=canonC_blk (covL L);rw[h] at h2;rw[h2];exact⟨canon2_sorted _,canon_no_four _⟩
 · rintro⟨h1,h2⟩
   have hb: ∀b∈L.map blkOf,b.1≤16∧b.2/4^(16-b.1)<2:=by
    intro b hb;obtain⟨x,hx,rfl⟩:=List.mem_map.1 hb;obtain⟨g1,g2⟩:=blk_lt x (hL x hx);refine⟨g1,?_⟩;rw[Nat.div_lt_iff_lt_mul (Nat.pow_pos om_)];exact g2
   have h:=tidy_is_canon h1 h2 hb;have e:canonC (covL L)=canonC (fun q=>covB (L.map blkOf) q=true):=canonC_congr fun q=>(covB_map L q).symm;rw[e];unfold canonC;rw[←h];exact map_blk_back hL
theorem rvrB_eq(L:List Cl):rvrB L=vrB L:=by
 unfold rvrB vrB;cases hb:badL L with
 |true=>simp
 |false=>
  have hL:=allV_of hb;have h1:=tidy_cover L (badL_false hb);rw[h1];have h2:=tidy_iff hL;rw[Bool.and_assoc];congr 1
  rw[Bool.eq_iff_iff,Bool.and_eq_true];simp only[decide_eq_true_eq];exact h2.symm
theorem vrB_iff(L:List Cl):vrB L=true↔(L.length≤4000∧AllV L∧canonC (covL L)=L):=by
 unfold vrB;cases hb:badL L with
 |true=>
  simp only[Bool.not_true,Bool.and_false,Bool.false_and];constructor
  · intro h;exact Bool.noConfusion h
  · rintro⟨_,h,_⟩
    exfalso
    unfold badL at hb;rw[List.any_eq_true] at hb;obtain⟨x,hx,h2⟩:=hb;have:=(vl_iff x).2 (h x hx);rw[this] at h2;exact Bool.noConfusion h2
 |false=>
  have hL:=allV_of hb;rw[tidy_cover L (badL_false hb),Bool.and_eq_true,Bool.and_eq_true,decide_eq_true_eq,decide_eq_true_eq];exact⟨fun h=>⟨h.1.1,hL,h.2⟩,fun h=>⟨⟨h.1,rfl⟩,h.2.2⟩⟩
end
section
open Canon
def dropS(n:Int)(l:List Sp):List Sp:=l.dropWhile fun s=>decide (s.2≤n)
def hdS(n:Int)(l:List Sp):Bool:=match l with
 | []=>false
 |s::_=>decide (s.1≤n)
def endsS(D:List Sp):List Int:=D.flatMap fun s=>[s.1,s.2]
def inB'(D:List Sp)(q:Int):Bool:=D.any fun s=>decide (s.1≤q)&&decide (q<s.2)
def ge(E:List Int)(i:Nat):Int:=E.getD i 0
def prsTo(E:List Int)(k:Nat):List Sp:=(List.range k).map fun i=>(ge E i,ge E (i+1))
def combTo(r:Bool→Bool→Bool)(E:List Int)(D F:List Sp)(k:Nat):List Sp:=
 mergeS ((prsTo E k).filter fun p=>r (hdS p.1 (dropS p.1 D)) (hdS p.1 (dropS p.1 F)))
def combE(r:Bool→Bool→Bool)(E:List Int)(D F:List Sp):List Sp:=combTo r E D F (E.length-1)
theorem inB'_iff{D:List Sp}{q:Int}:inB' D q=true↔inI D q:=by
 simp[inB',inI,List.any_eq_true]
theorem has_eq(n:Int): ∀{D:List Sp},ApartI D→hdS n (dropS n D)=inB' D n
 | [],_=>rfl
 |s::D,h=>by
  obtain⟨hp,hne⟩:=h;rw[List.pairwise_cons] at hp;by_cases hs:s.2≤n
  · have e:dropS n (s::D)=dropS n D:=by simp[dropS,hs]
    rw[e,has_eq n ⟨hp.2,fun t ht=>hne t (by simp[ht])⟩];have:decide (n<s.2)=false:=decide_eq_false om_;simp[inB',this]
  · have e:dropS n (s::D)=s::D:=by simp[dropS,hs]
    rw[e];have h1:(D.any fun s=>decide (s.1≤n)&&decide (n<s.2))=false:=by
     rw[List.any_eq_false];intro t ht;have:=hp.1 t ht;have:decide (t.1≤n)=false:=decide_eq_false om_;simp[this]
    have h2:decide (n<s.2)=true:=decide_eq_true om_;simp only[hdS,inB',List.any_cons,h1,h2];simp
theorem dropS_dropS{e e':Int}(h:e≤e'): ∀(D:List Sp),dropS e' (dropS e D)=dropS e' D
 | []=>rfl
 |s::D=>by
  by_cases hs:s.2≤e
  · have e1:dropS e (s::D)=dropS e D:=by simp[dropS,hs]
    have e2:dropS e' (s::D)=dropS e' D:=by simp[dropS,show s.2≤e' by omega]
    rw[e1,e2,dropS_dropS h D]
  · have e1:dropS e (s::D)=s::D:=by simp[dropS,hs]
    rw[e1]
theorem ge_lt{E:List Int}(hE:E.Pairwise (· < ·)){i j:Nat}(hij:i<j)(hj:j<E.length):ge E i<ge E j:=by
 have:=List.pairwise_iff_getElem.1 hE i j om_ hj hij;simpa [ge,hj,show i<E.length by omega] using this
theorem ge_side{E:List Int}(hE:E.Pairwise (· < ·)){i:Nat}(hi:i+1<E.length){x:Int}(hx:x∈E):x≤ge E i∨ge E (i+1)≤x:=by
 obtain⟨j,hj,rfl⟩:=List.mem_iff_getElem.1 hx;have e:E[j]=ge E j:=by simp[ge,hj]
 rw[e];by_cases h:j≤i
 · rcases Nat.lt_or_eq_of_le h with h|rfl
   · exact .inl (Int.le_of_lt (ge_lt hE h om_))
   · exact .inl (Int.le_refl _)
 · rcases Nat.lt_or_eq_of_le (show i+1≤j by omega) with h|h
   · exact .inr (Int.le_of_lt (ge_lt hE h hj))
   · subst h;exact .inr (Int.le_refl _)
theorem inB_same{D:List Sp}{u v q:Int}(hD: ∀x∈endsS D,x≤u∨v≤x)(h1:u≤q)(h2:q<v):inB' D q=inB' D u:=by
 have: ∀s∈D,(decide (s.1≤q)&&decide (q<s.2))=(decide (s.1≤u)&&decide (u<s.2)):=by
  intro s hs;have a:=hD s.1 (by simp only[endsS,List.mem_flatMap];exact⟨s,hs,by simp⟩);have b:=hD s.2 (by simp only[endsS,List.mem_flatMap];exact⟨s,hs,by simp⟩);rw[decide_eq_decide.2 (show s.1≤q↔s.1≤u by omega),decide_eq_decide.2 (show q<s.2↔u<s.2 by omega)]
 unfold inB';induction D with
 |nil=>rfl
 |cons s D ih=>
  rw[List.any_cons,List.any_cons,this s (by simp),ih (fun x hx=>hD x (by simp only[endsS,List.flatMap_cons,List.mem_append];exact .inr hx)) (fun t ht=>this t (by simp[ht]))]
theorem find_pair{q:Int}: ∀(E:List Int),E.Pairwise (· < ·)→(∃a∈E,a≤q)→(∃b∈E,q<b)→ ∃i,i+1<E.length∧ge E i≤q∧q<ge E (i+1)
 | [],_,⟨a,h,_⟩,_=>by cases h
 | [x],_,⟨a,ha,h1⟩,⟨b,hb,h2⟩=>by
   simp only[List.mem_singleton] at ha hb;omega
 |x::y::r,hE,⟨a,ha,h1⟩,⟨b,hb,h2⟩=>by
  have hE':=List.pairwise_cons.1 hE;by_cases hy:q<y
  · refine⟨0,by simp,?_,hy⟩
    have:a=x:=by
     rcases List.mem_cons.1 ha with h|h
     · exact h
     · rcases List.mem_cons.1 h with h'|h'
       · omega
       · have:=(List.pairwise_cons.1 hE'.2).1 a h';omega
    show x≤q
    omega
  · have hxy:=hE'.1 y (by simp)
    obtain⟨i,hi,g1,g2⟩:=find_pair (y::r) hE'.2 ⟨y,by simp,om_⟩ ⟨b,by
     rcases List.mem_cons.1 hb with h|h
     · omega
     · exact h,h2⟩
    exact⟨i+1,by simpa using hi,g1,g2⟩
theorem prsTo_succ(E:List Int)(k:Nat):prsTo E (k+1)=prsTo E k++[(ge E k,ge E (k+1))]:=by simp[prsTo,List.range_succ]
theorem combTo_yes{r:Bool→Bool→Bool}{E:List Int}{D F:List Sp}{k:Nat}(h:r (hdS (ge E k) (dropS (ge E k) D)) (hdS (ge E k) (dropS (ge E k) F))=true):combTo r E D F (k+1)=mrg (combTo r E D F k) (ge E k,ge E (k+1)):=by
 unfold combTo;rw[prsTo_succ,List.filter_append];rw[show List.filter (fun p=>r (hdS p.1 (dropS p.1 D)) (hdS p.1 (dropS p.1 F))) [(ge E k,ge E (k+1))]=[(ge E k,ge E (k+1))] by simp[h]];rw[mergeS_snoc]
theorem combTo_no{r:Bool→Bool→Bool}{E:List Int}{D F:List Sp}{k:Nat}(h:r (hdS (ge E k) (dropS (ge E k) D)) (hdS (ge E k) (dropS (ge E k) F))=false):combTo r E D F (k+1)=combTo r E D F k:=by
 unfold combTo;rw[prsTo_succ,List.filter_append];rw[show List.filter (fun p=>r (hdS p.1 (dropS p.1 D)) (hdS p.1 (dropS p.1 F))) [(ge E k,ge E (k+1))]=[] by simp[h]];rw[List.append_nil]
theorem combTo_last{r:Bool→Bool→Bool}{E:List Int}(hE:E.Pairwise (· < ·)){D F:List Sp}: ∀(k:Nat),k<E.length→ ∀s∈combTo r E D F k,s.2≤ge E k
 |0,_=>by intro s hs;simp[combTo,prsTo,mergeS] at hs
 |k+1,hk=>by
  have ih:=combTo_last (r:=r) hE (D:=D) (F:=F) k om_;have hl:=ge_lt hE (Nat.lt_succ_self k) hk;intro s hs;cases hr:r (hdS (ge E k) (dropS (ge E k) D)) (hdS (ge E k) (dropS (ge E k) F)) with
  |false=>rw[combTo_no hr] at hs;have:=ih s hs;simp only[Nat.succ_eq_add_one] at hl;omega
  |true=>
   rw[combTo_yes hr] at hs;simp only[Nat.succ_eq_add_one] at hl;rcases snoc_cases (combTo r E D F k) with h|⟨M,t,h⟩
   · rw[h,mrg_nil,List.mem_singleton] at hs
     rw[hs];exact Int.le_refl _
   · rw[h] at hs ih
     have ht:=ih t (by simp);by_cases hc:ge E k≤t.2
     · rw[mrg_in M t _ hc,List.mem_append,List.mem_singleton] at hs
       rcases hs with hs|rfl
       · have:=ih s (by simp[hs]);omega
       · simp only[];omega
     · rw[mrg_out M t _ hc,List.mem_append,List.mem_singleton] at hs
       rcases hs with hs|rfl
       · have:=ih s hs;omega
       · exact Int.le_refl _
theorem comb_good(r:Bool→Bool→Bool)(hr:r false false=false)(E:List Int)(D F:List Sp)(hE:E.Pairwise (· < ·))(hm: ∀x,x∈E↔(x∈endsS D∨x∈endsS F))(hD:ApartI D)(hF:ApartI F):
 ApartI (combE r E D F)∧ ∀q,inI (combE r E D F) q↔r (inB' D q) (inB' F q)=true:=by
 have hpr: ∀p∈prsTo E (E.length-1),∃i,i+1<E.length∧p=(ge E i,ge E (i+1)):=by
  intro p hp;simp only[prsTo,List.mem_map,List.mem_range] at hp;obtain⟨i,hi,rfl⟩:=hp;exact⟨i,om_,rfl⟩
 have hfold:=fold_good ((prsTo E (E.length-1)).filter fun p=>r (hdS p.1 (dropS p.1 D)) (hdS p.1 (dropS p.1 F))) [] ⟨by simp,by simp⟩
  (fun s hs=>by
    obtain⟨i,hi,rfl⟩:=hpr s (List.mem_filter.1 hs).1;exact ge_lt hE (Nat.lt_succ_self i) hi)
  (by
    refine List.Pairwise.filter _ ?_;unfold prsTo;rw[List.pairwise_map];refine List.Pairwise.imp_of_mem ?_ List.pairwise_lt_range;intro i j hi hj hij;simp only[List.mem_range] at hi hj;exact Int.le_of_lt (ge_lt hE hij om_))
  (by simp)
 refine⟨hfold.1,fun q=>?_⟩;have hq:inI (combE r E D F) q↔_:=hfold.2 q;rw[hq];constructor
 · rintro(⟨s,hs,_⟩|⟨s,hs,h1,h2⟩)
   · simp at hs
   · obtain⟨hs1,hs2⟩:=List.mem_filter.1 hs
     obtain⟨i,hi,rfl⟩:=hpr s hs1;simp only[has_eq _ hD,has_eq _ hF] at hs2 h1 h2;rw[inB_same (fun x hx=>ge_side hE hi ((hm x).2 (.inl hx))) h1 h2,inB_same (fun x hx=>ge_side hE hi ((hm x).2 (.inr hx))) h1 h2];exact hs2
 · intro h
   have hin:inI D q∨inI F q:=by
    cases h1:inB' D q with
    |true=>exact .inl (inB'_iff.1 h1)
    |false=>
     cases h2:inB' F q with
     |true=>exact .inr (inB'_iff.1 h2)
     |false=>rw[h1,h2,hr] at h;cases h
   have hab:(∃a∈E,a≤q)∧ ∃b∈E,q<b:=by
    rcases hin with ⟨s,hs,h1,h2⟩|⟨s,hs,h1,h2⟩
    · exact⟨⟨s.1,(hm _).2 (.inl (by simp only[endsS,List.mem_flatMap];exact⟨s,hs,by simp⟩)),h1⟩,s.2,(hm _).2 (.inl (by simp only[endsS,List.mem_flatMap];exact⟨s,hs,by simp⟩)),h2⟩
    · exact⟨⟨s.1,(hm _).2 (.inr (by simp only[endsS,List.mem_flatMap];exact⟨s,hs,by simp⟩)),h1⟩,s.2,(hm _).2 (.inr (by simp only[endsS,List.mem_flatMap];exact⟨s,hs,by simp⟩)),h2⟩
   obtain⟨i,hi,g1,g2⟩:=find_pair E hE hab.1 hab.2;refine .inr ⟨(ge E i,ge E (i+1)),List.mem_filter.2 ⟨?_,?_⟩,g1,g2⟩
   · simp only[prsTo,List.mem_map,List.mem_range]
     exact⟨i,om_,rfl⟩
   · simp only[has_eq _ hD,has_eq _ hF]
     rw[inB_same (fun x hx=>ge_side hE hi ((hm x).2 (.inl hx))) g1 g2,inB_same (fun x hx=>ge_side hE hi ((hm x).2 (.inr hx))) g1 g2] at h;exact h
theorem comb_ok(r:Bool→Bool→Bool)(hr:r false false=false)(E:List Int)(D F:List Sp)(hE:E.Pairwise (· < ·))(hm: ∀x,x∈E↔(x∈endsS D∨x∈endsS F))(hD:ApartI D)(hF:ApartI F)(kD:SpOk D)(kF:SpOk F):SpOk (combE r E D F):=by
 obtain⟨⟨_,hne⟩,hq⟩:=comb_good r hr E D F hE hm hD hF;have key: ∀q,inI (combE r E D F) q→0≤q∧q<8589934592:=by
  intro q h;have h:=(hq q).1 h;cases h1:inB' D q with
  |true=>
   obtain⟨s,hs,g1,g2⟩:=inB'_iff.1 h1;have:=kD s hs;omega
  |false=>
   cases h2:inB' F q with
   |true=>
    obtain⟨s,hs,g1,g2⟩:=inB'_iff.1 h2;have:=kF s hs;omega
   |false=>rw[h1,h2,hr] at h;cases h
 intro s hs;have hlt:=hne s hs;have a:=key s.1 ⟨s,hs,om_,hlt⟩;have b:=key (s.2-1) ⟨s,hs,om_,om_⟩;omega
theorem inB_cover{L:List Cl}(hL:AllV L)(q:Nat):inB' (coverL L) (q:Int)=covB (L.map blkOf) q:=by
 have h1:=(cover_good L (fun x hx=>(vl_iff x).2 (hL x hx))).2 (q:Int);rw[Bool.eq_iff_iff,inB'_iff,h1,covB_map];constructor
 · rintro⟨x,hx,a,b⟩
   exact⟨x,hx,om_,om_⟩
 · rintro⟨x,hx,a,b⟩
   exact⟨x,hx,om_,om_⟩
theorem comb_made(op:Int)(E:List Int)(a b:List Cl)(ha:AllV a)(hb:AllV b)(hE:E.Pairwise (· < ·))(hm: ∀x,x∈E↔(x∈endsS (coverL a)∨x∈endsS (coverL b))):
 tidyL (combE (opB op) E (coverL a) (coverL b))=madeL op a b∧SpOk (combE (opB op) E (coverL a) (coverL b)):=by
 have hr:opB op false false=false:=by simp[opB]
 have va: ∀x∈a,vldB x.1 x.2.1 x.2.2=true:=fun x hx=>(vl_iff x).2 (ha x hx);have vb: ∀x∈b,vldB x.1 x.2.1 x.2.2=true:=fun x hx=>(vl_iff x).2 (hb x hx);have hD:=(cover_good a va).1;have hF:=(cover_good b vb).1;obtain⟨h1,h2⟩:=comb_good (opB op) hr E _ _ hE hm hD hF;have h3:=comb_ok (opB op) hr E _ _ hE hm hD hF (spOk_cover a va) (spOk_cover b vb);refine⟨?_,h3⟩;rw[tidyL_canon h1 h3,madeL_canon op a b ha hb];refine canonC_congr fun q=>?_;rw[h2,inB_cover ha,inB_cover hb]
end
section
open Canon
theorem cov_app(A B:List Blk2)(q:Nat):covB (A++B) q=(covB A q||covB B q):=by simp[covB]
theorem cov_canon(S:Nat→Prop): ∀(h n q:Nat),n*4^h≤q→q<(n+1)*4^h→(covB (canon S h n) q=true↔S q)
 |h,n,q,h1,h2=>by
  constructor
  · intro hc
    obtain⟨b,hb,b1,b2⟩:=covS.1 hc;exact((mem_canon S h n b.1 b.2).1 hb).2.2.1 q b1 b2
  · intro hS
    by_cases hf:full S h n
    · rw[canon_full hf]
      exact covS.2 ⟨(h,n),by simp,h1,h2⟩
    · match h,h1,h2,hf with
      |0,h1,h2,hf=>
       exfalso
       simp at h1 h2;have:q=n:=by omega
       exact hf ((full_zero S n).2 (this▸hS))
      |h+1,h1,h2,hf=>
       simp only[canon,hf,if_false,cov_app,Bool.or_eq_true];have e: ∀m:Nat,m*4^(h+1)=4*m*4^h:=fun m=>by rw[Nat.pow_succ];rw[Nat.mul_comm 4 m,Nat.mul_assoc,Nat.mul_comm 4]
       rw[e] at h1 h2;have e1:(4*n+1)*4^h=4*n*4^h+4^h:=by rw[Nat.add_mul];omega
       have e2:(4*n+2)*4^h=4*n*4^h+2*4^h:=by rw[Nat.add_mul]
       have e3:(4*n+3)*4^h=4*n*4^h+3*4^h:=by rw[Nat.add_mul]
       have e4:(4*n+1+1)*4^h=4*n*4^h+2*4^h:=by rw[show 4*n+1+1=4*n+2 by omega,e2]
       have e5:(4*n+2+1)*4^h=4*n*4^h+3*4^h:=by rw[show 4*n+2+1=4*n+3 by omega,e3]
       have e6:(4*n+3+1)*4^h=4*n*4^h+4*4^h:=by rw[show 4*n+3+1=4*n+4 by omega,Nat.add_mul]
       have e7:4*(n+1)*4^h=4*n*4^h+4*4^h:=by rw[show 4*(n+1)=4*n+4 by omega,Nat.add_mul]
       by_cases c0:q<(4*n+1)*4^h
       · exact .inl ((cov_canon S h (4*n) q h1 c0).2 hS)
       · by_cases c1:q<(4*n+1+1)*4^h
         · exact .inr (.inl ((cov_canon S h (4*n+1) q om_ c1).2 hS))
         · by_cases c2:q<(4*n+2+1)*4^h
           · exact .inr (.inr (.inl ((cov_canon S h (4*n+2) q om_ c2).2 hS)))
           · exact .inr (.inr (.inr ((cov_canon S h (4*n+3) q om_ om_).2 hS)))
theorem cov_canon_out(S:Nat→Prop)(h n q:Nat)(hq: ¬(n*4^h≤q∧q<(n+1)*4^h)):covB (canon S h n) q=false:=by
 rw[Bool.eq_false_iff];intro hc;obtain⟨b,hb,b1,b2⟩:=covS.1 hc;obtain⟨g1,g2⟩:=canon_in S h n b hb;exact hq ⟨om_,om_⟩
noncomputable def regB (s:Nat→Bool):List Cl:=canonC fun q=>s q=true
theorem cov_reg(s:Nat→Bool)(q:Nat):covB ((regB s).map blkOf) q=(decide (q<2*4^16)&&s q):=by
 unfold regB;rw[canonC_blk,cov_app];by_cases h0:q<4^16
 · have c0:=cov_canon (fun q=>s q=true) 16 0 q om_ om_
   have c1:=cov_canon_out (fun q=>s q=true) 16 1 q om_;rw[c1,Bool.or_false,decide_eq_true om_,Bool.true_and,Bool.eq_iff_iff];exact c0
 · have c0:=cov_canon_out (fun q=>s q=true) 16 0 q om_
   rw[c0,Bool.false_or];by_cases h1:q<2*4^16
   · have c1:=cov_canon (fun q=>s q=true) 16 1 q om_ om_
     rw[decide_eq_true h1,Bool.true_and,Bool.eq_iff_iff];exact c1
   · have c1:=cov_canon_out (fun q=>s q=true) 16 1 q om_
     rw[c1,decide_eq_false h1,Bool.false_and]
theorem reg_congr{s t:Nat→Bool}(h: ∀q,q<2*4^16→s q=t q):regB s=regB t:=by
 unfold regB canonC;rw[canon_congr 16 0 (T:=fun q=>t q=true) (fun q _ h2=>by rw[h q om_]),canon_congr 16 1 (T:=fun q=>t q=true) (fun q _ h2=>by rw[h q om_])]
theorem reg_v(s:Nat→Bool):AllV (regB s):=by
 intro x hx;obtain⟨b,hb,rfl⟩:=List.mem_map.1 hx;have key: ∀n,n<2→b∈canon (fun q=>s q=true) 16 n→Vl (cellB b):=by
  intro n hn hb;obtain⟨g1,g2,_⟩:=(mem_canon _ 16 n b.1 b.2).1 hb;refine cellB_vl b g1 ?_;have hp:0<4^(16-b.1):=Nat.pow_pos om_;rw[←Nat.div_lt_iff_lt_mul hp];omega
 rcases List.mem_append.1 hb with hb|hb
 · exact key 0 om_ hb
 · exact key 1 om_ hb
theorem reg_made(op:Int)(s t:Nat→Bool):madeL op (regB s) (regB t)=regB fun q=>opB op (s q) (t q):=by
 rw[madeL_canon op _ _ (reg_v s) (reg_v t)];show regB (fun q=>opB op (covB ((regB s).map blkOf) q) (covB ((regB t).map blkOf) q))=_
 refine reg_congr fun q hq=>?_;rw[cov_reg,cov_reg,decide_eq_true hq,Bool.true_and,Bool.true_and]
theorem reg_inj{s t:Nat→Bool}(h:regB s=regB t)(q:Nat)(hq:q<2*4^16):s q=t q:=by
 have h1:=cov_reg s q;have h2:=cov_reg t q;rw[h,h2,decide_eq_true hq,Bool.true_and,Bool.true_and] at h1;exact h1.symm
theorem reg_nil{s:Nat→Bool}(h: ∀q,q<2*4^16→s q=false):regB s=[]:=by
 unfold regB canonC;rw[canon_none (fun q _ h2=>by rw[h q om_];simp),canon_none (fun q _ h2=>by rw[h q om_];simp)];rfl
end
end Go.Proofs.YtdeiofgddhbdaaaGreat
