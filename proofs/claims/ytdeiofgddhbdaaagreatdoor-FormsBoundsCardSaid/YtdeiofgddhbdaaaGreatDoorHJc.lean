/- angle.floor, angle.fits, angle.Print: the text of an arc. -/
import Derived.BigRegion
import Derived.Test.YtdeiofgddhbdaaaGreatDoorHJa
set_option linter.unusedSimpArgs false
set_option linter.unusedVariables false
set_option maxHeartbeats 4000000
set_option maxRecDepth 100000
open Go.RowKit
open Go.Lib (hid)
open Go.Proofs.Tryz
open Go.Value renaming int→vi
open Go.IntKind renaming i64→vk
namespace Go.Proofs.YtdeiofgddhbdaaaGreatDoor
section
open Canon
theorem mort_split(l r c k:Nat)(hk:k≤l):mort k (r/2^(l-k)) (c/2^(l-k))*4^(l-k)≤mort l r c∧mort l r c+1≤(mort k (r/2^(l-k)) (c/2^(l-k))+1)*4^(l-k):=by
 have h:=mort_anc (l-k) l r c om_;rw[show l-(l-k)=k by omega] at h;rw[←h];have hp:0<4^(l-k):=Nat.pow_pos om_;refine⟨Nat.div_mul_le_self _ _,?_⟩;have:=Nat.lt_mul_div_succ (mort l r c) hp;rw[Nat.mul_comm] at this;exact this
theorem before_of_mort{l r c l' r' c' k:Nat}(hk:k≤l)(hk':k≤l')(hl:l≤16)(hl':l'≤16)(h:mort k (r/2^(l-k)) (c/2^(l-k))<mort k (r'/2^(l'-k)) (c'/2^(l'-k))):
 (mort l r c+1)*4^(16-l)≤mort l' r' c'*4^(16-l'):=by
 have h1:=(mort_split l r c k hk).2;have h2:=(mort_split l' r' c' k hk').1;generalize mort k (r/2^(l-k)) (c/2^(l-k))=u at*;generalize mort k (r'/2^(l'-k)) (c'/2^(l'-k))=v at*;have e1:4^(16-k)=4^(l-k)*4^(16-l):=by rw[←Nat.pow_add];congr 1;omega
 have e2:4^(16-k)=4^(l'-k)*4^(16-l'):=by rw[←Nat.pow_add];congr 1;omega
 calc (mort l r c+1)*4^(16-l)≤(u+1)*4^(l-k)*4^(16-l):=Nat.mul_le_mul_right _ h1
  _=(u+1)*4^(16-k):=by rw[Nat.mul_assoc,←e1]
  _≤v*4^(16-k):=Nat.mul_le_mul_right _ h
  _=v*4^(l'-k)*4^(16-l'):=by rw[Nat.mul_assoc,←e2]
  _≤mort l' r' c'*4^(16-l'):=Nat.mul_le_mul_right _ h2
theorem anc_nat(r l k:Nat):anc (r:Int) (l:Int) k=((r/2^(l-k):Nat):Int):=by simp[anc]
theorem befF_spec(l r c l' r' c':Nat)(hl:l≤16)(hl':l'≤16)(hr:r<2^l)(hr':r'<2^l')(n1:wiB ((l:Int),(r:Int),(c:Int)) ((l':Int),(r':Int),(c':Int))=false)(n2:wiB ((l':Int),(r':Int),(c':Int)) ((l:Int),(r:Int),(c:Int))=false):
 ∀f k:Nat,f+k=min l l'+1→(0<k→r/2^(l-(k-1))=r'/2^(l'-(k-1))∧c/2^(l-(k-1))=c'/2^(l'-(k-1)))→
  (befF ((l:Int),(r:Int),(c:Int)) ((l':Int),(r':Int),(c':Int)) f k=true→(mort l r c+1)*4^(16-l)≤mort l' r' c'*4^(16-l'))∧
  (befF ((l:Int),(r:Int),(c:Int)) ((l':Int),(r':Int),(c':Int)) f k=false→(mort l' r' c'+1)*4^(16-l')≤mort l r c*4^(16-l)):=by
 intro f;induction f with
 |zero=>
  intro k hk h;exfalso
  obtain⟨h1,h2⟩:=h om_;rw[show k-1=min l l' by omega] at h1 h2;by_cases hll:l≤l'
  · rw[show min l l'=l by omega,Nat.sub_self,Nat.pow_zero,Nat.div_one] at h1 h2
    have:wiB ((l':Int),(r':Int),(c':Int)) ((l:Int),(r:Int),(c:Int))=true:=by
     simp only[wiB,decide_eq_true_eq];have ed:((l':Int)-(l:Int)).toNat=l'-l:=by omega
     rw[ed];refine⟨om_,?_,?_⟩
     · rw[h1];simp
     · rw[h2];simp
    rw[n2] at this;exact Bool.noConfusion this
  · rw[show min l l'=l' by omega,Nat.sub_self,Nat.pow_zero,Nat.div_one] at h1 h2
    have:wiB ((l:Int),(r:Int),(c:Int)) ((l':Int),(r':Int),(c':Int))=true:=by
     simp only[wiB,decide_eq_true_eq];have ed:((l:Int)-(l':Int)).toNat=l-l':=by omega
     rw[ed];refine⟨om_,?_,?_⟩
     · rw[←h1];simp
     · rw[←h2];simp
    rw[n1] at this;exact Bool.noConfusion this
 |succ f ih=>
  intro k hk h;have kl:k≤l:=by omega
  have kl':k≤l':=by omega
  unfold befF;simp only[anc_nat];have half: ∀z m:Nat,0<k→k≤m→z/2^(m-(k-1))=z/2^(m-k)/2:=by
   intro z m h0 hm;rw[show m-(k-1)=(m-k)+1 by omega,Nat.pow_succ,Nat.div_div_eq_div_mul]
  have up: ∀z m z' m':Nat,k=0→m<2^l→m'<2^l'→m/2^(l-k)=m'/2^(l'-k):=by
   intro z m z' m' h0 hm hm';rw[h0,Nat.sub_zero,Nat.sub_zero,Nat.div_eq_of_lt hm,Nat.div_eq_of_lt hm']
  have hm0: ∀a b:Nat,mort 0 a b=b:=fun a b=>rfl;have hB:=before_of_mort (r:=r) (c:=c) (r':=r') (c':=c') kl kl' hl hl';have hB':=before_of_mort (r:=r') (c:=c') (r':=r) (c':=c) kl' kl hl' hl;have hu0:=up 0 r 0 r';have hstep:=fun h1 h2=>ih (k+1) om_ (fun _=>⟨h1,h2⟩);simp only[Nat.add_sub_cancel] at hstep;have hh:0<k→r/2^(l-k)/2=r'/2^(l'-k)/2∧c/2^(l-k)/2=c'/2^(l'-k)/2:=by
   intro h0;obtain⟨h1,h2⟩:=h h0;rw[half r l h0 kl,half r' l' h0 kl'] at h1;rw[half c l h0 kl,half c' l' h0 kl'] at h2;exact⟨h1,h2⟩
  have hu1:=fun h0=>hu0 h0 hr hr';clear h half up hu0 ih;generalize r/2^(l-k)=a at*;generalize r'/2^(l'-k)=a' at*;generalize c/2^(l-k)=b at*;generalize c'/2^(l'-k)=b' at*;have hlt:(a<a'∨(a=a'∧b<b'))→mort k a b<mort k a' b':=by
   intro hc;rcases Nat.eq_zero_or_pos k with h0|h0
   · have:=hu1 h0
     rw[h0,hm0,hm0];omega
   · obtain⟨h1,h2⟩:=hh h0
     obtain⟨m,rfl⟩: ∃m,k=m+1:=⟨k-1,om_⟩;simp only[mort];rw[h1,h2];omega
  have hgt:(a'<a∨(a=a'∧b'<b))→mort k a' b'<mort k a b:=by
   intro hc;rcases Nat.eq_zero_or_pos k with h0|h0
   · have:=hu1 h0
     rw[h0,hm0,hm0];omega
   · obtain⟨h1,h2⟩:=hh h0
     obtain⟨m,rfl⟩: ∃m,k=m+1:=⟨k-1,om_⟩;simp only[mort];rw[h1,h2];omega
  by_cases e1:a=a'
  · rw[if_pos (by rw[e1])]
    by_cases e2:b=b'
    · rw[if_pos (by rw[e2])]
      exact hstep e1 e2
    · rw[if_neg om_]
      constructor
      · intro hd
        have hd:=of_decide_eq_true hd;exact hB (hlt (.inr ⟨e1,om_⟩))
      · intro hd
        have hd:=of_decide_eq_false hd;exact hB' (hgt (.inr ⟨e1,om_⟩))
  · rw[if_neg om_]
    constructor
    · intro hd
      have hd:=of_decide_eq_true hd;exact hB (hlt (.inl om_))
    · intro hd
      have hd:=of_decide_eq_false hd;exact hB' (hgt (.inl om_))
theorem befB_spec{x y:Cl}(hx:Vl x)(hy:Vl y)(n1:wiB x y=false)(n2:wiB y x=false):(befB x y=true→before2 (blkOf x) (blkOf y))∧(befB x y=false→before2 (blkOf y) (blkOf x)):=by
 obtain⟨l,r,c⟩:=x;obtain⟨l',r',c'⟩:=y;obtain⟨a0,a1,a2,a3,a4,a5⟩:=hx;obtain⟨b0,b1,b2,b3,b4,b5⟩:=hy;simp only[] at*;obtain⟨l,rfl⟩:=Int.eq_ofNat_of_zero_le a0;obtain⟨r,rfl⟩:=Int.eq_ofNat_of_zero_le a2;obtain⟨c,rfl⟩:=Int.eq_ofNat_of_zero_le a4;obtain⟨l',rfl⟩:=Int.eq_ofNat_of_zero_le b0;obtain⟨r',rfl⟩:=Int.eq_ofNat_of_zero_le b2;obtain⟨c',rfl⟩:=Int.eq_ofNat_of_zero_le b4;simp only[Int.toNat_natCast] at*;have h:=befF_spec l r c l' r' c' om_ om_ a3 b3 n1 n2 (min l l'+1) 0 om_ om_;have e:(min (l:Int) (l':Int)).toNat=min l l':=by omega
 unfold befB before2 blkOf mortI;simp only[e,Int.toNat_natCast];exact h
def pairOk(x y:Cl):Bool:= !wiB y x&& !wiB x y&&befB x y
theorem ins_bounds{a b:Blk2}(h:insB a b.1 b.2=true):b.2*4^b.1≤a.2*4^a.1∧(a.2+1)*4^a.1≤(b.2+1)*4^b.1:=by
 have hle:a.1≤b.1:=by simp only[insB,decide_eq_true_eq] at h;exact h.1
 exact(ins_iff hle).1 h
theorem pairOk_iff{x y:Cl}(hx:Vl x)(hy:Vl y):pairOk x y=true↔before2 (blkOf x) (blkOf y):=by
 have px:=blk_pos (blkOf x);have py:=blk_pos (blkOf y);unfold pairOk;constructor
 · intro h
   simp only[Bool.and_eq_true,Bool.not_eq_true'] at h;exact(befB_spec hx hy h.1.2 h.1.1).1 h.2
 · intro h
   have n1:wiB y x=false:=by
    cases hw:wiB y x with
    |false=>rfl
    |true=>
     rw[wiB_ins hy hx] at hw;have:=ins_bounds hw;unfold before2 at h;omega
   have n2:wiB x y=false:=by
    cases hw:wiB x y with
    |false=>rfl
    |true=>
     rw[wiB_ins hx hy] at hw;have:=ins_bounds hw;unfold before2 at h;omega
   rw[n1,n2];cases hb:befB x y with
   |true=>rfl
   |false=>
    have:=(befB_spec hx hy n2 n1).2 hb;unfold before2 at h this;omega
def fourOk(x y z u:Cl):Bool:= !(decide (0<u.1)&&broB x y z u)
def PairsTo(L:List Cl)(k:Nat):Prop:= ∀i,i+1<k→pairOk (gt L i) (gt L (i+1))=true
def FoursTo(L:List Cl)(k:Nat):Prop:= ∀i,i+3<k→fourOk (gt L i) (gt L (i+1)) (gt L (i+2)) (gt L (i+3))=true
open Classical in
noncomputable def rvrB (L:List Cl):Bool:=decide (L.length≤4000)&& !badL L&&decide (PairsTo L L.length)&&decide (FoursTo L L.length)
theorem chain_pairwise: ∀{L:List Cl},(∀i,i+1<L.length→before2 (blkOf (gt L i)) (blkOf (gt L (i+1))))→(L.map blkOf).Pairwise before2
 | [],_=>by simp
 | [x],_=>by simp
 |x::y::L,h=>by
  have h2:=chain_pairwise (L:=y::L) (fun i hi=>by
   have:=h (i+1) (by simp only[List.length_cons] at hi⊢;omega);simpa [gt] using this)
  have h0:before2 (blkOf x) (blkOf y):=by simpa [gt] using h 0 (by simp)
  rw[List.map_cons,List.pairwise_cons];refine⟨fun b hb=>?_,h2⟩;rw[List.map_cons,List.mem_cons] at hb;rcases hb with rfl|hb
  · exact h0
  · rw[List.map_cons,List.pairwise_cons] at h2
    have:=h2.1 b hb;have hp:=blk_pos (blkOf y);unfold before2 at*;omega
theorem pairwise_gt{L:List Cl}(h:(L.map blkOf).Pairwise before2)(i:Nat)(hi:i+1<L.length):before2 (blkOf (gt L i)) (blkOf (gt L (i+1))):=by
 rw[List.pairwise_map] at h;have:=(List.pairwise_iff_getElem.1 h) i (i+1) om_ hi om_;simpa [gt,hi,show i<L.length by omega] using this
theorem gt_v{L:List Cl}(hL:AllV L){i:Nat}(hi:i<L.length):Vl (gt L i):=hL _ (by simp[gt,hi])
theorem pairs_iff{L:List Cl}(hL:AllV L):PairsTo L L.length↔(L.map blkOf).Pairwise before2:=by
 constructor
 · intro h
   exact chain_pairwise fun i hi=>(pairOk_iff (gt_v hL om_) (gt_v hL hi)).1 (h i hi)
 · intro h i hi
   exact(pairOk_iff (gt_v hL om_) (gt_v hL hi)).2 (pairwise_gt h i hi)
theorem bro_true{x y z u:Cl}(hx:Vl x)(hy:Vl y)(hz:Vl z)(hu:Vl u):(decide (0<u.1)&&broB x y z u)=true↔ ∃h n,h<16∧[x,y,z,u].map blkOf=kidsB h n:=by
 constructor
 · intro h
   rw[Bool.and_eq_true,decide_eq_true_eq] at h;obtain⟨_,h⟩:=h;unfold broB at h;by_cases hx0:x.1=0
   · rw[if_pos hx0] at h
     exact Bool.noConfusion h
   · rw[if_neg hx0] at h
     simp only[Bool.and_eq_true,ceq_true] at h;obtain⟨⟨⟨e1,e2⟩,e3⟩,e4⟩:=h;have hp:Vl (x.1-1,x.2.1/2,x.2.2/2):=by
      obtain⟨a0,a1,a2,a3,a4,a5⟩:=hx;have e:x.1.toNat=(x.1-1).toNat+1:=by omega
      rw[e,Nat.pow_succ] at a3 a5;constructor<;>simp only[]<;>omega
     have hk:=kids_blk hp (by have:=hx.l1;simp only[];omega);refine⟨(blkOf (x.1-1,x.2.1/2,x.2.2/2)).1-1,(blkOf (x.1-1,x.2.1/2,x.2.2/2)).2,?_,?_⟩
     · have:=(blk_lt _ hp).1
       have h16:(blkOf (x.1-1,x.2.1/2,x.2.2/2)).1=16-(x.1-1).toNat:=rfl;omega
     · rw[←hk]
       show[blkOf x,blkOf y,blkOf z,blkOf u]=[blkOf (gt (kids (x.1-1) (x.2.1/2) (x.2.2/2)) 0),blkOf (gt (kids (x.1-1) (x.2.1/2) (x.2.2/2)) 1),blkOf (gt (kids (x.1-1) (x.2.1/2) (x.2.2/2)) 2),blkOf (gt (kids (x.1-1) (x.2.1/2) (x.2.2/2)) 3)]
       rw[←e1,←e2,←e3,←e4]
 · rintro⟨h,n,hh,he⟩
   have hux:blkOf x=(h,4*n)∧blkOf u=(h,4*n+3):=by
    simp only[List.map_cons,List.map_nil,kidsB,List.cons.injEq,and_true] at he;exact⟨he.1,he.2.2.2⟩
   have hlt:=(blk_lt u hu).2;rw[hux.2] at hlt;simp only[] at hlt;have hpv:Vl (cellB (h+1,n)):=by
    refine cellB_vl _ so_ ?_;simp only[];rw[show 16-h=(16-(h+1))+1 by omega,Nat.pow_succ] at hlt;omega
   have hb:=blkOf_cellB (h+1,n) so_;have hl:(cellB (h+1,n)).1<16:=by
    simp only[cellB,cellN];omega
   have hk:=kids_blk hpv hl;rw[hb] at hk;simp only[Nat.add_sub_cancel] at hk;have e:[x,y,z,u]=kidsC (cellB (h+1,n)):=by
    have hv:AllV [x,y,z,u]:=by
     intro v hv;simp only[List.mem_cons,List.not_mem_nil,or_false] at hv;rcases hv with rfl|rfl|rfl|rfl<;>assumption
    rw[←map_blk_back hv,←map_blk_back (kids_vl hpv hl),he,hk]
   generalize cellB (h+1,n)=p at*;obtain⟨pl,pr,pc⟩:=p;simp only[kidsC,kids,List.cons.injEq,and_true] at e;obtain⟨rfl,rfl,rfl,rfl⟩:=e;have hp0:=hpv.l0;simp only[] at hp0;have q1:pl+1-1=pl:=by omega
   have q2:2*pr/2=pr:=by omega
   have q3:2*pc/2=pc:=by omega
   have q4: ¬pl+1=0:=by omega
   rw[Bool.and_eq_true,decide_eq_true_eq];refine⟨so_,?_⟩;simp only[broB,q1,q2,q3,q4,if_false,kids,gt,List.getD_cons_zero,List.getD_cons_succ,ceq,decide_true,Bool.and_self]
theorem gt_drop(L:List Cl)(i:Nat)(h:i+3<L.length): ∃pre suf,L=pre++([gt L i,gt L (i+1),gt L (i+2),gt L (i+3)]++suf)∧pre.length=i:=by
 refine⟨L.take i,L.drop (i+4),?_,by simp;omega⟩;have e: ∀j,j<L.length→L.drop j=gt L j::L.drop (j+1):=fun j hj=>by
  rw[List.drop_eq_getElem_cons hj];simp[gt,hj]
 have:=(List.take_append_drop i L).symm;rw[e i om_,e (i+1) om_,e (i+2) om_,e (i+3) om_] at this;exact this
theorem gt_at(pre:List Cl)(x y z u:Cl)(suf:List Cl):gt (pre++([x,y,z,u]++suf)) pre.length=x∧gt (pre++([x,y,z,u]++suf)) (pre.length+1)=y∧gt (pre++([x,y,z,u]++suf)) (pre.length+2)=z∧gt (pre++([x,y,z,u]++suf)) (pre.length+3)=u:=by
 refine⟨?_,?_,?_,?_⟩<;>simp[gt,List.getD_eq_getElem?_getD]
theorem fours_iff{L:List Cl}(hL:AllV L):FoursTo L L.length↔NoFour (L.map blkOf):=by
 constructor
 · intro h k n pre suf he hk
   obtain⟨P1,R,rfl,h1,h2⟩:=List.map_eq_append_iff.1 he;obtain⟨Q,S,rfl,h3,h4⟩:=List.map_eq_append_iff.1 h2;have hlen:Q.length=4:=by
    have:=congrArg List.length h3;simpa [kidsB] using this
   match Q,hlen with
   | [x,y,z,u],_=>
     have hi:=h P1.length (by simp only[List.length_append,List.length_cons,List.length_nil];omega);obtain⟨g0,g1,g2,g3⟩:=gt_at P1 x y z u S;rw[g0,g1,g2,g3] at hi;have hv: ∀w∈[x,y,z,u],Vl w:=fun w hw=>hL w (by simp only[List.mem_append];exact .inr (.inl hw));have:=(bro_true (hv x (by simp)) (hv y (by simp)) (hv z (by simp)) (hv u (by simp))).2 ⟨k,n,hk,h3⟩;unfold fourOk at hi;rw[this] at hi;exact Bool.noConfusion hi
 · intro h i hi
   obtain⟨pre,suf,he,_⟩:=gt_drop L i hi;unfold fourOk;cases hb:(decide (0<(gt L (i+3)).1)&&broB (gt L i) (gt L (i+1)) (gt L (i+2)) (gt L (i+3))) with
   |false=>rfl
   |true=>
    exfalso
    obtain⟨k,n,hk,hm⟩:=(bro_true (gt_v hL om_) (gt_v hL om_) (gt_v hL om_) (gt_v hL om_)).1 hb;refine h k n (pre.map blkOf) (suf.map blkOf) ?_ hk;conv=>lhs;rw[he]
    rw[List.map_append,List.map_append,hm]
theorem allV_of{L:List Cl}(h:badL L=false):AllV L:=fun x hx=>(vl_iff x).1 (badL_false h x hx)
theorem canonC_blk(S:Nat→Prop):(canonC S).map blkOf=canon S 16 0++canon S 16 1:=by
 unfold canonC;rw[List.map_map];conv=>rhs;rw[←List.map_id (canon S 16 0++canon S 16 1)]
 refine List.map_congr_left fun b hb=>blkOf_cellB b ?_;rw[List.mem_append] at hb;rcases hb with hb|hb<;>exact canon_h16 (Nat.le_refl _) b hb
theorem canon2_sorted(S:Nat→Prop):(canon S 16 0++canon S 16 1).Pairwise before2:=by
 rw[List.pairwise_append];refine⟨canon_sorted _ _ _,canon_sorted _ _ _,fun x hx y hy=>?_⟩;have h1:=(canon_in _ 16 0 x hx).2;have h2:=(canon_in _ 16 1 y hy).1;unfold before2;omega
theorem tidy_iff{L:List Cl}(hL:AllV L):canonC (covL L)=L↔(PairsTo L L.length∧FoursTo L L.length):=by
 rw[pairs_iff hL,fours_iff hL];constructor
 · intro h
   have h2:=canonC_blk (covL L);rw[h] at h2;rw[h2];exact⟨canon2_sorted _,canon_no_four _⟩
 · rintro⟨h1,h2⟩
   have hb: ∀b∈L.map blkOf,b.1≤16∧b.2/4^(16-b.1)<2:=by
    intro b hb;obtain⟨x,hx,rfl⟩:=List.mem_map.1 hb;obtain⟨g1,g2⟩:=blk_lt x (hL x hx);refine⟨g1,?_⟩;rw[Nat.div_lt_iff_lt_mul (Nat.pow_pos om_)];exact g2
   have h:=tidy_is_canon h1 h2 hb;have e:canonC (covL L)=canonC (fun q=>covB (L.map blkOf) q=true):=canonC_congr fun q=>(covB_map L q).symm;rw[e];unfold canonC;rw[←h];exact map_blk_back hL
theorem rvrB_eq(L:List Cl):rvrB L=vrB L:=by
 unfold rvrB vrB;cases hb:badL L with
 |true=>simp
 |false=>
  have hL:=allV_of hb;have h1:=tidy_cover L (badL_false hb);rw[h1];have h2:=tidy_iff hL;rw[Bool.and_assoc];congr 1
  rw[Bool.eq_iff_iff,Bool.and_eq_true];simp only[decide_eq_true_eq];exact h2.symm
theorem vrB_iff(L:List Cl):vrB L=true↔(L.length≤4000∧AllV L∧canonC (covL L)=L):=by
 unfold vrB;cases hb:badL L with
 |true=>
  simp only[Bool.not_true,Bool.and_false,Bool.false_and];constructor
  · intro h;exact Bool.noConfusion h
  · rintro⟨_,h,_⟩
    exfalso
    unfold badL at hb;rw[List.any_eq_true] at hb;obtain⟨x,hx,h2⟩:=hb;have:=(vl_iff x).2 (h x hx);rw[this] at h2;exact Bool.noConfusion h2
 |false=>
  have hL:=allV_of hb;rw[tidy_cover L (badL_false hb),Bool.and_eq_true,Bool.and_eq_true,decide_eq_true_eq,decide_eq_true_eq];exact⟨fun h=>⟨h.1.1,hL,h.2⟩,fun h=>⟨⟨h.1,rfl⟩,h.2.2⟩⟩
end
section
open Canon
noncomputable def regB (s:Nat→Bool):List Cl:=canonC fun q=>s q=true
theorem reg_v(s:Nat→Bool):AllV (regB s):=by
 intro x hx;obtain⟨b,hb,rfl⟩:=List.mem_map.1 hx;have key: ∀n,n<2→b∈canon (fun q=>s q=true) 16 n→Vl (cellB b):=by
  intro n hn hb;obtain⟨g1,g2,_⟩:=(mem_canon _ 16 n b.1 b.2).1 hb;refine cellB_vl b g1 ?_;have hp:0<4^(16-b.1):=Nat.pow_pos om_;rw[←Nat.div_lt_iff_lt_mul hp];omega
 rcases List.mem_append.1 hb with hb|hb
 · exact key 0 om_ hb
 · exact key 1 om_ hb
end
section
open Canon
def lonIn(lo hi b:Int):Bool:=decide ((b-lo)%21600000≤hi-lo)
def ptB(x:Cl)(a b:Int):Bool:=
 decide (edg x.2.1 x.1-5400000≤a∧a≤edg (x.2.1+1) x.1-5400000)&&(decide (a=5400000)||decide (a= -5400000)||lonIn (edg x.2.2 x.1-10800000) (edg (x.2.2+1) x.1-10800000) b)
theorem pw_pos(l:Int):0<pw l:=by unfold pw;exact Int.pow_pos om_
theorem edg_mono{i j:Int}(l:Int)(h:i≤j):edg i l≤edg j l:=by
 unfold edg;exact Int.ediv_le_ediv (pw_pos l) om_
def fin(a b:Int)(q:Nat):Bool:=ptB (cellB (0,q)) a b
theorem edg_all(l:Int):edg (pw l) l=10800000:=by
 unfold edg;rw[Int.mul_comm,Int.mul_ediv_cancel _ (by have:=pw_pos l;omega)]
end
section
open Canon
theorem box_nums{x:Cl}(hx:Vl x): -5400000≤edg x.2.1 x.1-5400000∧edg x.2.1 x.1≤edg (x.2.1+1) x.1∧edg (x.2.1+1) x.1-5400000≤5400000∧0≤edg x.2.2 x.1∧edg x.2.2 x.1<21600000∧edg x.2.2 x.1≤edg (x.2.2+1) x.1∧edg (x.2.2+1) x.1≤21600000∧edg (x.2.2+1) x.1-edg x.2.2 x.1≤10800001:=by
 obtain⟨h0,h1,h2,h3,h4,h5⟩:=vldB_true.1 ((vl_iff x).2 hx);have hp:=pw_pos x.1;have hb:=pw_bd h1;have r0:=edg_bd (i:=x.2.1) h1 h2 om_;have c0:=edg_bd (i:=x.2.2) h1 h4 om_;have c1:=edg_bd (i:=x.2.2+1) h1 om_ om_;have rm:=edg_mono x.1 (show x.2.1≤x.2.1+1 by omega);have cm:=edg_mono x.1 (show x.2.2≤x.2.2+1 by omega);have rt:=edg_mono x.1 (show x.2.1+1≤pw x.1 by omega);rw[edg_all] at rt;have ct:edg x.2.2 x.1<21600000:=by
  unfold edg;rw[Int.ediv_lt_iff_lt_mul hp];omega
 have cw:edg (x.2.2+1) x.1-edg x.2.2 x.1≤10800001:=by
  unfold edg;have:(x.2.2+1)*10800000/pw x.1≤x.2.2*10800000/pw x.1+10800001:=by
   rw[←Int.add_mul_ediv_right _ _ (show pw x.1≠0 by omega)];refine Int.ediv_le_ediv hp ?_;omega
  omega
 omega
end
section
def aeq(a b a' b':Int):Bool:=decide (a=a'∧b=b')
theorem equalInArc(a b a' b':Int)(w:World):(Op.equalIn 10000 33 (.agg #[vi vk a,vi vk b]) (.agg #[vi vk a',vi vk b'])).run Tryz.prog w=.ok (aeq a b a' b') w:=by
 have u3:=underlying3;have a3:=Tryz.isAgg3;have z3:=Tryz.sizeOf3;have hS:Tryz.prog.underlying 33=some (.struct (Tryz.prog.fieldsOf 33)):=by kernel_rfl
 have hp:Tryz.prog.stoodInHeld 33=false:=by kernel_rfl
 rw[show(10000:Nat)=9999+1 from rfl,run_equalIn_agg w 9999 33 _ _ hS hp];simp only[Program.fieldsOf,underlying33];go_simp
 by_cases h1:a=a'<;>by_cases h2:b=b'<;>simp[aeq,h1,h2]
theorem eqlArc(a b a' b':Int)(w:World):(binOp .eql 33 (.agg #[vi vk a,vi vk b]) (.agg #[vi vk a',vi vk b'])).run Tryz.prog w=.ok (.bool (aeq a b a' b')) w:=by
 rw[run_eql_struct,equalInArc];rfl
theorem tmod_cases(n:Int):(0≤n∧n.tmod 21600000=n%21600000)∨(n<0∧n.tmod 21600000= -((-n)%21600000)):=by
 by_cases h:0≤n
 · exact .inl ⟨h,Int.tmod_eq_emod_of_nonneg h⟩
 · refine .inr ⟨om_,?_⟩
   have h1:(-n).tmod 21600000=(-n)%21600000:=Int.tmod_eq_emod_of_nonneg om_;rw[Int.neg_tmod] at h1;omega
theorem tmod_pos{n:Int}(h:0≤n.tmod 21600000):n.tmod 21600000=n%21600000:=by
 rcases tmod_cases n with ⟨h1,h2⟩|⟨h1,h2⟩<;>omega
theorem tmod_neg{n:Int}(h:n.tmod 21600000<0):n.tmod 21600000+21600000=n%21600000:=by
 rcases tmod_cases n with ⟨h1,h2⟩|⟨h1,h2⟩<;>omega
theorem everywhere_any(w:World):Calls Tryz.prog 169 #[] w fun e w'=>e=.returned (.agg #[vi vk (-10800000),vi vk 10800000])∧Below w.heap.size w w':=by
 go_enter func169,ntmps169;go_wp2;refine bodyPost_ret (v:=.agg #[vi vk (-10800000),vi vk 10800000]) (by simp[results,results169,go_sem]) rfl ⟨rfl,?_⟩;exact bl_
structure BV(w0:World) where
 w:World
 hb:Below w0.heap.size w0 w
instance bvSome (w0:World):Nonempty (BV w0):=⟨⟨w0,Below.refl _ _⟩⟩
theorem wp_region_bv{P:Program}{id:Nat}{Q:Exit→Act→World→Prop}{a:Act}{w:World}{l:List Oper}(w0:World)(hm:P.follows .mixedOrders=true)(hB:Region.lexB .any l.toArray=true)(h0:Below w0.heap.size w0 w)
 (h:wpQuiet P l.toArray (fun w'=> ∃s:BV w0,w'=s.w) (fun a'=> ∀w9,Below w0.heap.size w0 w9→Q .normal a' w9) l a):(Code.region id l.toArray true).wp P Q a w:=by
 have e:(fun a'=> ∀w9,Below w0.heap.size w0 w9→Q .normal a' w9)=(fun a':Act=> ∀w',(∃s:BV w0,w'=s.w)→Q .normal a' w'):=
  funext fun a'=>propext ⟨fun h w' ⟨s,hs⟩=>hs▸h s.w s.hb,fun h w9 hb=>h w9 ⟨⟨w9,hb⟩,rfl⟩⟩
 rw[e] at h;exact wp_region_quiet (C:=fun w'=> ∃s:BV w0,w'=s.w) hm hB ⟨⟨_,bl_drew h0⟩,rfl⟩ (by simpa using h)
theorem quiet_bv{P:Program}{f:FuncId}{args:Array Value}{w0:World}{s:BV w0}{v:Value}(h:Calls P f args s.w fun e w'=>e=.returned v∧Below s.w.heap.size s.w w'):
 Calls P f args s.w fun e w''=>e=.returned v∧ ∃s':BV w0,w''=s'.w:=
 h.mono fun _ w' ⟨he,hb⟩=>⟨he,⟨w',s.hb.trans (hb.mono s.hb.size)⟩,rfl⟩
theorem all_any(x y:Int)(w:World):Calls Tryz.prog 167 #[.agg #[vi vk x,vi vk y]] w fun e w'=>e=.returned (.bool (aeq x y (-10800000) 10800000))∧Below w.heap.size w w':=by
 have K:=hid everywhere_any;have hq:=eqlArc;go_enter func167,ntmps167;go_upto_region 1 with fail
 have b0:=bl_alloc w (.cells #[vi vk x,vi vk y] 33);have x1: ∀s:BV (w.alloc (.cells #[vi vk x,vi vk y] 33)),s.w.cell? ⟨w.heap.size,0,none⟩=some (vi vk x):=fun s=>(s.hb.cell (p:=⟨w.heap.size,0,none⟩) (by simp)).trans (by simp);have x2: ∀s:BV (w.alloc (.cells #[vi vk x,vi vk y] 33)),s.w.cell? ⟨w.heap.size,1,none⟩=some (vi vk y):=fun s=>(s.hb.cell (p:=⟨w.heap.size,1,none⟩) (by simp)).trans (by simp);refine wp_region_bv (w.alloc (.cells #[vi vk x,vi vk y] 33)) (by kernel_rfl) (by kernel_rfl) (Below.refl _ _) ?_;(repeat (go_big_quiet_step (first|(go_at_call 169;with_reducible exact quiet_bv (K.out _))|fail)))
 refine wpQuiet_nil ?_;intro w9 hb9;clear x1 x2;go_wp2;go_ret;exact⟨rfl,b0.trans (hb9.mono (by simp))⟩
theorem Wrap_any(n:Int)(w:World)(h0: -1000000000000≤n)(h1:n≤1000000000000):Calls Tryz.prog 85 #[vi vk n] w fun e w'=>e=.returned (vi vk (n%21600000))∧Below w.heap.size w w':=by
 go_enter func85,ntmps85;go_wp2;all_goals
  go_ret;refine⟨ret_int ?_,?_⟩
  · first|(exact tmod_pos (by assumption))|(rw[IntWalk.wrap64_in _ (by have:=tmod_neg (n:=n) (by assumption);omega)];exact tmod_neg (by assumption))
  · exact bl_
theorem beyond_any(x y n:Int)(w:World)(h0: -100000000≤n)(h1:n≤100000000)(h2: -100000000≤x)(h3:x≤100000000):Calls Tryz.prog 168 #[.agg #[vi vk x,vi vk y],vi vk n] w fun e w'=>e=.returned (vi vk ((n-x)%21600000))∧Below w.heap.size w w':=by
 have K:=hid (fun W=>Wrap_any (n-x) W om_ om_);go_enter func168,ntmps168;go_wp2_with (go_at_call 85;(with_reducible refine(K.out _).mono ?_);rintro e w1 ⟨rfl,hb1⟩);go_ret;exact⟨rfl,one_bl hb1⟩
end
theorem fits_any(n:Int)(w:World):Calls Tryz.prog 44 #[vi vk n] w fun e w'=>e=.returned (.bool (rchB n))∧w'=w:=by
 unfold rchB;go_enter func44,ntmps44;go_wp2;all_goals
  go_ret;exact⟨ret_bool (by first|rfl|(simp_all;done)|(simp_all;omega)),rfl⟩
theorem av_parts(lo hi:Int):avB lo hi=(decide (lo≤hi)&&rchB lo&&rchB hi):=by
 unfold avB rchB;rw[Bool.eq_iff_iff];simp only[Bool.and_eq_true,decide_eq_true_eq];omega
theorem aValid_any(lo hi:Int)(w:World):Calls Tryz.prog 42 #[.agg #[vi vk lo,vi vk hi]] w fun e w'=>e=.returned (.bool (avB lo hi))∧Below w.heap.size w w':=by
 have KL:=hid (fun W=>fits_any lo W);have KH:=hid (fun W=>fits_any hi W);rw[av_parts];generalize rchB lo=s at*;generalize rchB hi=t at*;by_cases h:lo≤hi
 · have d:decide (lo≤hi)=true:=decide_eq_true h
   rw[d];cases s
   · go_enter func42,ntmps42
     go_wp2_with (go_at_call 44;(with_reducible refine(KL.out _).mono ?_);rintro e w9 ⟨rfl,rfl⟩);go_ret;refine⟨rfl,?_⟩;exact bl_
   · cases t
     all_goals
      go_enter func42,ntmps42;go_wp2_with (go_at_call 44;(first|(with_reducible refine(KL.out _).mono ?_)|(with_reducible refine(KH.out _).mono ?_));rintro e w9 ⟨rfl,rfl⟩);go_ret;refine⟨rfl,?_⟩;exact bl_
 · have d:decide (lo≤hi)=false:=decide_eq_false h
   rw[d];go_enter func42,ntmps42;go_wp2;go_ret;refine⟨rfl,?_⟩;exact bl_
section
open Go.Shelf Frm
open Lib (decDigits)
theorem tdivH(a:Int):(0≤a.tmod 100∧a.tdiv 100=a/100)∨(a.tmod 100<0∧a.tdiv 100-1=a/100):=by
 rcases Int.lt_or_le a 0 with h|h
 · obtain⟨b,rfl⟩: ∃b:Int,a= -b:=⟨-a,om_⟩
   rw[Int.neg_tmod,Int.neg_tdiv,Int.tmod_eq_emod_of_nonneg om_,Int.tdiv_eq_ediv_of_nonneg om_];omega
 · rw[Int.tmod_eq_emod_of_nonneg h,Int.tdiv_eq_ediv_of_nonneg h]
   omega
theorem afloor_any(a:Int)(w:World)(h0: -4611686018427387904≤a)(h1:a≤4611686018427387904):Calls Tryz.prog 43 #[vi vk a,vi vk 100] w fun e w'=>e=.returned (vi vk (a/100))∧Below w.heap.size w w':=by
 have hf:=tdivH a;have hq: -4611686018427387904≤a/100∧a/100≤4611686018427387904:=by omega
 generalize a/100=q at*;rcases hf with ⟨t0,t1⟩|⟨t0,t1⟩
 · have d:decide (Int.tmod a 100<0)=false:=decide_eq_false om_
   have s2:wrap64 (Int.tdiv a 100)=Int.tdiv a 100:=IntWalk.wrap64_in _ om_;rw[t1] at s2;clear t0;go_enter func43,ntmps43;go_wp2;go_ret;exact⟨rfl,Below.refl _ _⟩
 · have d:decide (Int.tmod a 100<0)=true:=decide_eq_true om_
   have s2:wrap64 (Int.tdiv a 100)=Int.tdiv a 100:=IntWalk.wrap64_in _ om_;have s3:wrap64 (Int.tdiv a 100-1)=q:=by rw[IntWalk.wrap64_in _ om_];exact t1
   clear t0;go_enter func43,ntmps43;go_wp2;go_ret;exact⟨rfl,Below.refl _ _⟩
theorem rnd_mul(n:Int):(n+50)/100*100=rnd n:=rfl
theorem aprint_any(lo hi:Int)(w:World)(h0:lo≤hi)(h1: -1099511627776≤lo)(h2:hi≤1099511627776)(ht:Tab w):
 Calls Tryz.prog 15 #[.agg #[vi vk lo,vi vk hi]] w fun e w'=>e=.returned (.tuple #[tx (printL lo hi).1,vi vk (printL lo hi).2])∧Below w.heap.size w w':=by
 have KV:=fun W=>aValid_any lo hi W;rw[avB_true.2 ⟨h1,h0,h2⟩] at KV;have KV:=hid KV;obtain⟨R,hR⟩: ∃R,printL lo hi=R:=⟨_,rfl⟩;rw[hR];have KF:=fun(n:Int) (hn: -4611686018427387904≤n∧n≤4611686018427387904) W=>afloor_any n W hn.1 hn.2;have K1:=KF (lo+50) om_;have K2:=KF (hi+50) om_;have e1:=rnd_mul lo;have e2:=rnd_mul hi;have n1:=rnd_near lo;have n2:=rnd_near hi;have hle:rnd lo≤rnd hi:=by unfold rnd;omega
 have w1:wrap64 (lo+50)=lo+50:=IntWalk.wrap64_in _ om_;have w2:wrap64 (hi+50)=hi+50:=IntWalk.wrap64_in _ om_;obtain⟨q1,hq1⟩: ∃q,(lo+50)/100=q:=⟨_,rfl⟩;obtain⟨q2,hq2⟩: ∃q,(hi+50)/100=q:=⟨_,rfl⟩;rw[hq1] at K1 e1;rw[hq2] at K2 e2;have hp:printL lo hi=if rnd lo< -1099511627776∨1099511627776<rnd hi then([],5) else if rnd lo=rnd hi then(textL (rnd lo),0) else(textL (rnd lo)++[32,46,46,32]++textL (rnd hi),0):=rfl
 rw[hR] at hp;clear hR;generalize rnd lo=a at*;generalize rnd hi=b at*;have w3:wrap64 (q1*100)=a:=by rw[IntWalk.wrap64_in _ om_];exact e1
 have w4:wrap64 (q2*100)=b:=by rw[IntWalk.wrap64_in _ om_];exact e2
 have K1:=hid K1;have K2:=hid K2;have KA:=hid (fun W=>fits_any a W);have KB:=hid (fun W=>fits_any b W);have HT:=hid ht;have G0:=hid (Blk.new w 33 #[vi vk lo,vi vk hi]);have B0:=hid (bl_alloc w (.cells #[vi vk lo,vi vk hi] 33));clear KF e1 e2 hq1 hq2 ht;go_enter func15,ntmps15;go_upto_region 1 with (fail)
 generalize w.alloc (.cells #[vi vk lo,vi vk hi] 33)=w0 at G0 B0⊢;have y0:w0.cell? ⟨w.heap.size,0,none⟩=some (vi vk lo):=G0.out.cell 0;have y1:w0.cell? ⟨w.heap.size,1,none⟩=some (vi vk hi):=G0.out.cell 1;go_wp2_with fail;(with_reducible refine(KV.out _).mono ?_)
 rintro e wa ⟨rfl,hba⟩
 have B1:=hid (B0.out.trans (hba.mono B0.out.size));have G1:=hid (G0.out.below hba G0.out.lt);clear hba KV G0 B0 y0 y1;go_upto_region 3 with (fail)
 have k0: ∀s:BV wa,s.w.cell? ⟨w.heap.size,0,none⟩=some (vi vk lo):=fun s=>(s.hb.cell (p:=⟨w.heap.size,0,none⟩) G1.out.lt).trans (G1.out.cell 0);have k1: ∀s:BV wa,s.w.cell? ⟨w.heap.size,1,none⟩=some (vi vk hi):=fun s=>(s.hb.cell (p:=⟨w.heap.size,1,none⟩) G1.out.lt).trans (G1.out.cell 1);refine wp_region_bv wa (by kernel_rfl) (by kernel_rfl) (Below.refl _ _) ?_;(repeat (go_big_quiet_step (first|(go_at_call 43;first|with_reducible exact quiet_bv (K1.out _)|with_reducible exact quiet_bv (K2.out _))|fail)))
 refine wpQuiet_nil ?_;intro wb hbb;have B2:=hid (B1.out.trans (hbb.mono B1.out.size));clear k0 k1 hbb B1 G1 K1 K2;have hA:rchB a=true↔(-1099511627776≤a∧a≤1099511627776):=by simp[rchB]
 have hB:rchB b=true↔(-1099511627776≤b∧b≤1099511627776):=by simp[rchB]
 cases hra:rchB a with
 |false=>
  have hbad:a< -1099511627776∨1099511627776<b:=by
   have: ¬(-1099511627776≤a∧a≤1099511627776):=fun h=>by rw[hA.2 h] at hra;cases hra
   omega
  rw[if_pos hbad] at hp;subst hp;simp only[hra] at KA;clear hA hB hra hbad;go_wp2_with fail;(with_reducible refine(KA.out _).mono ?_)
  rintro e wc ⟨rfl,rfl⟩
  go_wp2;go_ret2
  exact⟨rfl,B2.out⟩
 |true=>
 cases hrb:rchB b with
 |false=>
  have hbad:a< -1099511627776∨1099511627776<b:=by
   have: ¬(-1099511627776≤b∧b≤1099511627776):=fun h=>by rw[hB.2 h] at hrb;cases hrb
   have:=hA.1 hra;omega
  rw[if_pos hbad] at hp;subst hp;simp only[hra] at KA;simp only[hrb] at KB;clear hA hB hra hbad hrb;go_wp2_with fail;(with_reducible refine(KA.out _).mono ?_)
  rintro e wc ⟨rfl,rfl⟩
  go_wp2_with fail;(with_reducible refine(KB.out _).mono ?_)
  rintro e wd ⟨rfl,rfl⟩
  go_wp2;go_ret2
  exact⟨rfl,B2.out⟩
 |true=>
 have ra:=hA.1 hra;have rb:=hB.1 hrb;rw[if_neg om_] at hp;simp only[hra] at KA;simp only[hrb] at KB;have KT1:=hid (fun(W:World) (h:Below w.heap.size w W)=>text_any a W om_ (HT.out.stays h (Nat.le_refl _)));have KT2:=hid (fun(W:World) (h:Below w.heap.size w W)=>text_any b W om_ (HT.out.stays h (Nat.le_refl _)));have lA:=text_len (n:=a) om_;have lB:=text_len (n:=b) om_;clear hA hB hra hrb;by_cases hab:a=b
 · subst hab
   rw[if_pos rfl] at hp;subst hp;have hbe:(a==a)=true:=by simp
   go_wp2_with fail;(with_reducible refine(KA.out _).mono ?_)
   rintro e wc ⟨rfl,rfl⟩
   go_wp2_with fail;(with_reducible refine(KB.out _).mono ?_)
   rintro e wd ⟨rfl,rfl⟩
   have KT3:=hid (KT1.out _ B2.out);clear KT1 KT2 KA KB;go_wp2_with fail;(with_reducible refine(KT3.out).mono ?_)
   rintro e we ⟨rfl,hbe2⟩
   have B3:=hid (B2.out.trans (hbe2.mono B2.out.size));clear hbe2;go_wp2;go_ret2
   exact⟨rfl,B3.out⟩
 · rw[if_neg hab] at hp
   have hbe:(a==b)=false:=by simpa using hab
   generalize textL a=A at KT1 lA hp;generalize textL b=B at KT2 lB hp;have ha1:=tx_add A [32,46,46,32] om_ (by simp);have ha2:=tx_add (A++[32,46,46,32]) B (by simp;omega) om_;generalize A++[32,46,46,32]=Y at ha1 ha2 hp;generalize Y++B=Z at ha2 hp;subst hp;go_wp2_with fail;(with_reducible refine(KA.out _).mono ?_)
   rintro e wc ⟨rfl,rfl⟩
   go_wp2_with fail;(with_reducible refine(KB.out _).mono ?_)
   rintro e wd ⟨rfl,rfl⟩
   have KT3:=hid (KT1.out _ B2.out);clear KT1 KA KB hab;go_wp2_with fail;(with_reducible refine(KT3.out).mono ?_)
   rintro e we ⟨rfl,hbe2⟩
   have B3:=hid (B2.out.trans (hbe2.mono B2.out.size));have KT4:=hid (KT2.out _ B3.out);clear hbe2 KT3 KT2;go_wp2_with fail;(with_reducible refine(KT4.out).mono ?_)
   rintro e wf ⟨rfl,hbf2⟩
   have B4:=hid (B3.out.trans (hbf2.mono B3.out.size));clear hbf2;go_wp2;go_ret2
   exact⟨rfl,B4.out⟩
end
end Go.Proofs.YtdeiofgddhbdaaaGreatDoor
