/- The walk of the reference's Of. -/
import Derived.Test.YtdeiofgddhbdaaaGreatDoorHUn
set_option linter.unusedSimpArgs false
set_option linter.unusedVariables false
set_option maxHeartbeats 4000000
set_option maxRecDepth 100000
open Go.RowKit
open Go.Proofs.Tryz
open Go.Value renaming int→vi
open Go.IntKind renaming i64→vk
namespace Go.Proofs.YtdeiofgddhbdaaaGreatDoor
namespace Canon
abbrev Blk2:=Nat×Nat
def full(S:Nat→Prop)(h n:Nat):Prop:= ∀q,n*4^h≤q→q<(n+1)*4^h→S q
theorem full_zero(S:Nat→Prop)(n:Nat):full S 0 n↔S n:=by
 constructor
 · intro h;exact h n (by simp) (by simp)
 · intro h q h1 h2
   simp at h1 h2;have:q=n:=by omega
   rw[this];exact h
theorem full_succ(S:Nat→Prop)(h n:Nat):full S (h+1) n↔full S h (4*n)∧full S h (4*n+1)∧full S h (4*n+2)∧full S h (4*n+3):=by
 have e: ∀m:Nat,m*4^(h+1)=4*m*4^h:=fun m=>by rw[Nat.pow_succ];rw[Nat.mul_comm 4 m,Nat.mul_assoc,Nat.mul_comm 4]
 unfold full;rw[e,e];have e1:(4*n+1)*4^h=4*n*4^h+4^h:=by rw[Nat.add_mul];omega
 have e2:(4*n+2)*4^h=4*n*4^h+2*4^h:=by rw[Nat.add_mul]
 have e3:(4*n+3)*4^h=4*n*4^h+3*4^h:=by rw[Nat.add_mul]
 have e4:(4*n+1+1)*4^h=4*n*4^h+2*4^h:=by rw[show 4*n+1+1=4*n+2 by omega,e2]
 have e5:(4*n+2+1)*4^h=4*n*4^h+3*4^h:=by rw[show 4*n+2+1=4*n+3 by omega,e3]
 have e6:(4*n+3+1)*4^h=4*n*4^h+4*4^h:=by rw[show 4*n+3+1=4*n+4 by omega,Nat.add_mul]
 have e7:4*(n+1)*4^h=4*n*4^h+4*4^h:=by rw[show 4*(n+1)=4*n+4 by omega,Nat.add_mul]
 rw[e1,e2,e3,e6,e7];generalize 4*n*4^h=a;generalize 4^h=b;constructor
 · intro H
   exact⟨fun q h1 h2=>H q om_ om_,fun q h1 h2=>H q om_ om_,fun q h1 h2=>H q om_ om_,fun q h1 h2=>H q om_ om_⟩
 · rintro⟨H0,H1,H2,H3⟩ q h1 h2
   by_cases c1:q<a+b
   · exact H0 q h1 c1
   · by_cases c2:q<a+2*b
     · exact H1 q om_ c2
     · by_cases c3:q<a+3*b
       · exact H2 q om_ c3
       · exact H3 q om_ h2
open Classical in
noncomputable def canon (S:Nat→Prop):Nat→Nat→List Blk2
 |0,n=>if S n then[(0,n)] else[]
 |h+1,n=>if full S (h+1) n then[(h+1,n)] else canon S h (4*n)++(canon S h (4*n+1)++(canon S h (4*n+2)++canon S h (4*n+3)))
theorem div_four(m k h n:Nat)(hk:k≤h):m/4^(h+1-k)=n↔(m/4^(h-k)=4*n∨m/4^(h-k)=4*n+1∨m/4^(h-k)=4*n+2∨m/4^(h-k)=4*n+3):=by
 have e:h+1-k=(h-k)+1:=by omega
 rw[e,Nat.pow_succ,←Nat.div_div_eq_div_mul];omega
theorem full_sub{S:Nat→Prop}{H n k m:Nat}(hf:full S H n)(hk:k≤H)(hm:m/4^(H-k)=n):full S k m:=by
 have hp:0<4^(H-k):=Nat.pow_pos om_;have e:4^H=4^(H-k)*4^k:=by rw[←Nat.pow_add,show H-k+k=H by omega]
 have h1:n*4^(H-k)≤m:=by rw[←hm];exact Nat.div_mul_le_self m _
 have h2:m+1≤(n+1)*4^(H-k):=by
  have:=Nat.lt_mul_div_succ m hp;rw[hm,Nat.mul_comm] at this;exact this
 intro q q1 q2;refine hf q ?_ ?_
 · rw[e,←Nat.mul_assoc]
   exact Nat.le_trans (Nat.mul_le_mul_right _ h1) q1
 · rw[e,←Nat.mul_assoc]
   exact Nat.lt_of_lt_of_le q2 (Nat.mul_le_mul_right _ h2)
theorem mem_canon(S:Nat→Prop): ∀(h n k m:Nat),(k,m)∈canon S h n↔(k≤h∧m/4^(h-k)=n∧full S k m∧(k=h∨ ¬full S (k+1) (m/4)))
 |0,n,k,m=>by
  unfold canon;by_cases hS:S n
  · simp only[hS,if_true,List.mem_singleton,Prod.mk.injEq]
    constructor
    · rintro⟨rfl,rfl⟩
      exact⟨Nat.le_refl _,by simp,(full_zero S m).2 hS,.inl rfl⟩
    · rintro⟨h1,h2,_,_⟩
      have:k=0:=by omega
      subst this;exact⟨rfl,by simpa using h2⟩
  · simp only[hS,if_false,List.not_mem_nil,false_iff]
    rintro⟨h1,h2,h3,_⟩
    have:k=0:=by omega
    subst this;have:m=n:=by simpa using h2
    subst this;exact hS ((full_zero S m).1 h3)
 |h+1,n,k,m=>by
  unfold canon;by_cases hf:full S (h+1) n
  · simp only[hf,if_true,List.mem_singleton,Prod.mk.injEq]
    constructor
    · rintro⟨rfl,rfl⟩
      exact⟨Nat.le_refl _,by simp,hf,.inl rfl⟩
    · rintro⟨h1,h2,h3,h4⟩
      by_cases hk:k=h+1
      · subst hk
        exact⟨rfl,by simpa using h2⟩
      · rcases h4 with h4|h4
        · omega
        · exfalso
          apply h4;refine full_sub hf om_ ?_;rw[Nat.div_div_eq_div_mul,←h2];congr 1
          rw[Nat.mul_comm,←Nat.pow_succ];congr 1
          omega
  · simp only[hf,if_false,List.mem_append,mem_canon S h]
    constructor
    · intro H
      have hk:k≤h:=by rcases H with H|H|H|H<;>exact H.1
      have hm:m/4^(h+1-k)=n:=by
       rw[div_four m k h n hk];rcases H with H|H|H|H
       · exact .inl H.2.1
       · exact .inr (.inl H.2.1)
       · exact .inr (.inr (.inl H.2.1))
       · exact .inr (.inr (.inr H.2.1))
      have hfu:full S k m:=by rcases H with H|H|H|H<;>exact H.2.2.1
      refine⟨om_,hm,hfu,.inr ?_⟩;by_cases hkh:k=h
      · subst hkh
        intro hx;apply hf;have e:m/4=n:=by
         have e2:k+1-k=1:=by omega
         rw[e2] at hm;simpa using hm
        rw[←e];exact hx
      · have H4:k=h∨ ¬full S (k+1) (m/4):=by rcases H with H|H|H|H<;>exact H.2.2.2
        rcases H4 with H4|H4
        · exact absurd H4 hkh
        · exact H4
    · rintro⟨h1,h2,h3,h4⟩
      by_cases hk:k=h+1
      · subst hk
        have:m=n:=by simpa using h2
        subst this;exact absurd h3 hf
      · have hk':k≤h:=by omega
        have h4':k=h∨ ¬full S (k+1) (m/4):=by
         rcases h4 with h4|h4
         · omega
         · exact .inr h4
        rw[div_four m k h n hk'] at h2;rcases h2 with h2|h2|h2|h2
        · exact .inl ⟨hk',h2,h3,h4'⟩
        · exact .inr (.inl ⟨hk',h2,h3,h4'⟩)
        · exact .inr (.inr (.inl ⟨hk',h2,h3,h4'⟩))
        · exact .inr (.inr (.inr ⟨hk',h2,h3,h4'⟩))
def before2(a b:Blk2):Prop:=(a.2+1)*4^a.1≤b.2*4^b.1
def inB(h n:Nat)(b:Blk2):Prop:=n*4^h≤b.2*4^b.1∧(b.2+1)*4^b.1≤(n+1)*4^h
theorem canon_in(S:Nat→Prop)(h n:Nat): ∀b∈canon S h n,inB h n b:=by
 intro b hb;obtain⟨k,m⟩:=b;obtain⟨hk,hm,_,_⟩:=(mem_canon S h n k m).1 hb;have hp:0<4^(h-k):=Nat.pow_pos om_;have e:4^h=4^(h-k)*4^k:=by rw[←Nat.pow_add,show h-k+k=h by omega]
 have h1:n*4^(h-k)≤m:=by rw[←hm];exact Nat.div_mul_le_self m _
 have h2:m+1≤(n+1)*4^(h-k):=by
  have:=Nat.lt_mul_div_succ m hp;rw[hm,Nat.mul_comm] at this;exact this
 unfold inB;simp only[];rw[e,←Nat.mul_assoc,←Nat.mul_assoc];exact⟨Nat.mul_le_mul_right _ h1,Nat.mul_le_mul_right _ h2⟩
theorem canon_sorted(S:Nat→Prop): ∀(h n:Nat),(canon S h n).Pairwise before2
 |0,n=>by
  unfold canon;split<;>simp
 |h+1,n=>by
  unfold canon;split
  · simp
  · have key: ∀i j:Nat,i+1≤j→ ∀a∈canon S h i,∀b∈canon S h j,before2 a b:=by
     intro i j hij a ha b hb;have h1:=(canon_in S h i a ha).2;have h2:=(canon_in S h j b hb).1;exact Nat.le_trans h1 (Nat.le_trans (Nat.mul_le_mul_right _ hij) h2)
    rw[List.pairwise_append,List.pairwise_append,List.pairwise_append];refine⟨canon_sorted S h _,⟨canon_sorted S h _,⟨canon_sorted S h _,canon_sorted S h _,key _ _ om_⟩,?_⟩,?_⟩
    · intro a ha b hb
      rw[List.mem_append] at hb;rcases hb with hb|hb
      · exact key _ _ om_ a ha b hb
      · exact key _ _ om_ a ha b hb
    · intro a ha b hb
      rw[List.mem_append,List.mem_append] at hb;rcases hb with hb|hb|hb
      · exact key _ _ om_ a ha b hb
      · exact key _ _ om_ a ha b hb
      · exact key _ _ om_ a ha b hb
theorem pairs_less{α:Type}{R S:α→α→Prop}(h: ∀a b,R a b→S a b): ∀{l:List α},l.Pairwise R→l.Pairwise S
 | [],_=>by simp
 |x::l,hl=>by
  rw[List.pairwise_cons] at hl⊢;exact⟨fun y hy=>h x y (hl.1 y hy),pairs_less h hl.2⟩
theorem sorted_ext: ∀(A B:List Blk2),A.Pairwise before2→B.Pairwise before2→(∀x,x∈A↔x∈B)→A=B:=by
 intro A B hA hB hm;have hpos: ∀b:Blk2,b.2*4^b.1<(b.2+1)*4^b.1:=fun b=>Nat.mul_lt_mul_of_pos_right om_ (Nat.pow_pos om_);have hirr: ∀x:Blk2,¬before2 x x:=fun x h=>by
  have:=hpos x;unfold before2 at h;omega
 have hnA:A.Nodup:=pairs_less (fun a b h e=>by subst e;exact hirr _ h) hA;have hnB:B.Nodup:=pairs_less (fun a b h e=>by subst e;exact hirr _ h) hB;refine List.Perm.eq_of_pairwise (le:=before2) ?_ hA hB ((List.perm_ext_iff_of_nodup hnA hnB).2 hm);intro a b _ _ h1 h2;have:=hpos a;have:=hpos b;unfold before2 at h1 h2;omega
def lvH(f t:Nat):Nat→Nat
 |0=>16
 |l+1=>if f%4^(16-l)≠0∨t<f+4^(16-l) then 16-(l+1) else lvH f t l
theorem dvd_down{f h k:Nat}(hk:k≤h)(hf:f%4^h=0):f%4^k=0:=by
 have e:4^h=4^k*4^(h-k):=by rw[←Nat.pow_add,show k+(h-k)=h by omega]
 have:=Nat.mod_mul_right_mod f (4^k) (4^(h-k));rw[←e,hf] at this;simpa using this.symm
theorem lvH_spec(f t:Nat): ∀l,l≤16→f%4^(16-l)=0→f+4^(16-l)≤t→
 (lvH f t l≤16∧f%4^(lvH f t l)=0∧f+4^(lvH f t l)≤t∧ ∀k,lvH f t l<k→k≤16→(f%4^k≠0∨t<f+4^k))
 |0,_,h1,h2=>by
  unfold lvH;exact⟨Nat.le_refl _,h1,h2,fun k a b=>by omega⟩
 |l+1,hl,h1,h2=>by
  unfold lvH;by_cases hc:f%4^(16-l)≠0∨t<f+4^(16-l)
  · rw[if_pos hc]
    refine⟨om_,h1,h2,fun k a b=>?_⟩;rcases hc with hc|hc
    · exact .inl fun h=>hc (dvd_down om_ h)
    · right
      have:4^(16-l)≤4^k:=Nat.pow_le_pow_right om_ om_;omega
  · rw[if_neg hc]
    have hc1:f%4^(16-l)=0:=by
     by_cases h:f%4^(16-l)=0
     · exact h
     · exact absurd (.inl h) hc
    exact lvH_spec f t l om_ hc1 (by
     have: ¬t<f+4^(16-l):=fun h=>hc (.inr h);omega)
theorem nest{k m h n:Nat}(hk:k≤h)(h1:n*4^h≤m*4^k)(h2:m*4^k<(n+1)*4^h):(m+1)*4^k≤(n+1)*4^h∧m/4^(h-k)=n:=by
 have hp:0<4^k:=Nat.pow_pos om_;have e:4^h=4^(h-k)*4^k:=by rw[←Nat.pow_add,show h-k+k=h by omega]
 rw[e,←Nat.mul_assoc] at h1 h2;have g1:n*4^(h-k)≤m:=Nat.le_of_mul_le_mul_right h1 hp;have g2:m<(n+1)*4^(h-k):=Nat.lt_of_mul_lt_mul_right h2;refine⟨?_,?_⟩
 · rw[e,←Nat.mul_assoc]
   exact Nat.mul_le_mul_right _ g2
 · have hp2:0<4^(h-k):=Nat.pow_pos om_
   apply Nat.div_eq_of_lt_le
   · exact g1
   · exact g2
def cutBu:Nat→Nat→Nat→List Blk2
 |0,_,_=>[]
 |fu+1,f,t=>if f<t then(lvH f t 16,f/4^lvH f t 16)::cutBu fu (f+4^lvH f t 16) t else[]
def sub(a b k m:Nat):Prop:=a≤m*4^k∧(m+1)*4^k≤b
def Inv(a b f:Nat):Prop:= ∀k m,k≤16→m*4^k<f→f<(m+1)*4^k→ ¬sub a b k m
theorem par_bounds(k m:Nat):(m/4)*4^(k+1)≤m*4^k∧(m+1)*4^k≤(m/4+1)*4^(k+1):=by
 have e: ∀x:Nat,x*4^(k+1)=(4*x)*4^k:=fun x=>by rw[Nat.pow_succ,Nat.mul_comm 4 x,Nat.mul_assoc,Nat.mul_comm 4]
 rw[e,e];exact⟨Nat.mul_le_mul_right _ om_,Nat.mul_le_mul_right _ om_⟩
theorem no_mid{h k n m:Nat}(hk:h≤k)(h1:n*4^h<m*4^k)(h2:m*4^k<(n+1)*4^h):False:=by
 have hp:0<4^h:=Nat.pow_pos om_;have e:4^k=4^(k-h)*4^h:=by rw[←Nat.pow_add,show k-h+h=k by omega]
 rw[e,←Nat.mul_assoc] at h1 h2;have g1:=Nat.lt_of_mul_lt_mul_right h1;have g2:=Nat.lt_of_mul_lt_mul_right h2;omega
theorem mem_cutBu(a b:Nat): ∀(fu f:Nat),b-f≤fu→a≤f→f≤b→Inv a b f→ ∀k m,
 (k,m)∈cutBu fu f b↔(k≤16∧f≤m*4^k∧(m+1)*4^k≤b∧(k=16∨ ¬sub a b (k+1) (m/4)))
 |0,f,h1,h2,h3,hI,k,m=>by
  simp only[cutBu,List.not_mem_nil,false_iff];rintro⟨_,g1,g2,_⟩
  have:0<4^k:=Nat.pow_pos om_;rw[Nat.add_mul] at g2;omega
 |fu+1,f,h1,h2,h3,hI,k,m=>by
  unfold cutBu;by_cases hlt:f<b
  · rw[if_pos hlt]
    obtain⟨p1,p2,p3,p4⟩:=lvH_spec f b 16 om_ (by simp[Nat.mod_one]) (by simp;omega);generalize lvH f b 16=h at*;have hpz:0<4^h:=Nat.pow_pos om_;have hfe:f/4^h*4^h=f:=Nat.div_mul_cancel (Nat.dvd_of_mod_eq_zero p2);generalize hn:f/4^h=n at*;have hfe2:(n+1)*4^h=f+4^h:=by rw[Nat.add_mul,hfe];omega
    have hI2:Inv a b (f+4^h):=by
     intro k m hk g1 g2 hs;rcases Nat.lt_trichotomy (m*4^k) f with g|g|g
     · exact hI k m hk g om_ hs
     ·
      have hkh:h<k:=by
       rcases Nat.lt_or_ge h k with x|x
       · exact x
       · have:=Nat.pow_le_pow_right (show 0<4 by omega) x
         rw[Nat.add_mul] at g2;omega
      rcases p4 k hkh hk with x|x
      · apply x
        rw[←g];exact Nat.mul_mod_left _ _
      · have:=hs.2
        rw[Nat.add_mul] at this;omega
     ·
      rcases Nat.lt_or_ge h k with x|x
      · exact no_mid (h:=h) (k:=k) (n:=n) (m:=m) om_ om_ om_
      · have:=(nest (k:=k) (m:=m) (h:=h) (n:=n) x om_ om_).1
        omega
    have ih:=mem_cutBu a b fu (f+4^h) om_ om_ p3 hI2 k m;rw[List.mem_cons,ih];constructor
    · rintro(he|⟨g1,g2,g3,g4⟩)
      · simp only[Prod.mk.injEq] at he
        obtain⟨rfl,rfl⟩:=he;refine⟨p1,om_,om_,?_⟩;by_cases h16:k=16
        · exact .inl h16
        · right
          intro hs;obtain⟨b1,b2⟩:=par_bounds k m;by_cases hst:(m/4)*4^(k+1)=f
          · rcases p4 (k+1) om_ om_ with x|x
            · apply x
              rw[←hst];exact Nat.mul_mod_left _ _
            · have:=hs.2
              rw[Nat.add_mul] at this;omega
          · exact hI (k+1) (m/4) om_ om_ om_ hs
      · exact⟨g1,om_,g3,g4⟩
    · rintro⟨g1,g2,g3,g4⟩
      by_cases hx:f+4^h≤m*4^k
      · exact .inr ⟨g1,hx,g3,g4⟩
      · left
        rcases Nat.lt_trichotomy k h with x|x|x
        · exfalso
          rcases g4 with g4|g4
          · omega
          · apply g4
            obtain⟨_,e2⟩:=nest (k:=k) (m:=m) (h:=h) (n:=n) om_ om_ om_;obtain⟨b1,b2⟩:=par_bounds k m;have e3:m/4/4^(h-(k+1))=n:=by
             rw[Nat.div_div_eq_div_mul,←e2];congr 1
             rw[Nat.mul_comm,←Nat.pow_succ];congr 1
             omega
            have hpp:0<4^(h-(k+1)):=Nat.pow_pos om_;have e:4^h=4^(h-(k+1))*4^(k+1):=by rw[←Nat.pow_add,show h-(k+1)+(k+1)=h by omega]
            have q1:n*4^(h-(k+1))≤m/4:=by rw[←e3];exact Nat.div_mul_le_self _ _
            have q2:m/4+1≤(n+1)*4^(h-(k+1)):=by
             have:=Nat.lt_mul_div_succ (m/4) hpp;rw[e3,Nat.mul_comm] at this;exact this
            have r1:=Nat.mul_le_mul_right (4^(k+1)) q1;have r2:=Nat.mul_le_mul_right (4^(k+1)) q2;rw[Nat.mul_assoc,←e] at r1 r2;exact⟨om_,om_⟩
        · subst x
          have:m=n:=by
           have s1:n*4^k≤m*4^k:=by omega
           have s2:m*4^k<(n+1)*4^k:=by omega
           have t1:=Nat.le_of_mul_le_mul_right s1 hpz;have t2:=Nat.lt_of_mul_lt_mul_right s2;omega
          rw[this]
        · exfalso
          have hst:m*4^k=f:=by
           rcases Nat.lt_or_ge f (m*4^k) with y|y
           · exact(no_mid (h:=h) (k:=k) (n:=n) (m:=m) om_ om_ om_).elim
           · omega
          rcases p4 k x g1 with y|y
          · apply y
            rw[←hst];exact Nat.mul_mod_left _ _
          · rw[Nat.add_mul] at g3
            omega
  · rw[if_neg hlt]
    simp only[List.not_mem_nil,false_iff];rintro⟨_,g1,g2,_⟩
    have:0<4^k:=Nat.pow_pos om_;rw[Nat.add_mul] at g2;omega
theorem cutBu_in(t:Nat): ∀(fu f:Nat),f≤t→ ∀x∈cutBu fu f t,f≤x.2*4^x.1∧(x.2+1)*4^x.1≤t
 |0,f,_,x,hx=>by simp[cutBu] at hx
 |fu+1,f,hft,x,hx=>by
  unfold cutBu at hx;by_cases hlt:f<t
  · rw[if_pos hlt] at hx
    obtain⟨p1,p2,p3,p4⟩:=lvH_spec f t 16 om_ (by simp[Nat.mod_one]) (by simp;omega);generalize lvH f t 16=h at*;have hfe:f/4^h*4^h=f:=Nat.div_mul_cancel (Nat.dvd_of_mod_eq_zero p2);rw[List.mem_cons] at hx;rcases hx with rfl|hx
    · simp only[]
      rw[Nat.add_mul,hfe];exact⟨Nat.le_refl _,om_⟩
    · have:=cutBu_in t fu (f+4^h) p3 x hx
      exact⟨om_,this.2⟩
  · rw[if_neg hlt] at hx
    simp at hx
theorem cutBu_sorted(t:Nat): ∀(fu f:Nat),f≤t→(cutBu fu f t).Pairwise before2
 |0,f,_=>by simp[cutBu]
 |fu+1,f,hft=>by
  unfold cutBu;by_cases hlt:f<t
  · rw[if_pos hlt]
    obtain⟨p1,p2,p3,p4⟩:=lvH_spec f t 16 om_ (by simp[Nat.mod_one]) (by simp;omega);generalize lvH f t 16=h at*;have hfe:f/4^h*4^h=f:=Nat.div_mul_cancel (Nat.dvd_of_mod_eq_zero p2);rw[List.pairwise_cons];refine⟨fun x hx=>?_,cutBu_sorted t fu _ p3⟩;have:=(cutBu_in t fu (f+4^h) p3 x hx).1;unfold before2;simp only[];rw[Nat.add_mul,hfe];omega
  · rw[if_neg hlt]
    simp
def cutB(f t:Nat):List Blk2:=cutBu (t-f) f t
theorem mem_cutB(a b:Nat)(hab:a≤b)(k m:Nat):(k,m)∈cutB a b↔(k≤16∧sub a b k m∧(k=16∨ ¬sub a b (k+1) (m/4))):=by
 unfold cutB;rw[mem_cutBu a b (b-a) a (Nat.le_refl _) (Nat.le_refl _) hab (fun k m _ g1 _ hs=>by have:=hs.1;omega)];unfold sub;constructor
 · rintro⟨h1,h2,h3,h4⟩;exact⟨h1,⟨h2,h3⟩,h4⟩
 · rintro⟨h1,⟨h2,h3⟩,h4⟩;exact⟨h1,h2,h3,h4⟩
def Apart(D:List (Nat×Nat)):Prop:=D.Pairwise (fun s t=>s.2<t.1)∧ ∀s∈D,s.1<s.2
def inD(D:List (Nat×Nat))(q:Nat):Prop:= ∃s∈D,s.1≤q∧q<s.2
theorem apart_eq{D:List (Nat×Nat)}(h:Apart D){s t:Nat×Nat}(hs:s∈D)(ht:t∈D)(hle:s.1≤t.2)(hle2:t.1≤s.2):s=t:=by
 obtain⟨hp,hne⟩:=h;induction D with
 |nil=>simp at hs
 |cons d r ih=>
  rw[List.pairwise_cons] at hp;simp only[List.mem_cons] at hs ht;rcases hs with rfl|hs<;>rcases ht with rfl|ht
  · rfl
  · have:=hp.1 t ht;omega
  · have:=hp.1 s hs;omega
  · exact ih hs ht hp.2 (fun x hx=>hne x (by simp[hx]))
theorem full_inD{D:List (Nat×Nat)}(h:Apart D)(k m:Nat):full (inD D) k m↔ ∃s∈D,sub s.1 s.2 k m:=by
 have hp:0<4^k:=Nat.pow_pos om_;have hm:(m+1)*4^k=m*4^k+4^k:=by rw[Nat.add_mul];omega
 constructor
 · intro hf
   obtain⟨s,hs,h1,h2⟩:=hf (m*4^k) (Nat.le_refl _) om_;refine⟨s,hs,h1,?_⟩;rcases Nat.lt_or_ge s.2 ((m+1)*4^k) with g|g
   · exfalso
     obtain⟨t,ht,g1,g2⟩:=hf s.2 om_ g;have:=apart_eq h hs ht (by have:=h.2 s hs;omega) g1;subst this;omega
   · exact g
 · rintro⟨s,hs,h1,h2⟩ q q1 q2
   exact⟨s,hs,om_,om_⟩
def tidyB(D:List (Nat×Nat)):List Blk2:=D.flatMap fun s=>cutB s.1 s.2
theorem tidyB_sorted{D:List (Nat×Nat)}(h:Apart D):(tidyB D).Pairwise before2:=by
 obtain⟨hp,hne⟩:=h;induction D with
 |nil=>simp[tidyB]
 |cons d r ih=>
  rw[List.pairwise_cons] at hp;have hd:=hne d (by simp);have e:tidyB (d::r)=cutB d.1 d.2++tidyB r:=by simp[tidyB]
  rw[e,List.pairwise_append];refine⟨cutBu_sorted _ _ _ om_,ih hp.2 (fun x hx=>hne x (by simp[hx])),fun x hx y hy=>?_⟩;have h1:=(cutBu_in d.2 _ d.1 om_ x hx).2;simp only[tidyB,List.mem_flatMap] at hy;obtain⟨s,hs,hy⟩:=hy;have h2:=hp.1 s hs;have h3:=(cutBu_in s.2 _ s.1 (by have:=hne s (by simp[hs]);omega) y hy).1;unfold before2;omega
theorem tidyB_mem{D:List (Nat×Nat)}(h:Apart D)(k m:Nat):(k,m)∈tidyB D↔(k≤16∧full (inD D) k m∧(k=16∨ ¬full (inD D) (k+1) (m/4))):=by
 simp only[tidyB,List.mem_flatMap];constructor
 · rintro⟨s,hs,hx⟩
   rw[mem_cutB _ _ (by have:=h.2 s hs;omega)] at hx;obtain⟨h1,h2,h3⟩:=hx;refine⟨h1,(full_inD h k m).2 ⟨s,hs,h2⟩,?_⟩;rcases h3 with h3|h3
   · exact .inl h3
   · right
     intro hf;obtain⟨t,ht,g⟩:=(full_inD h _ _).1 hf;obtain⟨b1,b2⟩:=par_bounds k m;have hp:0<4^k:=Nat.pow_pos om_;have hm:(m+1)*4^k=m*4^k+4^k:=by rw[Nat.add_mul];omega
     have:=apart_eq h hs ht (by have:=h2.1;have:=g.2;omega) (by have:=h2.2;have:=g.1;omega);subst this;exact h3 g
 · rintro⟨h1,h2,h3⟩
   obtain⟨s,hs,g⟩:=(full_inD h k m).1 h2;refine⟨s,hs,?_⟩;rw[mem_cutB _ _ (by have:=h.2 s hs;omega)];refine⟨h1,g,?_⟩;rcases h3 with h3|h3
   · exact .inl h3
   · exact .inr fun hh=>h3 ((full_inD h _ _).2 ⟨s,hs,hh⟩)
theorem tidyB_canon{D:List (Nat×Nat)}(h:Apart D)(hb: ∀s∈D,s.2≤2*4^16):tidyB D=canon (inD D) 16 0++canon (inD D) 16 1:=by
 apply sorted_ext
 · exact tidyB_sorted h
 · rw[List.pairwise_append]
   refine⟨canon_sorted _ _ _,canon_sorted _ _ _,fun x hx y hy=>?_⟩;have h1:=(canon_in _ 16 0 x hx).2;have h2:=(canon_in _ 16 1 y hy).1;unfold before2;omega
 · rintro⟨k,m⟩
   rw[tidyB_mem h,List.mem_append,mem_canon,mem_canon];constructor
   · rintro⟨h1,h2,h3⟩
     have hlt:m/4^(16-k)<2:=by
      obtain⟨s,hs,g⟩:=(full_inD h k m).1 h2;have h4:=hb s hs;have hp:0<4^k:=Nat.pow_pos om_;have e:2*4^16=2*4^(16-k)*4^k:=by rw[Nat.mul_assoc,←Nat.pow_add,show 16-k+k=16 by omega]
      have h5:(m+1)*4^k≤2*4^(16-k)*4^k:=by rw[←e];exact Nat.le_trans g.2 h4
      have h6:=Nat.le_of_mul_le_mul_right h5 hp;rw[Nat.div_lt_iff_lt_mul (Nat.pow_pos om_)];omega
     generalize m/4^(16-k)=z at*;rcases Nat.lt_or_ge z 1 with g|g
     · exact .inl ⟨h1,om_,h2,h3⟩
     · exact .inr ⟨h1,om_,h2,h3⟩
   · rintro(⟨h1,_,h2,h3⟩|⟨h1,_,h2,h3⟩)<;>exact⟨h1,h2,h3⟩
theorem kid_in(h n i q:Nat)(hi:i<4)(h1:(4*n+i)*4^h≤q)(h2:q<(4*n+i+1)*4^h):n*4^(h+1)≤q∧q<(n+1)*4^(h+1):=by
 have e: ∀m:Nat,m*4^(h+1)=4*m*4^h:=fun m=>by rw[Nat.pow_succ];rw[Nat.mul_comm 4 m,Nat.mul_assoc,Nat.mul_comm 4]
 rw[e,e];have a1:=Nat.mul_le_mul_right (4^h) (show 4*n≤4*n+i by omega);have a2:=Nat.mul_le_mul_right (4^h) (show 4*n+i+1≤4*(n+1) by omega);omega
def covB(A:List Blk2)(q:Nat):Bool:=A.any fun b=>decide (b.2*4^b.1≤q∧q<(b.2+1)*4^b.1)
def insB(b:Blk2)(h n:Nat):Bool:=decide (b.1≤h∧b.2/4^(h-b.1)=n)
def kidsB(h n:Nat):List Blk2:=[(h,4*n),(h,4*n+1),(h,4*n+2),(h,4*n+3)]
theorem ins_iff{b:Blk2}{h n:Nat}(hb:b.1≤h):insB b h n=true↔(n*4^h≤b.2*4^b.1∧(b.2+1)*4^b.1≤(n+1)*4^h):=by
 have hp:0<4^b.1:=Nat.pow_pos om_;have hm:(b.2+1)*4^b.1=b.2*4^b.1+4^b.1:=by rw[Nat.add_mul];omega
 simp only[insB,decide_eq_true_eq];constructor
 · rintro⟨_,hd⟩
   have hp:0<4^(h-b.1):=Nat.pow_pos om_;have e:4^h=4^(h-b.1)*4^b.1:=by rw[←Nat.pow_add,show h-b.1+b.1=h by omega]
   have h1:n*4^(h-b.1)≤b.2:=by rw[←hd];exact Nat.div_mul_le_self _ _
   have h2:b.2+1≤(n+1)*4^(h-b.1):=by
    have:=Nat.lt_mul_div_succ b.2 hp;rw[hd,Nat.mul_comm] at this;exact this
   rw[e,←Nat.mul_assoc,←Nat.mul_assoc];exact⟨Nat.mul_le_mul_right _ h1,Nat.mul_le_mul_right _ h2⟩
 · rintro⟨h1,h2⟩
   exact⟨hb,(nest hb h1 om_).2⟩
theorem blk_pos(b:Blk2):b.2*4^b.1<(b.2+1)*4^b.1:=Nat.mul_lt_mul_of_pos_right om_ (Nat.pow_pos om_)
theorem pair_apart{A:List Blk2}(hA:A.Pairwise before2){a b:Blk2}(ha:a∈A)(hb:b∈A){q:Nat}(h1:a.2*4^a.1≤q)(h2:q<(a.2+1)*4^a.1)(h3:b.2*4^b.1≤q)(h4:q<(b.2+1)*4^b.1):a=b:=by
 induction A with
 |nil=>simp at ha
 |cons d r ih=>
  rw[List.pairwise_cons] at hA;simp only[List.mem_cons] at ha hb;rcases ha with rfl|ha<;>rcases hb with rfl|hb
  · rfl
  · have:=hA.1 b hb;unfold before2 at this;omega
  · have:=hA.1 a ha;unfold before2 at this;omega
  · exact ih hA.2 ha hb
theorem meet_in{a b:Blk2}{q:Nat}(hab:a.1≤b.1)(h1:a.2*4^a.1≤q)(h2:q<(a.2+1)*4^a.1)(h3:b.2*4^b.1≤q)(h4:q<(b.2+1)*4^b.1):insB a b.1 b.2=true:=by
 rw[ins_iff hab];have e:4^b.1=4^(b.1-a.1)*4^a.1:=by rw[←Nat.pow_add,show b.1-a.1+a.1=b.1 by omega]
 have g1:b.2*4^b.1≤a.2*4^a.1:=by
  have:b.2*4^(b.1-a.1)*4^a.1<(a.2+1)*4^a.1:=by rw[Nat.mul_assoc,←e];omega
  have:=Nat.lt_of_mul_lt_mul_right this;rw[e,←Nat.mul_assoc];exact Nat.mul_le_mul_right _ om_
 exact⟨g1,(nest hab g1 om_).1⟩
theorem ins_same{a b:Blk2}(h:insB a b.1 b.2=true)(he:a.1=b.1):a=b:=by
 simp only[insB,decide_eq_true_eq] at h;obtain⟨_,h2⟩:=h;rw[he] at h2;simp at h2;exact Prod.ext he h2
theorem covS{A:List Blk2}{q:Nat}:covB A q=true↔ ∃b∈A,b.2*4^b.1≤q∧q<(b.2+1)*4^b.1:=by
 simp[covB,List.any_eq_true]
def NoFour(A:List Blk2):Prop:= ∀h n pre suf,A=pre++(kidsB h n++suf)→ ¬h<16
theorem side{A:List Blk2}(hA:A.Pairwise before2){h n:Nat}(h0:(h,4*n)∈A)(h1:(h,4*n+1)∈A)(h2:(h,4*n+2)∈A)(h3:(h,4*n+3)∈A): ∃pre suf,A=pre++(kidsB h n++suf):=by
 have nxt: ∀(A:List Blk2) (a b:Blk2),(a::A).Pairwise before2→b∈A→(a.2+1)*4^a.1=b.2*4^b.1→ ∃R,A=b::R:=by
  intro A a b hA hb he;cases A with
  |nil=>simp at hb
  |cons d R=>
   rw[List.pairwise_cons,List.pairwise_cons] at hA;simp only[List.mem_cons] at hb;rcases hb with rfl|hb
   · exact⟨R,rfl⟩
   · have g1:=hA.1 d (by simp)
     have g2:=hA.2.1 b hb;have g3:=blk_pos d;unfold before2 at g1 g2;omega
 obtain⟨pre,R,rfl⟩:=List.append_of_mem h0;rw[List.pairwise_append] at hA;obtain⟨_,hR,hpre⟩:=hA;have inR: ∀i,1≤i→(h,4*n+i)∈pre++(h,4*n)::R→(h,4*n+i)∈R:=by
  intro i hi hm;simp only[List.mem_append,List.mem_cons] at hm;rcases hm with hm|hm|hm
  · have:=hpre _ hm (h,4*n) (by simp)
    unfold before2 at this;simp only[] at this;have:=Nat.le_of_mul_le_mul_right this (Nat.pow_pos om_);omega
  · simp at hm;omega
  · exact hm
 have m1:=inR 1 om_ h1;have m2:=inR 2 om_ h2;have m3:=inR 3 om_ h3;obtain⟨R1,rfl⟩:=nxt R _ (h,4*n+1) hR m1 rfl;have hR1:=(List.pairwise_cons.1 hR).2;have m2':(h,4*n+2)∈R1:=by simpa using m2
 obtain⟨R2,rfl⟩:=nxt R1 _ (h,4*n+2) hR1 m2' rfl;have hR2:=(List.pairwise_cons.1 hR1).2;have m3':(h,4*n+3)∈R2:=by simpa using m3
 obtain⟨R3,rfl⟩:=nxt R2 _ (h,4*n+3) hR2 m3' rfl;exact⟨pre,R3,by simp[kidsB]⟩
theorem min_height(A:List Blk2)(p:Blk2→Prop)(hne: ∃b∈A,p b): ∃b∈A,p b∧ ∀c∈A,p c→b.1≤c.1:=by
 obtain⟨b0,hb0,hp0⟩:=hne;have: ∀(N:Nat) (b:Blk2),b.1≤N→b∈A→p b→ ∃b∈A,p b∧ ∀c∈A,p c→b.1≤c.1:=by
  intro N;induction N with
  |zero=>intro b hb hm hp;exact⟨b,hm,hp,fun c _ _=>by omega⟩
  |succ N ih=>
   intro b hb hm hp;by_cases h: ∃c∈A,p c∧c.1<b.1
   · obtain⟨c,hc,hpc,hlt⟩:=h
     exact ih c om_ hc hpc
   · refine⟨b,hm,hp,fun c hc hpc=>?_⟩
     rcases Nat.lt_or_ge c.1 b.1 with g|g
     · exact absurd ⟨c,hc,hpc,g⟩ h
     · exact g
 exact this b0.1 b0 (Nat.le_refl _) hb0 hp0
theorem tidy_max{A:List Blk2}(hA:A.Pairwise before2)(hN:NoFour A){k m:Nat}(hk:k<16)(hm:(k,m)∈A): ¬full (fun q=>covB A q=true) (k+1) (m/4):=by
 intro hf;have hin0:insB (k,m) (k+1) (m/4)=true:=by
  simp only[insB,decide_eq_true_eq];exact⟨om_,by simp[show k+1-k=1 by omega]⟩
 obtain⟨⟨k',m'⟩,hb,hi,hmin⟩:=min_height A (fun b=>b.1≤k∧insB b (k+1) (m/4)=true) ⟨(k,m),hm,Nat.le_refl _,hin0⟩;obtain⟨hk',hi⟩:=hi;simp only[] at hk';have hpar:full (fun q=>covB A q=true) (k'+1) (m'/4):=by
  refine full_sub hf om_ ?_;simp only[insB,decide_eq_true_eq] at hi;rw[Nat.div_div_eq_div_mul,←hi.2];congr 1
  rw[Nat.mul_comm,←Nat.pow_succ];congr 1
  omega
 have hparin:(m/4)*4^(k+1)≤(m'/4)*4^(k'+1)∧(m'/4+1)*4^(k'+1)≤(m/4+1)*4^(k+1):=by
  have:insB (k'+1,m'/4) (k+1) (m/4)=true:=by
   simp only[insB,decide_eq_true_eq] at hi⊢;refine⟨om_,?_⟩;rw[Nat.div_div_eq_div_mul,←hi.2];congr 1
   rw[Nat.mul_comm,←Nat.pow_succ];congr 1
   omega
  exact(ins_iff so_).1 this
 have bro: ∀i,i<4→(k',4*(m'/4)+i)∈A:=by
  intro i hi4;have hp:=blk_pos (k',4*(m'/4)+i);simp only[] at hp;obtain⟨g1,g2⟩:=kid_in k' (m'/4) i ((4*(m'/4)+i)*4^k') hi4 (Nat.le_refl _) hp;obtain⟨b,hbA,c1,c2⟩:=covS.1 (hpar _ g1 g2);rcases Nat.lt_or_ge k' b.1 with hlt|hge
  ·
   exfalso
   have hin:insB (k'+1,m'/4) b.1 b.2=true:=meet_in (a:=(k'+1,m'/4)) (b:=b) so_ g1 g2 c1 c2;have hb2:=(ins_iff (b:=(k'+1,m'/4)) so_).1 hin;simp only[] at hb2;obtain⟨b1,b2⟩:=par_bounds k' m';have hp':=blk_pos (k',m');simp only[] at hp';have:=pair_apart hA hb hbA (q:=m'*4^k') (Nat.le_refl _) hp' om_ om_;subst this;simp only[] at hlt;omega
  ·
   have hin:insB b k' (4*(m'/4)+i)=true:=meet_in (a:=b) (b:=(k',4*(m'/4)+i)) hge c1 c2 (Nat.le_refl _) hp;have hbb:=(ins_iff hge).1 hin;have hbk:k'≤b.1:=by
    refine hmin b hbA ⟨om_,?_⟩;rw[ins_iff om_];have e1:=Nat.mul_le_mul_right (4^k') (show 4*(m'/4)≤4*(m'/4)+i by omega);have e2:=Nat.mul_le_mul_right (4^k') (show 4*(m'/4)+i+1≤4*(m'/4+1) by omega);have e: ∀x:Nat,x*4^(k'+1)=(4*x)*4^k':=fun x=>by rw[Nat.pow_succ,Nat.mul_comm 4 x,Nat.mul_assoc,Nat.mul_comm 4]
    rw[e,e] at hparin;omega
   have:=ins_same (b:=(k',4*(m'/4)+i)) hin so_;rw[←this];exact hbA
 obtain⟨pre,suf,he⟩:=side hA (by simpa using bro 0 om_) (bro 1 om_) (bro 2 om_) (bro 3 om_);exact hN _ _ pre suf he om_
theorem tidy_is_canon{A:List Blk2}(hA:A.Pairwise before2)(hN:NoFour A)(hb: ∀b∈A,b.1≤16∧b.2/4^(16-b.1)<2):
 A=canon (fun q=>covB A q=true) 16 0++canon (fun q=>covB A q=true) 16 1:=by
 have hself: ∀b∈A,full (fun q=>covB A q=true) b.1 b.2:=fun b hb q h1 h2=>covS.2 ⟨b,hb,h1,h2⟩;apply sorted_ext
 · exact hA
 · rw[List.pairwise_append]
   refine⟨canon_sorted _ _ _,canon_sorted _ _ _,fun x hx y hy=>?_⟩;have h1:=(canon_in _ 16 0 x hx).2;have h2:=(canon_in _ 16 1 y hy).1;unfold before2;omega
 · rintro⟨k,m⟩
   rw[List.mem_append,mem_canon,mem_canon];constructor
   · intro hm
     obtain⟨g1,g2⟩:=hb _ hm;simp only[] at g1 g2;have h3:k=16∨ ¬full (fun q=>covB A q=true) (k+1) (m/4):=by
      by_cases h:k=16
      · exact .inl h
      · exact .inr (tidy_max hA hN om_ hm)
     have hs:=hself _ hm;generalize m/4^(16-k)=z at*;rcases Nat.lt_or_ge z 1 with g|g
     · exact .inl ⟨g1,om_,hs,h3⟩
     · exact .inr ⟨g1,om_,hs,h3⟩
   · intro h
     have h1:k≤16:=by rcases h with h|h<;>exact h.1
     have h2:full (fun q=>covB A q=true) k m:=by rcases h with h|h<;>exact h.2.2.1
     have h3:k=16∨ ¬full (fun q=>covB A q=true) (k+1) (m/4):=by rcases h with h|h<;>exact h.2.2.2
     have hp:=blk_pos (k,m);simp only[] at hp;obtain⟨b,hbA,c1,c2⟩:=covS.1 (h2 _ (Nat.le_refl _) hp);rcases Nat.lt_trichotomy b.1 k with g|g|g
     · exfalso
       refine tidy_max hA hN (k:=b.1) (m:=b.2) om_ hbA (full_sub h2 om_ ?_);have hin:insB b k m=true:=meet_in (a:=b) (b:=(k,m)) so_ c1 c2 (Nat.le_refl _) hp;simp only[insB,decide_eq_true_eq] at hin;rw[Nat.div_div_eq_div_mul,←hin.2];congr 1
       rw[Nat.mul_comm,←Nat.pow_succ];congr 1
       omega
     · have hin:insB b k m=true:=meet_in (a:=b) (b:=(k,m)) so_ c1 c2 (Nat.le_refl _) hp
       have:=ins_same (b:=(k,m)) hin g;rw[←this];exact hbA
     · exfalso
       have hb16:=(hb b hbA).1;rcases h3 with h3|h3
       · omega
       · apply h3
         refine full_sub (hself b hbA) om_ ?_;have hin:insB (k,m) b.1 b.2=true:=meet_in (a:=(k,m)) (b:=b) so_ (Nat.le_refl _) hp c1 c2;simp only[insB,decide_eq_true_eq] at hin;rw[Nat.div_div_eq_div_mul,←hin.2];congr 1
         rw[Nat.mul_comm,←Nat.pow_succ];congr 1
         omega
theorem canon_no_four(S:Nat→Prop):NoFour (canon S 16 0++canon S 16 1):=by
 intro h n pre suf he hlt;have hm: ∀i,i<4→(h,4*n+i)∈canon S 16 0++canon S 16 1:=by
  intro i hi;rw[he];match i,hi with
  |0,_=>simp[kidsB]
  |1,_=>simp[kidsB]
  |2,_=>simp[kidsB]
  |3,_=>simp[kidsB]
 have hx: ∀i,i<4→full S h (4*n+i)∧ ¬full S (h+1) n:=by
  intro i hi;have:=hm i hi;rw[List.mem_append,mem_canon,mem_canon] at this;have e:(4*n+i)/4=n:=by omega
  rcases this with ⟨_,_,h3,h4⟩|⟨_,_,h3,h4⟩
  · rcases h4 with h4|h4
    · omega
    · rw[e] at h4;exact⟨h3,h4⟩
  · rcases h4 with h4|h4
    · omega
    · rw[e] at h4;exact⟨h3,h4⟩
 exact(hx 0 om_).2 ((full_succ S h n).2 ⟨(hx 0 om_).1,(hx 1 om_).1,(hx 2 om_).1,(hx 3 om_).1⟩)
end Canon
theorem refParent_any(l r c:Int)(w:World)(h0:1≤l)(h1:l≤16)(h2:0≤r)(r1:r≤131072)(h4:0≤c)(c1:c≤131072):
 Calls Tryz.prog 81 #[.agg #[vi vk l,vi vk r,vi vk c]] w fun e w'=>e=.returned (.agg #[vi vk (l-1),vi vk (r/2),vi vk (c/2)])∧Below w.heap.size w w':=by
 go_enter func81,ntmps81;go_wp2;refine bodyPost_ret (v:=.agg #[vi vk (l-1),vi vk (r/2),vi vk (c/2)]) (by simp[results,results81,go_sem]) rfl ⟨rfl,?_⟩;exact bl_
def vptB(a b:Int):Bool:=decide (-5400000≤a∧a≤5400000∧ -10800000≤b∧b<10800000)
theorem vptB_true{a b:Int}:vptB a b=true↔(-5400000≤a∧a≤5400000∧ -10800000≤b∧b<10800000):=by simp[vptB]
theorem vpt_any(a b:Int)(w:World):
 Calls Tryz.prog 53 #[.agg #[vi vk a,vi vk b]] w fun e w'=>e=.returned (.bool (vptB a b))∧Below w.heap.size w w':=by
 unfold vptB;go_enter func53,ntmps53;go_wp2;all_goals
  go_ret;refine⟨ret_bool (by first|(simp_all;done)|(simp_all;omega)),?_⟩;exact bl_
theorem refChildren_any(l r c:Int)(w:World)(h0:0≤l)(h1:l≤16)(h2:0≤r)(r1:r≤131072)(h4:0≤c)(c1:c≤131072):
 Calls Tryz.prog 80 #[.agg #[vi vk l,vi vk r,vi vk c]] w (RetCells1 w (kids l r c)):=by
 have s1:IntKind.i64.wrap (2*r)=2*r:=IntWalk.i64_in _ om_;have s2:IntKind.i64.wrap (2*c)=2*c:=IntWalk.i64_in _ (by clear s1;omega);go_enter func80,ntmps80;go_wp2;go_quiet (fail);clear s1 s2;go_wp2;go_ret;refine⟨.slice (some ⟨w.heap.size+1,0,none⟩) 4 4,rfl,own_new _ _ _ 3 4 _ _ (by simp) (by simp) rfl (by simp[maxLen]),?_⟩;exact bl_
theorem vpt_yes(a b:Int)(hv:vptB a b=true)(w:World):Calls Tryz.prog 53 #[.agg #[vi vk a,vi vk b]] w fun e w'=>e=.returned (.bool true)∧Below w.heap.size w w':=by
 rw[←hv];exact vpt_any a b w
theorem refValid_any(l r c:Int)(w:World):
 Calls Tryz.prog 46 #[.agg #[vi vk l,vi vk r,vi vk c]] w fun e w'=>e=.returned (.bool (vldB l r c))∧Below w.heap.size w w':=by
 by_cases h0:0≤l
 · by_cases h1:l≤16
   · have e1:wrap64 (2^l.toNat)=pw l:=by rw[←IntWalk.i64_left];exact pw_wrap h1
     have hp:=pw_bd h1;have hv:vldB l r c=decide (0≤r∧r<pw l∧0≤c∧c<2*pw l):=by simp[vldB,h0,h1]
     rw[hv];clear hv;have h0': ¬l<0:=by omega
     go_enter func46,ntmps46;go_wp2;all_goals
      go_ret;refine⟨ret_bool (by clear e1;first|(simp_all;done)|(simp_all;omega)),?_⟩;exact bl_
   · have hv:vldB l r c=false:=by simp[vldB,h1]
     rw[hv];have h0': ¬l<0:=by omega
     have h1':16<l:=by omega
     clear hv;go_enter func46,ntmps46;go_wp2;go_ret;refine⟨rfl,?_⟩;exact bl_
 · have hv:vldB l r c=false:=by simp[vldB,h0]
   rw[hv];have h0':l<0:=by omega
   clear hv;go_enter func46,ntmps46;go_wp2;go_ret;refine⟨rfl,?_⟩;exact bl_
end Go.Proofs.YtdeiofgddhbdaaaGreatDoor
