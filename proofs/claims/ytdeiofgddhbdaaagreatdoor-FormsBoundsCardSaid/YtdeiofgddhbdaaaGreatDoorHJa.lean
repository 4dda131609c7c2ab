/- The walk of ValidRegion, of law38's valid. -/
import Derived.Test.YtdeiofgddhbdaaaGreatDoorHWm
set_option linter.unusedSimpArgs false
set_option linter.unusedVariables false
set_option maxHeartbeats 4000000
set_option maxRecDepth 100000
open Go.RowKit
open Go.Lib (hid)
open Go.Proofs.Tryz
open Go.Value renaming int→vi
open Go.IntKind renaming i64→vk
namespace Go.Proofs.YtdeiofgddhbdaaaGreatDoor
section
open Canon
def ApartI(D:List Sp):Prop:=D.Pairwise (fun s t=>s.2<t.1)∧ ∀s∈D,s.1<s.2
def inI(D:List Sp)(q:Int):Prop:= ∃s∈D,s.1≤q∧q<s.2
theorem mrg_good(M:List Sp)(s:Sp)(hM:ApartI M)(hs:s.1<s.2)(hle: ∀m∈M,m.1≤s.1):
 ApartI (mrg M s)∧(∀m∈mrg M s,m.1≤s.1)∧ ∀q,inI (mrg M s) q↔(inI M q∨(s.1≤q∧q<s.2)):=by
 rcases snoc_cases M with rfl|⟨M',t,rfl⟩
 · rw[mrg_nil]
   refine⟨⟨by simp,by simpa using hs⟩,by simp,fun q=>by simp[inI]⟩
 · obtain⟨hp,hne⟩:=hM
   rw[List.pairwise_append] at hp;obtain⟨hp1,_,hp2⟩:=hp;have ht:=hne t (by simp);have hts:=hle t (by simp);by_cases h:s.1≤t.2
   · rw[mrg_in M' t s h]
     refine⟨⟨?_,?_⟩,?_,?_⟩
     · rw[List.pairwise_append]
       refine⟨hp1,by simp,fun a ha b hb=>?_⟩;simp only[List.mem_singleton] at hb;subst hb;exact hp2 a ha t (by simp)
     · intro m hm
       simp only[List.mem_append,List.mem_singleton] at hm;rcases hm with hm|rfl
       · exact hne m (by simp[hm])
       · simp only[];omega
     · intro m hm
       simp only[List.mem_append,List.mem_singleton] at hm;rcases hm with hm|rfl
       · exact hle m (by simp[hm])
       · exact hts
     · intro q
       simp only[inI,List.mem_append,List.mem_singleton];constructor
       · rintro⟨m,hm|rfl,h1,h2⟩
         · exact .inl ⟨m,.inl hm,h1,h2⟩
         · simp only[] at h1 h2
           by_cases hq:q<t.2
           · exact .inl ⟨t,.inr rfl,h1,hq⟩
           · exact .inr ⟨om_,om_⟩
       · rintro(⟨m,hm|rfl,h1,h2⟩|⟨h1,h2⟩)
         · exact⟨m,.inl hm,h1,h2⟩
         · exact⟨_,.inr rfl,h1,so_⟩
         · exact⟨_,.inr rfl,so_,so_⟩
   · rw[mrg_out M' t s h]
     refine⟨⟨?_,?_⟩,?_,?_⟩
     · rw[List.pairwise_append]
       refine⟨List.pairwise_append.2 ⟨hp1,by simp,hp2⟩,by simp,fun a ha b hb=>?_⟩;simp only[List.mem_singleton] at hb;subst hb;simp only[List.mem_append,List.mem_singleton] at ha;rcases ha with ha|rfl
       · have:=hp2 a ha t (by simp);omega
       · omega
     · intro m hm
       rw[List.mem_append,List.mem_singleton] at hm;rcases hm with hm|rfl
       · exact hne m hm
       · exact hs
     · intro m hm
       rw[List.mem_append,List.mem_singleton] at hm;rcases hm with hm|rfl
       · exact hle m hm
       · exact Int.le_refl _
     · intro q
       unfold inI;constructor
       · rintro⟨m,hm,h1,h2⟩
         rw[List.mem_append,List.mem_singleton] at hm;rcases hm with hm|rfl
         · exact .inl ⟨m,hm,h1,h2⟩
         · exact .inr ⟨h1,h2⟩
       · rintro(⟨m,hm,h1,h2⟩|⟨h1,h2⟩)
         · exact⟨m,by rw[List.mem_append];exact .inl hm,h1,h2⟩
         · exact⟨s,by simp,h1,h2⟩
theorem fold_good: ∀(D M:List Sp),ApartI M→(∀s∈D,s.1<s.2)→D.Pairwise (fun s t=>s.1≤t.1)→(∀m∈M,∀s∈D,m.1≤s.1)→
 ApartI (D.foldl mrg M)∧ ∀q,inI (D.foldl mrg M) q↔(inI M q∨inI D q)
 | [],M,hM,_,_,_=>⟨hM,fun q=>by simp[inI]⟩
 |d::D,M,hM,hne,hp,hle=>by
  rw[List.pairwise_cons] at hp;obtain⟨g1,g2,g3⟩:=mrg_good M d hM (hne d (by simp)) (fun m hm=>hle m hm d (by simp));obtain⟨k1,k2⟩:=fold_good D (mrg M d) g1 (fun s hs=>hne s (by simp[hs])) hp.2 (fun m hm s hs=>by have:=g2 m hm;have:=hp.1 s hs;omega);refine⟨k1,fun q=>?_⟩;rw[List.foldl_cons,k2,g3];constructor
  · rintro((h|h)|⟨s,hs,h⟩)
    · exact .inl h
    · exact .inr ⟨d,by simp,h⟩
    · exact .inr ⟨s,by simp[hs],h⟩
  · rintro(h|⟨s,hs,h⟩)
    · exact .inl (.inl h)
    · rw[List.mem_cons] at hs
      rcases hs with rfl|hs
      · exact .inl (.inr h)
      · exact .inr ⟨s,hs,h⟩
theorem sortS_sorted(D:List Sp):(sortS D).Pairwise (fun s t=>s.1≤t.1):=by
 have h:=List.pairwise_mergeSort (le:=fun x y=> !(ltOf cmpS) y x) (by
  intro a b c h1 h2;simp only[Bool.not_eq_true',ltOf_cmpS,decide_eq_false_iff_not] at*;omega) (by
  intro a b;simp only[Bool.or_eq_true,Bool.not_eq_true',ltOf_cmpS,decide_eq_false_iff_not];omega) D
 refine pairs_less ?_ h;intro a b h;simp only[Bool.not_eq_true',ltOf_cmpS,decide_eq_false_iff_not] at h;omega
theorem cover_good(L:List Cl)(hv: ∀x∈L,vldB x.1 x.2.1 x.2.2=true):ApartI (coverL L)∧ ∀q,inI (coverL L) q↔ ∃x∈L,(spF x:Int)≤q∧q<(spT x:Int):=by
 have hm: ∀s,s∈sortS (L.map spI)↔ ∃x∈L,spI x=s:=fun s=>by
  unfold sortS;rw[List.mem_mergeSort,List.mem_map]
 obtain⟨h1,h2⟩:=fold_good (sortS (L.map spI)) [] ⟨by simp,by simp⟩ (fun s hs=>by
  obtain⟨x,hx,rfl⟩:=(hm s).1 hs;exact(spOk_spI x (hv x hx)).2.1) (sortS_sorted _) (by simp)
 refine⟨h1,fun q=>?_⟩;have:=h2 q;show inI ((sortS (L.map spI)).foldl mrg []) q↔_
 rw[this];constructor
 · rintro(⟨s,hs,_⟩|⟨s,hs,h⟩)
   · simp at hs
   · obtain⟨x,hx,rfl⟩:=(hm s).1 hs
     exact⟨x,hx,h⟩
 · rintro⟨x,hx,h⟩
   exact .inr ⟨spI x,(hm _).2 ⟨x,hx,rfl⟩,h⟩
def blkOf(x:Cl):Blk2:=(16-x.1.toNat,mortI x)
def cellB(b:Blk2):Cl:=cellN b.2 (16-b.1)
theorem blkOf_cellB(b:Blk2)(h:b.1≤16):blkOf (cellB b)=b:=by
 obtain⟨k,n⟩:=b;simp only[] at h;have e:mortI (cellN n (16-k))=n:=by
  unfold mortI cellN;simp only[Int.toNat_natCast];exact mort_of _ n
 unfold blkOf cellB;rw[e];have:((cellN n (16-k)).1).toNat=16-k:=by simp[cellN]
 simp only[this];exact Prod.ext so_ rfl
structure Vl(x:Cl):Prop where
 l0:0≤x.1
 l1:x.1≤16
 r0:0≤x.2.1
 r1:x.2.1.toNat<2^x.1.toNat
 c0:0≤x.2.2
 c1:x.2.2.toNat<2*2^x.1.toNat
theorem vl_iff(x:Cl):vldB x.1 x.2.1 x.2.2=true↔Vl x:=by
 have e: ∀l:Int,pw l=((2^l.toNat:Nat):Int):=fun l=>by unfold pw;simp
 rw[vldB_true,e];generalize hp:2^x.1.toNat=p;constructor
 · rintro⟨h0,h1,h2,h3,h4,h5⟩
   exact⟨h0,h1,h2,by rw[hp];omega,h4,by rw[hp];omega⟩
 · rintro⟨h0,h1,h2,h3,h4,h5⟩
   rw[hp] at h3 h5;exact⟨h0,h1,h2,om_,h4,om_⟩
theorem blkOf_inj{x y:Cl}(hx:Vl x)(hy:Vl y)(h:blkOf x=blkOf y):x=y:=by
 obtain⟨l,r,c⟩:=x;obtain⟨l',r',c'⟩:=y;obtain⟨a0,a1,a2,a3,a4,a5⟩:=hx;obtain⟨b0,b1,b2,b3,b4,b5⟩:=hy;simp only[blkOf,mortI,Prod.mk.injEq] at*;obtain⟨h1,h2⟩:=h;have hl:l.toNat=l'.toNat:=by omega
 rw[←hl] at h2 b3;obtain⟨e1,e2⟩:=mort_inj _ _ _ _ _ a3 b3 h2;exact⟨om_,om_,om_⟩
theorem cellB_vl(b:Blk2)(h:b.1≤16)(hn:b.2<2*4^(16-b.1)):Vl (cellB b):=by
 obtain⟨k,n⟩:=b;simp only[] at h hn;have e1:=rwTo_lt (16-k) n;have e2:=colOf_lt (16-k) n hn;refine⟨?_,?_,?_,?_,?_,?_⟩<;>simp only[cellB,cellN,Int.toNat_natCast]<;>omega
theorem blk_lt(x:Cl)(hx:Vl x):(blkOf x).1≤16∧(blkOf x).2<2*4^(16-(blkOf x).1):=by
 have:=mort_lt x.1.toNat x.2.1.toNat x.2.2.toNat hx.c1;have h1:=hx.l1;have h0:=hx.l0;refine⟨by simp[blkOf],?_⟩;have e:16-(blkOf x).1=x.1.toNat:=by simp only[blkOf];omega
 rw[e];exact this
theorem cellB_blkOf(x:Cl)(hx:Vl x):cellB (blkOf x)=x:=by
 obtain⟨h1,h2⟩:=blk_lt x hx;exact blkOf_inj (cellB_vl _ h1 h2) hx (blkOf_cellB _ h1)
theorem spF_blk(x:Cl):spF x=(blkOf x).2*4^(blkOf x).1:=rfl
theorem spT_blk(x:Cl):spT x=((blkOf x).2+1)*4^(blkOf x).1:=rfl
theorem covB_map(L:List Cl)(q:Nat):covB (L.map blkOf) q=true↔ ∃x∈L,spF x≤q∧q<spT x:=by
 rw[covS];simp only[List.mem_map];constructor
 · rintro⟨b,⟨x,hx,rfl⟩,h⟩;exact⟨x,hx,h⟩
 · rintro⟨x,hx,h⟩;exact⟨_,⟨x,hx,rfl⟩,h⟩
theorem lvH_lv(f t:Nat): ∀l,l≤16→lvH f t l=16-lv f t l
 |0,_=>rfl
 |l+1,h=>by
  unfold lvH lv csz;have ih:=lvH_lv f t l om_;split
  · rfl
  · exact ih
theorem cutFu_map: ∀(fu f t:Nat),cutFu fu f t=(cutBu fu f t).map cellB
 |0,_,_=>rfl
 |fu+1,f,t=>by
  unfold cutFu cutBu;have e:=lvH_lv f t 16 (Nat.le_refl _);have hl:=lv_le f t 16;have e2:csz (lv f t 16)=4^lvH f t 16:=by rw[e];rfl
  split
  · rw[List.map_cons,cutFu_map fu,e2]
    congr 1
    unfold cellB;simp only[e];rw[show 16-(16-lv f t 16)=lv f t 16 by omega]
  · rfl
def natS(s:Sp):Nat×Nat:=(s.1.toNat,s.2.toNat)
theorem tidyL_map(D:List Sp):tidyL D=(tidyB (D.map natS)).map cellB:=by
 unfold tidyL tidyB;rw[List.map_flatMap,List.flatMap_map];congr 1
 funext s
 exact cutFu_map _ _ _
theorem apart_nat{D:List Sp}(h:ApartI D)(hk:SpOk D):Apart (D.map natS):=by
 refine⟨?_,?_⟩
 · rw[List.pairwise_map]
   refine(List.pairwise_iff_forall_sublist.2 ?_:D.Pairwise _);intro a b hab;have hs:=hab.subset;have ha:=hk a (hs (by simp));have hb:=hk b (hs (by simp));have:=(List.pairwise_iff_forall_sublist.1 h.1) hab;simp only[natS];omega
 · intro s hs
   obtain⟨x,hx,rfl⟩:=List.mem_map.1 hs;have:=hk x hx;simp only[natS];omega
theorem inD_nat{D:List Sp}(hk:SpOk D)(q:Nat):inD (D.map natS) q↔inI D q:=by
 unfold inD inI;constructor
 · rintro⟨s,hs,h1,h2⟩
   obtain⟨x,hx,rfl⟩:=List.mem_map.1 hs;have:=hk x hx;simp only[natS] at h1 h2;exact⟨x,hx,om_,om_⟩
 · rintro⟨x,hx,h1,h2⟩
   have:=hk x hx;exact⟨natS x,List.mem_map.2 ⟨x,hx,rfl⟩,by simp only[natS];omega,by simp only[natS];omega⟩
noncomputable def canonC (S:Nat→Prop):List Cl:=(canon S 16 0++canon S 16 1).map cellB
theorem canonC_congr{S T:Nat→Prop}(h: ∀q,S q↔T q):canonC S=canonC T:=by
 have:S=T:=funext fun q=>propext (h q);rw[this]
theorem tidyL_canon{D:List Sp}(h:ApartI D)(hk:SpOk D):tidyL D=canonC (fun q=>inI D q):=by
 rw[tidyL_map,tidyB_canon (apart_nat h hk) (fun s hs=>by
  obtain⟨x,hx,rfl⟩:=List.mem_map.1 hs;have:=hk x hx;simp only[natS];omega)]
 exact canonC_congr (inD_nat hk)
def covL(L:List Cl)(q:Nat):Prop:= ∃x∈L,spF x≤q∧q<spT x
theorem tidy_cover(L:List Cl)(hv: ∀x∈L,vldB x.1 x.2.1 x.2.2=true):tidyL (coverL L)=canonC (covL L):=by
 obtain⟨h1,h2⟩:=cover_good L hv;rw[tidyL_canon h1 (spOk_cover L hv)];refine canonC_congr fun q=>(h2 q).trans ?_;unfold covL;constructor
 · rintro⟨x,hx,a,b⟩;exact⟨x,hx,om_,om_⟩
 · rintro⟨x,hx,a,b⟩;exact⟨x,hx,om_,om_⟩
end
def wiB(x y:Cl):Bool:=decide (y.1≤x.1∧x.2.1/2^(x.1-y.1).toNat=y.2.1∧x.2.2/2^(x.1-y.1).toNat=y.2.2)
theorem Within_any(l r c l' r' c':Int)(w:World)(h0:0≤l)(h1:l≤16)(h2:0≤l')(h3:l'≤16):
 Calls Tryz.prog 47 #[.agg #[vi vk l,vi vk r,vi vk c],.agg #[vi vk l',vi vk r',vi vk c']] w fun e w'=>e=.returned (.bool (wiB (l,r,c) (l',r',c')))∧Below w.heap.size w w':=by
 have s0:IntKind.i64.wrap (l-l')=l-l':=IntWalk.i64_in _ om_;by_cases g0:l'≤l
 · have g0':0≤l-l':=by clear s0;omega
   have g1':l-l'≤64:=by clear s0;omega
   by_cases g1:r/2^(l-l').toNat=r'
   · have e1:(r/2^(l-l').toNat==r')=true:=by simp[g1]
     by_cases g2:c/2^(l-l').toNat=c'
     · have e2:(c/2^(l-l').toNat==c')=true:=by simp[g2]
       have hv:wiB (l,r,c) (l',r',c')=true:=by simp[wiB,g0,g1,g2]
       rw[hv];clear hv g1 g2;go_enter func47,ntmps47;go_wp2;go_quiet (fail);go_wp2;go_ret;refine⟨rfl,?_⟩;clear s0 e1 e2;exact bl_
     · have e2:(c/2^(l-l').toNat==c')=false:=by simp[g2]
       have hv:wiB (l,r,c) (l',r',c')=false:=by simp[wiB,g0,g1,g2]
       rw[hv];clear hv g1 g2;go_enter func47,ntmps47;go_wp2;go_quiet (fail);go_wp2;go_ret;refine⟨rfl,?_⟩;clear s0 e1 e2;exact bl_
   · have e1:(r/2^(l-l').toNat==r')=false:=by simp[g1]
     have hv:wiB (l,r,c) (l',r',c')=false:=by simp[wiB,g0,g1]
     rw[hv];clear hv g1;go_enter func47,ntmps47;go_wp2;go_quiet (fail);go_wp2;go_ret;refine⟨rfl,?_⟩;clear s0 e1;exact bl_
 · have hd:=decide_eq_false g0
   have hd2:decide (0≤l-l')=false:=decide_eq_false (by clear s0;omega);have hv:wiB (l,r,c) (l',r',c')=false:=by simp[wiB,g0]
   rw[hv];clear hv;go_enter func47,ntmps47;go_wp2;go_quiet (fail);go_wp2;go_ret;refine⟨rfl,?_⟩;clear s0;exact bl_
def anc(r l:Int)(k:Nat):Int:=r/2^(l.toNat-k)
def befF(x y:Cl):Nat→Nat→Bool
 |0,_=>false
 |f+1,k=>
  if anc x.2.1 x.1 k=anc y.2.1 y.1 k then
   if anc x.2.2 x.1 k=anc y.2.2 y.1 k then befF x y f (k+1) else decide (anc x.2.2 x.1 k<anc y.2.2 y.1 k)
  else decide (anc x.2.1 x.1 k<anc y.2.1 y.1 k)
def befB(x y:Cl):Bool:=befF x y ((min x.1 y.1).toNat+1) 0
theorem before_any(l r c l' r' c':Int)(w:World)(h0:0≤l)(h1:l≤16)(h2:0≤l')(h3:l'≤16):
 Calls Tryz.prog 48 #[.agg #[vi vk l,vi vk r,vi vk c],.agg #[vi vk l',vi vk r',vi vk c']] w fun e w'=>e=.returned (.bool (befB (l,r,c) (l',r',c')))∧Below w.heap.size w w':=by
 go_enter func48,ntmps48;go_wp2;go_loopw [5] (fun i wr=> ∃k q:Nat,k≤(min l l').toNat+1∧i=vi vk k∧befF (l,r,c) (l',r',c') ((min l l').toNat+1-k) k=befB (l,r,c) (l',r',c')∧wr=((w.alloc (.cells #[vi vk l,vi vk r,vi vk c] 58)).alloc (.cells #[vi vk l',vi vk r',vi vk c'] 58)).drewN q) (fun i _=>20-(intOf i).toNat)
 case atStart=>exact⟨0,0,Nat.zero_le _,rfl,rfl,rfl⟩
 case round=>
  obtain⟨k,q,hk,rfl,hh,rfl⟩:=hrel;by_cases g1:(k:Int)≤l
  · by_cases g2:(k:Int)≤l'
    · have hf:(min l l').toNat+1-k=((min l l').toNat+1-(k+1))+1:=by omega
      rw[hf] at hh;unfold befF at hh;simp only[] at hh;have hk2:k+1≤(min l l').toNat+1:=by omega
      have HK:=hid hk2;clear hk hf hk2;have s1:IntKind.i64.wrap (l-k)=l-k:=IntWalk.i64_in _ om_;have s2:IntKind.i64.wrap (l'-k)=l'-k:=IntWalk.i64_in _ om_;have p1:0≤l-(k:Int):=by clear s1 s2;omega
      have p2:0≤l'-(k:Int):=by clear s1 s2;omega
      have p3:l-(k:Int)≤64:=by clear s1 s2;omega
      have p4:l'-(k:Int)≤64:=by clear s1 s2;omega
      have d1:anc r l k=r/2^(l.toNat-k):=rfl;have d2:anc r' l' k=r'/2^(l'.toNat-k):=rfl;have d3:anc c l k=c/2^(l.toNat-k):=rfl;have d4:anc c' l' k=c'/2^(l'.toNat-k):=rfl;have D:=hid (And.intro d1 (And.intro d2 (And.intro d3 d4)));clear d1 d2 d3 d4;by_cases g3:anc r l k=anc r' l' k
      · rw[if_pos g3] at hh
        have e3:(r/2^(l.toNat-k) != r'/2^(l'.toNat-k))=false:=by rw[←D.out.1,←D.out.2.1];simp[g3]
        by_cases g4:anc c l k=anc c' l' k
        · rw[if_pos g4] at hh
          have HH:=hid hh;clear hh;have e4:(c/2^(l.toNat-k) != c'/2^(l'.toNat-k))=false:=by rw[←D.out.2.2.1,←D.out.2.2.2];simp[g4]
          clear g3 g4;go_wp2;go_quiet (fail);go_wp2;go_quiet (fail);go_wp2;go_roundw
          case rel=>exact⟨k+1,_,HK.out,by go_num,HH.out,rfl⟩
          case measure=>clear s1 s2 p1 p2 p3 p4;simp[intOf];omega
        · rw[if_neg g4] at hh
          have e4:(c/2^(l.toNat-k) != c'/2^(l'.toNat-k))=true:=by rw[←D.out.2.2.1,←D.out.2.2.2];simp[g4]
          rw[D.out.2.2.1,D.out.2.2.2] at hh;have HH:=hid hh;clear hh g3 g4;go_wp2;go_quiet (fail);go_wp2;go_quiet (fail);go_wp2;go_ret;refine⟨ret_bool HH.out,?_⟩;clear s1 s2;exact bl_
      · rw[if_neg g3] at hh
        have e3:(r/2^(l.toNat-k) != r'/2^(l'.toNat-k))=true:=by rw[←D.out.1,←D.out.2.1];simp[g3]
        rw[D.out.1,D.out.2.1] at hh;have HH:=hid hh;clear hh g3;go_wp2;go_quiet (fail);go_wp2;go_quiet (fail);go_wp2;go_ret;refine⟨ret_bool HH.out,?_⟩;clear s1 s2;exact bl_
    · have hf:(min l l').toNat+1-k=0:=by omega
      rw[hf] at hh;have HH:=hid hh;clear hh hf;have d2:=decide_eq_false g2;go_wp2;go_ret;refine⟨ret_bool HH.out,?_⟩;exact bl_
  · have hf:(min l l').toNat+1-k=0:=by omega
    rw[hf] at hh;have HH:=hid hh;clear hh hf;have d2:=decide_eq_false g1;go_wp2;go_ret;refine⟨ret_bool HH.out,?_⟩;exact bl_
theorem gt_mem(L:List Cl)(k:Nat)(hk:k<L.length):gt L k∈L:=by
 simp[gt,hk]
def kidsC(c:Cl):List Cl:=kids c.1 c.2.1 c.2.2
section
open Canon
theorem mort_anc(d:Nat): ∀l r c:Nat,d≤l→mort l r c/4^d=mort (l-d) (r/2^d) (c/2^d):=by
 induction d with
 |zero=>intro l r c _;simp
 |succ d ih=>
  intro l r c h;rw[Nat.pow_succ,←Nat.div_div_eq_div_mul,ih l r c om_];obtain⟨m,hm⟩: ∃m,l-d=m+1:=⟨l-d-1,om_⟩;have e:l-(d+1)=m:=by omega
  rw[hm,e,mort_step];omega
theorem wiB_ins{x y:Cl}(hx:Vl x)(hy:Vl y):wiB x y=insB (blkOf x) (blkOf y).1 (blkOf y).2:=by
 obtain⟨l,r,c⟩:=x;obtain⟨l',r',c'⟩:=y;obtain⟨a0,a1,a2,a3,a4,a5⟩:=hx;obtain⟨b0,b1,b2,b3,b4,b5⟩:=hy;simp only[] at*;obtain⟨l,rfl⟩:=Int.eq_ofNat_of_zero_le a0;obtain⟨r,rfl⟩:=Int.eq_ofNat_of_zero_le a2;obtain⟨c,rfl⟩:=Int.eq_ofNat_of_zero_le a4;obtain⟨l',rfl⟩:=Int.eq_ofNat_of_zero_le b0;obtain⟨r',rfl⟩:=Int.eq_ofNat_of_zero_le b2;obtain⟨c',rfl⟩:=Int.eq_ofNat_of_zero_le b4;simp only[Int.toNat_natCast] at*;rw[Bool.eq_iff_iff];unfold wiB insB;rw[decide_eq_true_eq,decide_eq_true_eq];simp only[blkOf,mortI,Int.toNat_natCast];by_cases hl:l'≤l
 · have ed:((l:Int)-(l':Int)).toNat=l-l':=by omega
   rw[ed];have e2:16-l'-(16-l)=l-l':=by omega
   rw[e2,mort_anc (l-l') l r c om_,show l-(l-l')=l' by omega];have q1:(r:Int)/2^(l-l')=((r/2^(l-l'):Nat):Int):=by simp
   have q2:(c:Int)/2^(l-l')=((c/2^(l-l'):Nat):Int):=by simp
   rw[q1,q2];have hr:r/2^(l-l')<2^l':=by
    rw[Nat.div_lt_iff_lt_mul (Nat.pow_pos om_),←Nat.pow_add,show l'+(l-l')=l by omega];exact a3
   constructor
   · rintro⟨_,h2,h3⟩
     have h2':r/2^(l-l')=r':=by exact_mod_cast h2
     have h3':c/2^(l-l')=c':=by exact_mod_cast h3
     exact⟨om_,by rw[h2',h3']⟩
   · rintro⟨_,h2⟩
     obtain⟨e1,e2⟩:=mort_inj l' _ _ _ _ hr b3 h2;exact⟨om_,by rw[e1],by rw[e2]⟩
 · constructor
   · rintro⟨h,_⟩;omega
   · rintro⟨h,_⟩;omega
def AllV(L:List Cl):Prop:= ∀x∈L,Vl x
theorem kids_vl{c:Cl}(hc:Vl c)(h:c.1<16):AllV (kidsC c):=by
 obtain⟨l,r,c⟩:=c;obtain⟨a0,a1,a2,a3,a4,a5⟩:=hc;simp only[] at*;have e:(l+1).toNat=l.toNat+1:=by omega
 intro x hx;simp only[kidsC,kids,List.mem_cons,List.not_mem_nil,or_false] at hx;rcases hx with rfl|rfl|rfl|rfl<;>(constructor<;>simp only[e,Nat.pow_succ]<;>omega)
theorem kids_blk{c:Cl}(hc:Vl c)(h:c.1<16):(kidsC c).map blkOf=kidsB ((blkOf c).1-1) (blkOf c).2:=by
 obtain⟨l,r,c⟩:=c;obtain⟨a0,a1,a2,a3,a4,a5⟩:=hc;simp only[] at*;obtain⟨l,rfl⟩:=Int.eq_ofNat_of_zero_le a0;obtain⟨r,rfl⟩:=Int.eq_ofNat_of_zero_le a2;obtain⟨c,rfl⟩:=Int.eq_ofNat_of_zero_le a4;have e:((l:Int)+1).toNat=l+1:=by omega
 have e1:(2*(r:Int)).toNat=2*r:=by omega
 have e2:(2*(r:Int)+1).toNat=2*r+1:=by omega
 have e3:(2*(c:Int)).toNat=2*c:=by omega
 have e4:(2*(c:Int)+1).toNat=2*c+1:=by omega
 have e5:16-(l+1)=16-l-1:=by omega
 have f1:2*r/2=r:=by omega
 have f2:(2*r+1)/2=r:=by omega
 have f3:2*c/2=c:=by omega
 have f4:(2*c+1)/2=c:=by omega
 have f5:2*r%2=0:=by omega
 have f6:(2*r+1)%2=1:=by omega
 have f7:2*c%2=0:=by omega
 have f8:(2*c+1)%2=1:=by omega
 simp only[kidsC,kids,kidsB,blkOf,mortI,List.map_cons,List.map_nil,e,e1,e2,e3,e4,Int.toNat_natCast,mort,f1,f2,f3,f4,f5,f6,f7,f8,e5,Nat.mul_zero,Nat.mul_one,Nat.add_zero,Nat.add_assoc]
theorem map_blk_back{L:List Cl}(hL:AllV L):(L.map blkOf).map cellB=L:=by
 rw[List.map_map];conv=>rhs;rw[←List.map_id L]
 exact List.map_congr_left fun b hb=>cellB_blkOf b (hL b hb)
theorem canon_h16{S:Nat→Prop}{h n:Nat}(hh:h≤16): ∀b∈canon S h n,b.1≤16:=by
 rintro⟨k,m⟩ hb
 have:=((mem_canon S h n k m).1 hb).1;simp only[];omega
end
def broB(x y z u:Cl):Bool:=if x.1=0 then false else
 let k:=kids (x.1-1) (x.2.1/2) (x.2.2/2)
 ceq x (gt k 0)&&ceq y (gt k 1)&&ceq z (gt k 2)&&ceq u (gt k 3)
theorem elem4{w:World}{B:Nat}{A:Option Addr}{x y z u:Cl}(h:Reads w B 3 A 4 (cvs [x,y,z,u])): ∃b off,A=some ⟨b,off,none⟩∧b<B∧
 (w.cell? ⟨b,off,none⟩=some (vi vk x.1)∧w.cell? ⟨b,off+1,none⟩=some (vi vk x.2.1)∧w.cell? ⟨b,off+2,none⟩=some (vi vk x.2.2))∧
 (w.cell? ⟨b,off+3,none⟩=some (vi vk y.1)∧w.cell? ⟨b,off+3+1,none⟩=some (vi vk y.2.1)∧w.cell? ⟨b,off+3+2,none⟩=some (vi vk y.2.2))∧
 (w.cell? ⟨b,off+6,none⟩=some (vi vk z.1)∧w.cell? ⟨b,off+6+1,none⟩=some (vi vk z.2.1)∧w.cell? ⟨b,off+6+2,none⟩=some (vi vk z.2.2))∧
 (w.cell? ⟨b,off+9,none⟩=some (vi vk u.1)∧w.cell? ⟨b,off+9+1,none⟩=some (vi vk u.2.1)∧w.cell? ⟨b,off+9+2,none⟩=some (vi vk u.2.2)):=by
 obtain⟨b,off,rfl,hb,a0⟩:=h.elem (k:=0) om_;obtain⟨b',off',e,_,a1⟩:=h.elem (k:=1) om_;cases e
 obtain⟨b',off',e,_,a2⟩:=h.elem (k:=2) om_;cases e
 obtain⟨b',off',e,_,a3⟩:=h.elem (k:=3) om_;cases e
 exact⟨b,off,rfl,hb,a0,a1,a2,a3⟩
theorem brothers_any(A:Option Addr)(ca:Nat)(l r c:Int)(y z u:Cl)(w:World)(hr:Reads w w.heap.size 3 A 4 (cvs [(l,r,c),y,z,u]))(h0:0≤l)(h1:l≤16)(h2:0≤r)(r1:r≤131072)(h4:0≤c)(c1:c≤131072):
 Calls Tryz.prog 49 #[.slice A 4 ca] w fun e w'=>e=.returned (.bool (broB (l,r,c) y z u))∧Below w.heap.size w w':=by
 have HR:=hid hr;obtain⟨b,off,rfl,hb,⟨x1,x2,x3⟩,_,_,_⟩:=elem4 hr;clear hr;simp only[] at x1 x2 x3;by_cases hz:l=0
 · subst hz
   go_enter func49,ntmps49;go_wp2;go_ret;exact⟨ret_bool (by simp[broB]),Below.refl _ _⟩
 · have hd:(l==0)=false:=by simp[hz]
   have P:=hid (fun w=>refParent_any l r c w om_ h1 h2 r1 h4 c1);have K:Hid (∀w,Calls Tryz.prog 80 #[.agg #[vi vk (l-1),vi vk (r/2),vi vk (c/2)]] w fun e w'=> ∃v,e=.returned v∧w'.ownsRow w.heap.size 58 3 v 4 (cvs (kids (l-1) (r/2) (c/2)))∧Below w.heap.size w w'):=hid (fun w=>refChildren_any (l-1) (r/2) (c/2) w om_ om_ om_ om_ om_ om_);go_enter func49,ntmps49;go_wp2_with (first|(go_at_call 81;refine(P.out _).mono ?_;rintro e w1 ⟨rfl,hb1⟩)|(go_at_call 80;refine(K.out _).mono ?_;rintro e w2 ⟨v,rfl,hown,hb2⟩;obtain⟨A',ca',rfl,hR',hle,_⟩:=own_form hown));have hb3:Below w.heap.size w w2:=hb1.trans (hb2.mono hb1.size);have hq:=eqlCell;have hR2:=HR.out.below hb3;obtain⟨_,_,e,_,⟨x1,x2,x3⟩,⟨y1,y2,y3⟩,⟨z1,z2,z3⟩,⟨u1,u2,u3⟩⟩:=elem4 hR2;cases e
   obtain⟨b',off',rfl,hb',⟨p1,p2,p3⟩,⟨q1,q2,q3⟩,⟨s1,s2,s3⟩,⟨t1,t2,t3⟩⟩:=elem4 hR';have E:broB (l,r,c) y z u=(ceq (l,r,c) (gt (kids (l-1) (r/2) (c/2)) 0)&&ceq y (gt (kids (l-1) (r/2) (c/2)) 1)&&ceq z (gt (kids (l-1) (r/2) (c/2)) 2)&&ceq u (gt (kids (l-1) (r/2) (c/2)) 3)):=by simp[broB,hz]
   simp only[kids,gt,List.getD_cons_zero,List.getD_cons_succ] at E;obtain⟨ya,yb,yc⟩:=y;obtain⟨za,zb,zc⟩:=z;obtain⟨ua,ub,uc⟩:=u;simp only[] at x1 x2 x3 y1 y2 y3 z1 z2 z3 u1 u2 u3 p1 p2 p3 q1 q2 q3 s1 s2 s3 t1 t2 t3;have hl1:l-1+1=l:=by omega
   simp only[hl1] at E p1 q1 s1 t1;clear hl1;have E2:=hid E;clear E;clear hR2 hR' hown HR P K hd;cases e1:ceq (l,r,c) (l,2*(r/2),2*(c/2)) with
   |false=>
    go_quiet (fail);go_wp2;go_ret;exact⟨ret_bool (by rw[E2.out];simp[e1]),bl_drewN hb3 _⟩
   |true=>
    cases e2:ceq (ya,yb,yc) (l,2*(r/2),2*(c/2)+1) with
    |false=>
     go_quiet (fail);go_wp2;go_ret;exact⟨ret_bool (by rw[E2.out];simp[e1,e2]),bl_drewN hb3 _⟩
    |true=>
     cases e3:ceq (za,zb,zc) (l,2*(r/2)+1,2*(c/2)) with
     |false=>
      go_quiet (fail);go_wp2;go_ret;exact⟨ret_bool (by rw[E2.out];simp[e1,e2,e3]),bl_drewN hb3 _⟩
     |true=>
      go_quiet (fail);go_wp2;go_ret;exact⟨ret_bool (by rw[E2.out];simp[e1,e2,e3]),bl_drewN hb3 _⟩
theorem Equal_any(A B:Option Addr)(n m ca cb:Nat)(L M:List Cl)(w:World)(B1 B2:Nat)(ha:Reads w B1 3 A n (cvs L))(hb:Reads w B2 3 B m (cvs M))(hn:n≤maxLen)(hm:m≤maxLen):
 Calls Tryz.prog 111 #[.slice A n ca,.slice B m cb] w fun e w'=>e=.returned (.bool (decide (L=M)))∧ ∃q,w'=w.drewN q:=by
 have hl:=ha.len;have hk:=hb.len;unfold maxLen at hn hm;by_cases hnm:n=m
 · subst hnm
   have hnn:((n:Int) != (n:Int))=false:=by simp
   have R1:=hid ha;have R2:=hid hb;have Hl:=hid hl;have Hk:=hid hk;clear ha hb hl hk;have hq:=neqCell;go_enter func111,ntmps111;go_wp2;go_loopw [13] (fun i wr=> ∃k q:Nat,k≤n∧i=vi vk k∧L.take k=M.take k∧wr=w.drewN q) (fun i _=>n-(intOf i).toNat)
   case atStart=>exact⟨0,0,Nat.zero_le _,rfl,by simp,rfl⟩
   case round=>
    obtain⟨k,q,hkn,rfl,ht,rfl⟩:=hrel;have HT:=hid ht;clear ht;by_cases hlt:k<n
    · obtain⟨b1,o1,rfl,hb1,x1,x2,x3⟩:=R1.out.elem hlt
      obtain⟨b2,o2,rfl,hb2,y1,y2,y3⟩:=R2.out.elem hlt;by_cases he:gt L k=gt M k
      · have hc:=ceq_true.2 he
        clear he;go_wp2;go_quiet (fail);go_wp2;go_roundw
        case rel=>exact⟨k+1,_,om_,by go_num,take_eq_succ HT.out (by rw[Hl.out];exact hlt) (by rw[Hk.out];exact hlt) (ceq_true.1 hc),rfl⟩
        case measure=>simp[intOf];omega
      · have hc:=ceq_false.2 he
        clear he;have hne:=hid (ne_of_gt (ceq_false.1 hc));go_wp2;go_quiet (fail);go_wp2;go_ret;exact⟨ret_bool (by simp[hne.out]),_,World.drewN_drewN _ _ _⟩
    · go_wp2
      go_ret;have hkk:k=n:=by omega
      subst hkk;have:=HT.out;rw[List.take_of_length_le (by rw[Hl.out];omega),List.take_of_length_le (by rw[Hk.out];omega)] at this;exact⟨ret_bool (by simp[this]),_,rfl⟩
 · have hnn:((n:Int) != (m:Int))=true:=by rw[bne_iff_ne];omega
   have hne:L≠M:=fun h=>hnm (by rw[←hl,←hk,h]);have hne:=hid hne;clear ha hb hl hk hnm;go_enter func111,ntmps111;go_wp2;go_ret;exact⟨ret_bool (by simp[hne.out]),0,rfl⟩
def vrB(L:List Cl):Bool:=decide (L.length≤4000)&& !badL L&&decide (tidyL (coverL L)=L)
theorem ValidRegion_any(A:Option Addr)(n c:Nat)(L:List Cl)(w:World)(hr:Reads w w.heap.size 3 A n (cvs L))(hn:n≤maxLen):
 Calls Tryz.prog 82 #[.slice A n c] w fun e w'=>e=.returned (.bool (vrB L))∧Below w.heap.size w w':=by
 have hl:=hr.len;have hbad:=allValid_any A n c L w hr hn;change Calls _ _ _ _ fun e w'=>e=.returned (.bool (badL L))∧_ at hbad
 have hn2:n≤maxLen:=hn;unfold maxLen at hn;by_cases hbig:4000<n
 · have e1:vrB L=false:=by simp[vrB,hl];omega
   rw[e1];clear e1 hl hr hbad hn2;go_enter func82,ntmps82;go_wp2;go_ret;exact⟨rfl,Below.refl _ _⟩
 · cases hb:badL L with
   |true=>
    have e1:vrB L=false:=by simp[vrB,hb]
    rw[e1];rw[hb] at hbad;have hbad:=hid hbad;clear hb e1 hl hr hn2;go_enter func82,ntmps82;go_wp2_with (go_at_call 107;refine hbad.out.mono ?_;rintro e w1 ⟨rfl,hb1⟩);go_ret;exact⟨rfl,hb1⟩
   |false=>
    have hv:=badL_false hb;rw[hb] at hbad;have hbad:=hid hbad;have hok:=spOk_cover L hv;have hcl:=coverL_length L;rw[hl] at hcl;have HR:=hid hr;have HV:=hid hv;have HO:=hid hok;have HN:=hid hn2;have e1:vrB L=decide (tidyL (coverL L)=L):=by simp[vrB,hb,hl];omega
    rw[e1];have HL:=hid hl;clear hb e1 hl hr hv hok hn2;go_enter func82,ntmps82;go_wp2_with fail;refine hbad.out.mono ?_;rintro e w1 ⟨rfl,hb1⟩
    go_wp2_with fail;(with_reducible refine(cover_any A n c L w1 ((HR.out.below hb1).more hb1.size) om_ HV.out).mono ?_)
    rintro e w2 ⟨v,rfl,hown,hb2⟩
    obtain⟨A2,c2,hv2,hr2,-⟩:=own_form hown;subst hv2;have hb12:=hb1.trans (hb2.mono hb1.size);go_wp2_with fail;(with_reducible refine(tidy_any A2 (coverL L).length c2 (coverL L) w2 hr2 om_ HO.out).mono ?_)
    rintro e w3 ⟨hb3,hcase⟩
    have hb13:=hb12.trans (hb3.mono hb12.size);rcases hcase with ⟨hT,v3,rfl,hown3⟩|⟨hx,rfl⟩
    · obtain⟨A4,c4,hv4,hr4,hc4,hc5⟩:=own_form hown3
      subst hv4;go_wp2_with fail;(with_reducible refine(Equal_any A4 A _ n c4 c (tidyL (coverL L)) L w3 _ _ hr4 (HR.out.below hb13) (by unfold maxLen;omega) HN.out).mono ?_)
      rintro e w4 ⟨rfl,q,rfl⟩
      go_wp2;go_ret;exact⟨rfl,bl_drewN hb13 _⟩
    · have hne:decide (tidyL (coverL L)=L)=false:=decide_eq_false (fun h=>by have:=HL.out;rw[←h] at this;omega)
      have HE:=hid hne;clear hne;go_wp2;go_ret;exact⟨ret_bool HE.out.symm,hb13⟩
end Go.Proofs.YtdeiofgddhbdaaaGreatDoor
