/- Plain: the sine of an altitude as an interval, from intervals of sines and cosines. No program in sight. -/
import Derived.Test.YtdeiofgddhbdaaaGreatDoorHGl
set_option linter.unusedSimpArgs false
set_option linter.unusedVariables false
set_option maxHeartbeats 4000000
set_option maxRecDepth 100000
open Go.RowKit
open Go.Lib (hid)
open Go.Proofs.Tryz
open Go.Value renaming int→vi
open Go.IntKind renaming i64→vk
namespace Go.Proofs.YtdeiofgddhbdaaaGreatDoor
def OkC(D:List Sp):Prop:= ∀x∈D,-10800000≤x.1∧x.1<10800000∧x.1≤x.2∧x.2≤10800000
theorem gs_mem{D:List Sp}{k:Nat}(hk:k<D.length):gs D k∈D:=by simp[gs,hk]
theorem mem_gs{D:List Sp}{x:Sp}(hx:x∈D): ∃k,k<D.length∧gs D k=x:=by
 obtain⟨k,hk,e⟩:=List.getElem_of_mem hx;exact⟨k,hk,by simp[gs,hk,e]⟩
theorem wdt_le(D:List Sp)(x m:Int)(k:Nat)(hk:k≤D.length):wdt D x k≤m↔0≤m∧ ∀i,i<k→((gs D i).1-x)%21600000+(gs D i).2-(gs D i).1≤m:=by
 induction k with
 |zero=>simp[wdt]
 |succ k ih=>
  have e:wdt D x (k+1)=max (wdt D x k) (((gs D k).1-x)%21600000+(gs D k).2-(gs D k).1):=by
   unfold wdt;rw[List.take_succ_eq_append_getElem om_,List.foldl_append];simp[gs,show k<D.length by omega]
  rw[e,Int.max_le,ih om_];constructor
  · rintro⟨⟨h0,h1⟩,h2⟩
    refine⟨h0,fun i hi=>?_⟩;by_cases h:i=k
    · rw[h];exact h2
    · exact h1 i om_
  · rintro⟨h0,h1⟩
    exact⟨⟨h0,fun i hi=>h1 i om_⟩,h1 k om_⟩
theorem wdt_all(D:List Sp)(x m:Int):wdt D x D.length≤m↔0≤m∧ ∀a∈D,(a.1-x)%21600000+a.2-a.1≤m:=by
 rw[wdt_le D x m D.length (Nat.le_refl _)];constructor
 · rintro⟨h0,h1⟩
   refine⟨h0,fun a ha=>?_⟩;obtain⟨k,hk,rfl⟩:=mem_gs ha;exact h1 k hk
 · rintro⟨h0,h1⟩
   exact⟨h0,fun i hi=>h1 _ (gs_mem hi)⟩
theorem wdt_perm{D D':List Sp}(h:D'.Perm D)(x:Int):wdt D' x D'.length=wdt D x D.length:=by
 refine Int.le_antisymm ((wdt_all D' x _).2 ?_) ((wdt_all D x _).2 ?_)
 · have:=(wdt_all D x _).1 (Int.le_refl _)
   exact⟨this.1,fun a ha=>this.2 a (h.mem_iff.1 ha)⟩
 · have:=(wdt_all D' x _).1 (Int.le_refl _)
   exact⟨this.1,fun a ha=>this.2 a (h.mem_iff.2 ha)⟩
def Bst(P:Int→Prop)(W:Int→Int)(s:Sp):Prop:=
 ((∀x,P x→21600000≤W x)∧s=(-10800000,10800000))∨(P s.1∧s.2=s.1+W s.1∧W s.1<21600000∧ ∀y,P y→W s.1<W y∨(W s.1=W y∧s.1≤y))
theorem bst_one{P:Int→Prop}{W:Int→Int}{s t:Sp}(hs:Bst P W s)(ht:Bst P W t):s=t:=by
 rcases hs with ⟨h1,h2⟩|⟨h1,h2,h3,h4⟩<;>rcases ht with ⟨k1,k2⟩|⟨k1,k2,k3,k4⟩
 · rw[h2,k2]
 · have:=h1 _ k1;omega
 · have:=k1 _ h1;omega
 · have a:=h4 _ k1
   have b:=k4 _ h1;have e:s.1=t.1:=by omega
   refine Prod.ext e ?_;rw[h2,k2,e]
theorem bst_iff{P Q:Int→Prop}{W:Int→Int}{s:Sp}(h: ∀x,P x↔Q x)(hs:Bst P W s):Bst Q W s:=by
 have e:P=Q:=funext fun x=>propext (h x);rw[←e];exact hs
theorem sgA_in{n:Int}(h0: -10800000≤n)(h1:n<10800000):sgA n=n:=by
 unfold sgA;by_cases h:0≤n
 · rw[show n%21600000=n by omega,if_neg om_]
 · rw[show n%21600000=n+21600000 by omega,if_pos om_];omega
def Beg(D:List Sp)(k:Nat)(x:Int):Prop:= ∃i,i<k∧(gs D i).1=x
theorem rarn_bst{D:List Sp}(hD:OkC D)(k:Nat)(hk:k≤D.length):Bst (Beg D k) (fun x=>wdt D x D.length) (foldR D k):=by
 induction k with
 |zero=>exact .inl ⟨fun x ⟨i,hi,_⟩=>absurd hi (Nat.not_lt_zero _),by simp[foldR]⟩
 |succ k ih=>
  replace ih:=ih om_
  have hg:=hD _ (gs_mem (show k<D.length by omega));rw[foldR_succ D k om_];unfold stepR;rw[sgA_in hg.1 hg.2.1];generalize foldR D k=s at*;generalize hx:(gs D k).1=x at*;have hB: ∀y,Beg D (k+1) y↔Beg D k y∨y=x:=by
   intro y;constructor
   · rintro⟨i,hi,e⟩
     by_cases h:i=k
     · subst h;exact .inr (by rw[←e,hx])
     · exact .inl ⟨i,om_,e⟩
   · rintro(⟨i,hi,e⟩|e)
     · exact⟨i,om_,e⟩
     · exact⟨k,om_,by rw[hx,e]⟩
  simp only[Bst,hB] at ih⊢;generalize hW:(fun x=>wdt D x D.length)=W at*;have hWx:wdt D x D.length=W x:=by rw[←hW]
  have hWs:wdt D s.1 D.length=W s.1:=by rw[←hW]
  have hWy: ∀y,wdt D y D.length=W y:=by intro y;rw[←hW]
  simp only[hWy] at ih⊢;by_cases hc:W x<s.2-s.1∨(W x=s.2-s.1∧W x<21600000∧x<s.1)
  · rw[if_pos hc]
    right
    simp only[];rcases ih with ⟨h1,h2⟩|⟨h1,h2,h3,h4⟩
    · have e1:s.1= -10800000:=by rw[h2]
      have e2:s.2=10800000:=by rw[h2]
      refine⟨.inr trivial,trivial,om_,?_⟩;rintro y (hy|rfl)
      · have:=h1 y hy;omega
      · omega
    · refine⟨.inr trivial,trivial,om_,?_⟩
      rintro y (hy|rfl)
      · have:=h4 y hy;omega
      · omega
  · rw[if_neg hc]
    rcases ih with ⟨h1,h2⟩|⟨h1,h2,h3,h4⟩
    · have e1:s.1= -10800000:=by rw[h2]
      have e2:s.2=10800000:=by rw[h2]
      refine .inl ⟨?_,h2⟩;rintro y (hy|rfl)
      · exact h1 y hy
      · omega
    · refine .inr ⟨.inl h1,h2,h3,?_⟩
      rintro y (hy|rfl)
      · exact h4 y hy
      · omega
theorem fR_le(D:List Sp)(m:Int)(k:Nat)(hk:k≤D.length):fR D k≤m↔(gs D 0).2≤m∧ ∀i,i<k→(gs D i).2≤m:=by
 induction k with
 |zero=>simp[fR]
 |succ k ih=>
  rw[fR_succ D k om_,Int.max_le,ih om_];constructor
  · rintro⟨⟨a,b⟩,c⟩
    refine⟨a,fun i hi=>?_⟩;by_cases h:i=k
    · rw[h];exact c
    · exact b i om_
  · rintro⟨a,b⟩
    exact⟨⟨a,fun i hi=>b i om_⟩,b k om_⟩
theorem fS_le(D:List Sp)(h0:0<D.length)(m:Int)(k:Nat)(hk:k≤D.length):(fS D k).2.2≤m↔(∀i,i<D.length→(gs D i).2-21600000≤m)∧ ∀i,i<k→(gs D i).2≤m:=by
 induction k with
 |zero=>
  have h:(fS D 0).2.2=fR D D.length-21600000:=by simp[fS]
  rw[h];have:=fR_le D (m+21600000) D.length (Nat.le_refl _);constructor
  · intro hm
    have:=this.1 om_;exact⟨fun i hi=>by have:=this.2 i hi;omega,fun i hi=>absurd hi (Nat.not_lt_zero _)⟩
  · rintro⟨a,-⟩
    have:=this.2 ⟨by have:=a 0 h0;omega,fun i hi=>by have:=a i hi;omega⟩;omega
 |succ k ih=>
  have e:(fS D (k+1)).2.2=max (fS D k).2.2 (gs D k).2:=by
   rw[fS_succ D k om_];unfold fS1;split<;>rfl
  rw[e,Int.max_le,ih om_];constructor
  · rintro⟨⟨a,b⟩,c⟩
    refine⟨a,fun i hi=>?_⟩;by_cases h:i=k
    · rw[h];exact c
    · exact b i om_
  · rintro⟨a,b⟩
    exact⟨⟨a,fun i hi=>b i om_⟩,b k om_⟩
theorem gap_first{D:List Sp}(hD:OkC D)(hS: ∀i j,i<j→j<D.length→(gs D i).1≤(gs D j).1)(k:Nat)(hk:k<D.length)(hf: ∀i,i<k→(gs D i).1≠(gs D k).1):
 wdt D (gs D k).1 D.length=21600000-((gs D k).1-(fS D k).2.2):=by
 have hlt: ∀i,i<k→(gs D i).1<(gs D k).1:=fun i hi=>by have:=hS i k hi hk;have:=hf i hi;omega
 have hd:=fun i (hi:i<D.length)=>hD _ (gs_mem hi);generalize hx:(gs D k).1=x at*;have h0:0<D.length:=by omega
 refine Int.le_antisymm ?_ ?_
 · refine(wdt_le D x _ D.length (Nat.le_refl _)).2 ?_
   have hr:=(fS_le D h0 (fS D k).2.2 k om_).1 (Int.le_refl _);have hk2:=hd k hk;have hk3:=hr.1 k hk;refine⟨om_,fun i hi=>?_⟩;have hi2:=hd i hi;by_cases h:i<k
   · have:=hlt i h
     have:=hr.2 i h;rw[show((gs D i).1-x)%21600000=(gs D i).1-x+21600000 by omega];omega
   · have hge:x≤(gs D i).1:=by
      by_cases e:i=k
      · rw[e,hx];exact Int.le_refl _
      · have:=hS k i om_ hi;omega
     have:=hr.1 i hi;rw[show((gs D i).1-x)%21600000=(gs D i).1-x by omega];omega
 · have hw:=(wdt_le D x (wdt D x D.length) D.length (Nat.le_refl _)).1 (Int.le_refl _)
   generalize wdt D x D.length=w at*;have:(fS D k).2.2≤w+x-21600000:=by
    refine(fS_le D h0 _ k om_).2 ⟨fun i hi=>?_,fun i hi=>?_⟩
    · have h1:=hw.2 i hi
      have hi2:=hd i hi;have hk2:=hd k hk;by_cases h:(gs D i).1<x
      · rw[show((gs D i).1-x)%21600000=(gs D i).1-x+21600000 by omega] at h1
        omega
      · rw[show((gs D i).1-x)%21600000=(gs D i).1-x by omega] at h1
        omega
    · have h1:=hw.2 i om_
      have:=hlt i hi;have hi2:=hd i om_;have hk2:=hd k hk;rw[show((gs D i).1-x)%21600000=(gs D i).1-x+21600000 by omega] at h1;omega
   omega
theorem gap_later{D:List Sp}(hD:OkC D)(k i:Nat)(hk:k<D.length)(hi:i<k)(he:(gs D i).1=(gs D k).1):(gs D k).1-(fS D k).2.2≤0:=by
 have:=((fS_le D om_ (fS D k).2.2 k om_).1 (Int.le_refl _)).2 i hi;have:=hD _ (gs_mem (show i<D.length by omega));omega
theorem fS_bst{D:List Sp}(hD:OkC D)(hS: ∀i j,i<j→j<D.length→(gs D i).1≤(gs D j).1)(k:Nat)(hk:k≤D.length):
 Bst (Beg D k) (fun x=>wdt D x D.length) (fS D k).1∧(fS D k).2.1=21600000-((fS D k).1.2-(fS D k).1.1)∧0≤(fS D k).2.1:=by
 induction k with
 |zero=>exact⟨.inl ⟨fun x ⟨i,hi,_⟩=>absurd hi (Nat.not_lt_zero _),by simp[fS]⟩,by simp[fS],by simp[fS]⟩
 |succ k ih=>
  replace ih:=ih om_
  obtain⟨ih,hb,hp⟩:=ih;have hsort: ∀y,Beg D k y→y≤(gs D k).1:=fun y ⟨i,hi,e⟩=>by rw[←e];exact hS i k hi om_
  have key:(∃i,i<k∧(gs D i).1=(gs D k).1)∨wdt D (gs D k).1 D.length=21600000-((gs D k).1-(fS D k).2.2):=by
   by_cases h: ∃i,i<k∧(gs D i).1=(gs D k).1
   · exact .inl h
   · exact .inr (gap_first hD hS k om_ (fun i hi e=>h ⟨i,hi,e⟩))
  have later:=fun i hi he=>gap_later hD k i om_ hi he;rw[fS_succ D k om_];unfold fS1;obtain⟨⟨s,b,r⟩,hs⟩: ∃t,t=fS D k:=⟨_,rfl⟩;rw[←hs] at ih hb hp key later⊢;simp only[] at ih hb hp key later⊢;generalize hx:(gs D k).1=x at*;have hB: ∀y,Beg D (k+1) y↔Beg D k y∨y=x:=by
   intro y;constructor
   · rintro⟨i,hi,e⟩
     by_cases h:i=k
     · subst h;exact .inr (by rw[←e,hx])
     · exact .inl ⟨i,om_,e⟩
   · rintro(⟨i,hi,e⟩|e)
     · exact⟨i,om_,e⟩
     · exact⟨k,om_,by rw[hx,e]⟩
  rcases key with ⟨i,hi,he⟩|key
  · have:=later i hi he
    rw[if_neg om_];simp only[];refine⟨bst_iff (fun y=>?_) ih,hb,hp⟩;rw[hB];exact⟨.inl,fun h=>h.elim id (fun h=>⟨i,hi,by rw[h];exact he⟩)⟩
  · simp only[Bst,hB] at ih⊢
    generalize hW:(fun x=>wdt D x D.length)=W at*;have hWy: ∀y,wdt D y D.length=W y:=by intro y;rw[←hW]
    simp only[hWy] at ih key⊢;by_cases hc:b<x-r
    · rw[if_pos hc]
      simp only[];refine⟨.inr ?_,om_,om_⟩;rcases ih with ⟨h1,h2⟩|⟨h1,h2,h3,h4⟩
      · refine⟨.inr trivial,om_,om_,?_⟩
        rintro y (hy|rfl)
        · have:=h1 y hy;omega
        · omega
      · refine⟨.inr trivial,om_,om_,?_⟩
        rintro y (hy|rfl)
        · have:=h4 y hy;omega
        · omega
    · rw[if_neg hc]
      simp only[];refine⟨?_,hb,hp⟩;rcases ih with ⟨h1,h2⟩|⟨h1,h2,h3,h4⟩
      · have e1:s.1= -10800000:=by rw[h2]
        have e2:s.2=10800000:=by rw[h2]
        refine .inl ⟨?_,h2⟩;rintro y (hy|rfl)
        · exact h1 y hy
        · omega
      · refine .inr ⟨.inl h1,h2,h3,?_⟩
        rintro y (hy|rfl)
        · exact h4 y hy
        · have:=hsort _ h1
          omega
theorem fS_rarn{D D':List Sp}(hD:OkC D)(hp:D'.Perm D)(hS: ∀i j,i<j→j<D'.length→(gs D' i).1≤(gs D' j).1):(fS D' D'.length).1=rarn D:=by
 have hD':OkC D':=fun x hx=>hD x (hp.mem_iff.1 hx);have h1:=(fS_bst hD' hS D'.length (Nat.le_refl _)).1;have h2:=rarn_bst hD D.length (Nat.le_refl _);have e:(fun x=>wdt D' x D'.length)=(fun x=>wdt D x D.length):=funext fun x=>wdt_perm hp x;rw[e] at h1;refine bst_one (bst_iff (fun x=>?_) h1) h2;constructor
 · rintro⟨i,hi,e⟩
   obtain⟨j,hj,e'⟩:=mem_gs (hp.mem_iff.1 (gs_mem hi));exact⟨j,hj,by rw[e',e]⟩
 · rintro⟨i,hi,e⟩
   obtain⟨j,hj,e'⟩:=mem_gs (hp.mem_iff.2 (gs_mem hi));exact⟨j,hj,by rw[e',e]⟩
def lons(D:List Bx):List Sp:=D.map fun q=>q.2.2
theorem okC_bx{L:List Cl}(hv: ∀x∈L,Vl x):OkC (lons (L.map bxI)):=by
 intro a ha;simp only[lons,List.mem_map] at ha;obtain⟨q,⟨x,hx,rfl⟩,rfl⟩:=ha;obtain⟨h1,h2,h3,h4,h5,h6,h7,h8⟩:=box_nums (hv x hx);simp only[bxI];omega
theorem okA_of{D:List Sp}(h:OkC D):OkA D:=fun x hx=>by have:=h x hx;omega
theorem okR_of{D:List Sp}(h:OkC D):OkR D:=fun x hx=>by have:=h x hx;omega
def latF(D:List Bx)(k:Nat):Int×Int:=(D.take k).foldl (fun s q=>(min s.1 q.1,max s.2 q.2.1)) ((gb D 0).1,(gb D 0).2.1)
theorem latF_succ(D:List Bx)(k:Nat)(hk:k<D.length):latF D (k+1)=(min (latF D k).1 (gb D k).1,max (latF D k).2 (gb D k).2.1):=by
 unfold latF;rw[List.take_succ_eq_append_getElem hk,List.foldl_append];simp[gb,hk]
theorem latF_zero(D:List Bx):latF D 0=((gb D 0).1,(gb D 0).2.1):=by simp[latF]
theorem lons_take(D:List Bx)(k:Nat)(hk:k<D.length):spvs ((lons D).take (k+1))=spvs ((lons D).take k)++[vi vk (gb D k).2.2.1,vi vk (gb D k).2.2.2]:=by
 have hk':k<(lons D).length:=by simpa [lons] using hk
 rw[List.take_succ_eq_append_getElem hk'];simp[spvs,spv,lons,gb,hk]
theorem fbounds_any(A:Option Addr)(n c:Nat)(D:List Bx)(w:World)(hr:Reads w w.heap.size 4 A n (bvs D))(h0:0<n)(hn:n≤4000)(hC:OkC (lons D)):
 Calls Tryz.prog 51 #[.slice A n c] w fun e w'=>e=.returned (.agg #[vi vk (latF D n).1,vi vk (latF D n).2,vi vk (rarn (lons D)).1,vi vk (rarn (lons D)).2])∧Below w.heap.size w w':=by
 have hl:D.length=n:=by have:=hr.1;rw[bvs_length] at this;omega
 have HL:=hid hl;have HC:=hid hC;obtain⟨b,off,rfl,hb,x0,x1,x2,x3⟩:=BReads.elem hr h0;have X:Hid (∀W,Below w.heap.size w W→ ∀k,k<n→W.cell? ⟨b,off+k*4,none⟩=some (vi vk (gb D k).1)∧W.cell? ⟨b,off+k*4+1,none⟩=some (vi vk (gb D k).2.1)∧W.cell? ⟨b,off+k*4+2,none⟩=some (vi vk (gb D k).2.2.1)∧W.cell? ⟨b,off+k*4+3,none⟩=some (vi vk (gb D k).2.2.2)):=hid (fun W hW k hk=>by
  obtain⟨b',off',e,hb',y0,y1,y2,y3⟩:=BReads.elem hr hk;cases e
  exact⟨(hW.cell (p:=⟨b,off+k*4,none⟩) hb).trans y0,(hW.cell (p:=⟨b,off+k*4+1,none⟩) hb).trans y1,(hW.cell (p:=⟨b,off+k*4+2,none⟩) hb).trans y2,(hW.cell (p:=⟨b,off+k*4+3,none⟩) hb).trans y3⟩)
 have z0:=latF_zero D;obtain⟨⟨l0,l1⟩,hl0⟩: ∃s,s=latF D 0:=⟨_,rfl⟩;rw[←hl0] at z0;obtain⟨z0,z1⟩:=Prod.mk.inj z0;have HL0:=hid hl0;clear hl0;have y0:=(X.out _ (Below.refl _ _) 0 h0).1;have y1:=(X.out _ (Below.refl _ _) 0 h0).2.1;simp only[Nat.zero_mul,Nat.add_zero] at y0 y1;rw[←z0] at y0;rw[←z1] at y1;clear x0 x1 x2 x3 z0 z1 hr hC hl;obtain⟨iA,hiA,hzA,hz1A,hzbA⟩: ∃i0,Tryz.prog.info? 33=some i0∧i0.zero=some (.agg #[vi vk 0,vi vk 0])∧i0.size=2∧i0.bytes=16:=by
  have h:(Tryz.prog.info? 33).map (fun i=>(i.zero,i.size,i.bytes))=some (some (.agg #[vi vk 0,vi vk 0]),2,16):=by kernel_rfl
  obtain⟨i0,a,b,c,d⟩:=info_parts h;exact⟨i0,a,b,c,d⟩
 have Z0:=hid ((K4.new w 0 0 0 0 46).alloc (.cells #[vi vk l0,vi vk l1,vi vk 0,vi vk 0] 46));have p0:=K4.new (w.alloc (.cells #[vi vk 0,vi vk 0,vi vk 0,vi vk 0] 46)) l0 l1 0 0 46;rw[World.size_alloc] at p0;have P0:=hid p0;clear p0;have B0:=hid ((bl_alloc w (.cells #[vi vk 0,vi vk 0,vi vk 0,vi vk 0] 46)).alloc (by simp) (.cells #[vi vk l0,vi vk l1,vi vk 0,vi vk 0] 46));go_enter func51,ntmps51;go_wp2;clear y0 y1;go_loopw [4,14] (fun s4 i wr=> ∃k:Nat,k≤n∧i=vi vk k∧wr.ownsRow (w.heap.size+2) 33 2 s4 k (spvs ((lons D).take k))∧K4 wr w.heap.size 0 0 0 0∧K4 wr (w.heap.size+1) (latF D k).1 (latF D k).2 0 0∧Below w.heap.size w wr) (fun _ i _=>n-(intOf i).toNat)
 case atStart=>exact⟨0,Nat.zero_le _,rfl,own_nil _ _ _ _,Z0.out,by rw[←HL0.out];exact P0.out,B0.out⟩
 case round=>
  obtain⟨k,hk,rfl,hown,hZ,hP,hbl⟩:=hrel;clear Z0 P0 B0;have HOW:=hid hown;have HZ:=hid hZ;have HP:=hid hP;have HB:=hid hbl;clear hown hZ hP hbl;by_cases hlt:k<n
  · obtain⟨y0,y1,y2,y3⟩:=X.out wr HB.out k hlt
    have hLS:=hid (latF_succ D k (by rw[HL.out];exact hlt));have hTK:=hid (lons_take D k (by rw[HL.out];exact hlt));generalize gb D k=q at*;generalize latF D k=s at*;obtain⟨q0,q1,q2,q3⟩:=q;obtain⟨s0,s1⟩:=s;simp only[] at y0 y1 y2 y3 hLS hTK HP;have PW:=hid (HP.out.alloc (.cells #[vi vk q0,vi vk q1,vi vk q2,vi vk q3] 46));have ZW:=hid (HZ.out.alloc (.cells #[vi vk q0,vi vk q1,vi vk q2,vi vk q3] 46));have OW:=hid (HOW.out.alloc (.cells #[vi vk q0,vi vk q1,vi vk q2,vi vk q3] 46));have hzw:=HB.out.size;have BW:=hid (HB.out.alloc hzw (.cells #[vi vk q0,vi vk q1,vi vk q2,vi vk q3] 46));have NW:=hid (K4.new wr q0 q1 q2 q3 46);have hlp:=HP.out.lt;go_upto_region 6 with (fail)
    clear y0 y1 y2 y3;obtain⟨WA,hWA⟩: ∃WA,wr.alloc (.cells #[vi vk q0,vi vk q1,vi vk q2,vi vk q3] 46)=WA:=⟨_,rfl⟩;rw[hWA] at PW ZW OW BW NW⊢;have hzA:WA.heap.size=wr.heap.size+1:=by rw[←hWA];simp
    clear hWA HOW HZ HP HB;have HZA:=hid hzA;generalize wr.heap.size=ga at*;clear hzA;have hn1: ¬ga=w.heap.size+1:=by omega
    have hn2: ¬w.heap.size+1=ga:=by omega
    obtain⟨pt2,p0,p1,p2,p3,pf0,pf1,-,-⟩:=PW.out;obtain⟨nt2,a0,a1,a2,a3,-,-,-,-⟩:=NW.out;go_region
    clear p0 p1 p2 p3 pf0 pf1 a0 a1 a2 a3 pt2 nt2;have PX:=hid ((PW.out.two (min s0 q0) (max s1 q1)).below (bl_drew (Below.refl _ _)) (by simpa using PW.out.lt));have ZX:=hid (((ZW.out.farB (p:=⟨w.heap.size+1,0,none⟩) so_ (vi vk (min s0 q0))).farB (p:=⟨w.heap.size+1,1,none⟩) so_ (vi vk (max s1 q1))).below (bl_drew (Below.refl _ _)) (by simpa using ZW.out.lt));have NX:=hid (((NW.out.farB (p:=⟨w.heap.size+1,0,none⟩) hn1 (vi vk (min s0 q0))).farB (p:=⟨w.heap.size+1,1,none⟩) hn1 (vi vk (max s1 q1))).below (bl_drew (Below.refl _ _)) (by simpa using NW.out.lt));have BX:=hid (bl_drew ((BW.out.setCell (p:=⟨w.heap.size+1,0,none⟩) (by simp) (vi vk (min s0 q0))).setCell (p:=⟨w.heap.size+1,1,none⟩) (by simp) (vi vk (max s1 q1))));have hzX:(((WA.setCell ⟨w.heap.size+1,0,none⟩ (vi vk (min s0 q0))).setCell ⟨w.heap.size+1,1,none⟩ (vi vk (max s1 q1))).drew).heap.size=ga+1:=by simp;exact HZA.out
    have HZX:=hid hzX;have OX:=hid (own_grown' OW.out (grown_bl (grown_set2 (o:=1) (v:=vi vk (max s1 q1)) (grown_set2 (o:=0) (v:=vi vk (min s0 q0)) (World.grownBy.refl WA (some (w.heap.size+1))))) (bl_drew (Below.refl WA.heap.size _)) (Nat.le_refl _)) (fun q hq e=>by have:=own_base OW.out q hq;cases e;omega));clear hzX HZA PW ZW NW BW OW;generalize ((WA.setCell ⟨w.heap.size+1,0,none⟩ (vi vk (min s0 q0))).setCell ⟨w.heap.size+1,1,none⟩ (vi vk (max s1 q1))).drew=WX at*;obtain⟨nt2,a0,a1,a2,a3,-,-,-,-⟩:=NX.out;go_wp2_with (at_builtin;first
     |(refine wpList_append_any _ rfl (.tmp 36) (.tmp 39) _ rfl (w.heap.size+2) 33 iA _ 2 16 underlying102 hiA hzA hz1A hzbA rfl dc_ _ k (spvs ((lons D).take k)) rfl (OX.out.alloc _) (WX.heap.size+1) (some ⟨WX.heap.size,0,none⟩) 1 1 [vi vk q2,vi vk q3] rfl ⟨rfl,fun _=>⟨_,rfl,by simp,arc_cells WX (q2,q3) _⟩⟩ (by simp[Value.oneCell']) (by simp only[maxLen];omega) om_ (by have:=HZX.out;simp;omega) ?_;intro v7 w7 hown7 hg7 hat7)
     |fail)
    have hzz:=HZX.out;have b7:=((bl_alloc WX (.cells #[vi vk q2,vi vk q3] 33)).mono (show w.heap.size+2≤WX.heap.size by omega)).grown hg7 (by simp;omega) (own_base OX.out);go_roundw
    case rel=>exact⟨k+1,om_,by go_num,by rw[hTK.out];exact hown7,ZX.out.below b7 om_,by rw[hLS.out];exact PX.out.below b7 om_,BX.out.trans (b7.mono om_)⟩
    case measure=>simp[intOf];omega
  · obtain rfl:k=n:=by omega
    have hll:(lons D).length=k:=by rw[show(lons D).length=D.length from List.length_map _,HL.out]
    rw[List.take_of_length_le om_] at HOW;obtain⟨g,cap,hv,hg,hgl⟩:=own_some HOW.out h0;subst hv;have HS:Hid (∀j,j<(lons D).length→wr.cell? ⟨g,0+j*2,none⟩=some (vi vk (gs (lons D) j).1)∧wr.cell? ⟨g,0+j*2+1,none⟩=some (vi vk (gs (lons D) j).2)):=hid (fun j hj=>by
     have hr:=Reads.of_own HOW.out;obtain⟨b',off',e,-,z0,z1⟩:=SReads.elem (D:=lons D) hr (k:=j) om_;cases e
     exact⟨z0,z1⟩)
    have KA:=hid ((fAround_any g 0 k cap (lons D) wr hgl HS.out hll om_ h0 (okA_of HC.out)).mono (R':=fun e w'=>e=.returned (.agg #[vi vk (rarn (lons D)).1,vi vk (rarn (lons D)).2])∧Below wr.heap.size wr w') fun e w' ⟨D',hp,hso,he,hb⟩=>by
     have:=fS_rarn HC.out hp hso;rw[hp.length_eq,hll] at this;rw[this] at he;exact⟨he,hb⟩)
    obtain⟨⟨r0,r1⟩,hr⟩: ∃r,rarn (lons D)=r:=⟨_,rfl⟩;obtain⟨⟨s0,s1⟩,hs⟩: ∃s,latF D k=s:=⟨_,rfl⟩;rw[hr] at KA;rw[hs] at HP;simp only[] at KA HP;have HRS:=hid (And.intro hr hs);clear hr hs;clear HS;go_wp2_with fail;(with_reducible refine KA.out.mono ?_)
    rintro e w4 ⟨rfl,hb4⟩
    have P4:=hid (HP.out.below hb4 HP.out.lt);have Z4:=hid (HZ.out.below hb4 HZ.out.lt);have B4:=hid (HB.out.trans (hb4.mono HB.out.size));clear KA HP HZ HB HOW hb4;obtain⟨pt,p0,p1,p2,p3,pf0,pf1,pf2,pf3⟩:=P4.out;have hn1: ¬w.heap.size=w.heap.size+1:=by omega
    have hn2: ¬w.heap.size+1=w.heap.size:=by omega
    obtain⟨zt,z0,z1,z2,z3,zf0,zf1,zf2,zf3⟩:=Z4.out;go_wp2;refine bodyPost_ret (v:=.agg #[vi vk s0,vi vk s1,vi vk r0,vi vk r1]) (by simp[results,results51,go_sem, *];done) rfl ⟨by rw[HRS.out.1,HRS.out.2],?_⟩;exact bl_put4 ((B4.out.setCell (by simp) _).setCell (by simp) _) (Nat.le_refl _)
namespace Trig
theorem upF_le{q:Int}(h0:0≤q)(h1:q≤5400000):upF q≤1073741824:=by
 unfold upF;split
 · exact(sF_bd h0 h1).2
 · rename_i hx
   have hq:qrt q=q:=by unfold qrt;omega
   have hr:rEx q=false:=by rw[ex_same,hq];simpa using hx
   obtain⟨hf,hv,-⟩:=quick_far q hr;have hs:sth q=false:=by unfold sth;rw[decide_eq_false_iff_not];omega
   have hl:loB q=sF q:=by unfold loB;rw[hs,hq];simp
   have hrq: ¬rq q≥2:=by unfold rq;omega
   have hqv:qv q=(quickN (rr q).toNat (rc q):Int):=by unfold qv;rw[if_neg hrq]
   have hrr:(rr q).toNat≤2700000:=by unfold rr;omega
   have hle:=quickN_le hrr (rc q);rw[hl,hqv] at hv;generalize quickN (rr q).toNat (rc q)=Q at*;have hne:Q≠4611686018427387904:=by
    intro e;rw[e] at hf;revert hf;decide
   omega
theorem hi_le(n:Int): -1073741824≤loB n∧loB n≤1073741824∧ -1073741824≤hiB n∧hiB n≤1073741824∧loB n≤hiB n:=by
 have hq:=qrt_bd n;have hs:=sF_bd hq.1 hq.2;have hu:=upF_le hq.1 hq.2;have hw:sF (qrt n)≤upF (qrt n):=by unfold upF;split<;>omega
 unfold loB hiB;split<;>omega
end Trig
namespace Trig
theorem up_lin{h C X:Rat}(h0:1/2^22≤h)(h1:h≤1/10000)(c0:1/2≤C)(c1:C≤1)(x0:0≤X)(x1:X≤1):
 h*h/2*X+h*h*h/6*C+(h*h*h*h*(3/5)+1/2^65/2)≤h*C:=by
 have hp:0≤h:=by grind
 have a2:0≤h*h:=Rat.mul_nonneg hp hp;have a3:0≤h*h*h:=Rat.mul_nonneg a2 hp;have b2:h*h≤h*(1/10000):=Rat.mul_le_mul_of_nonneg_left h1 hp;have b3:h*h*h≤h*h*(1/10000):=Rat.mul_le_mul_of_nonneg_left h1 a2;have b4:h*h*h*h≤h*h*h*(1/10000):=Rat.mul_le_mul_of_nonneg_left h1 a3;have d1:h*(1/2)≤h*C:=Rat.mul_le_mul_of_nonneg_left c0 hp;have d2:h*h*X≤h*h*1:=Rat.mul_le_mul_of_nonneg_left x1 a2;have d3:h*h*h*C≤h*h*h*1:=Rat.mul_le_mul_of_nonneg_left c1 a3;have e1:(1:Rat)/2^65/2≤1/2^22/10000:=by decide+kernel
 have e2:h*h/2*X=h*h*X/2:=by grind
 have e3:h*h*h/6*C=h*h*h*C/6:=by grind
 rw[e2,e3];generalize (1:Rat)/2^65/2=z at*;generalize (1:Rat)/2^22=y at*;generalize h*h*h*h=h4 at*;generalize h*h*h*C=q3 at*;generalize h*h*X=q2 at*;generalize h*h*h=h3 at*;generalize h*h=h2 at*;generalize h*C=q1 at*;grind_linarith
theorem down_lin{h C X:Rat}(h0:1/2^22≤h)(h1:h≤1/10000)(c0:1/2≤C)(x0:0≤X):
 h*h*h/6*X+(h*h*h*h*(3/5)+1/2^65/2)≤h*X+h*h/2*C:=by
 have hp:0≤h:=by grind
 have a2:0≤h*h:=Rat.mul_nonneg hp hp;have a3:0≤h*h*h:=Rat.mul_nonneg a2 hp;have aX:0≤h*X:=Rat.mul_nonneg hp x0;have b2:h*h≤h*(1/10000):=Rat.mul_le_mul_of_nonneg_left h1 hp;have b3:h*h*h≤h*h*(1/10000):=Rat.mul_le_mul_of_nonneg_left h1 a2;have b4:h*h*h*h≤h*h*h*(1/10000):=Rat.mul_le_mul_of_nonneg_left h1 a3;have s2:h*h≤1:=by grind
 have d1:h*X*(h*h)≤h*X*1:=Rat.mul_le_mul_of_nonneg_left s2 aX;have d2:h*h*(1/2)≤h*h*C:=Rat.mul_le_mul_of_nonneg_left c0 a2;have g1:h*(1/2^22)≤h*h:=Rat.mul_le_mul_of_nonneg_left h0 hp;have g2:(1:Rat)/2^22*(1/2^22)≤h*(1/2^22):=Rat.mul_le_mul_of_nonneg_right h0 (by decide+kernel);have e1:(1:Rat)/2^65/2≤1/2^22*(1/2^22)/10000:=by decide+kernel
 have e2:h*h/2*C=h*h*C/2:=by grind
 have e3:h*h*h/6*X=h*X*(h*h)/6:=by grind
 rw[e2,e3];generalize (1:Rat)/2^65/2=z at*;generalize (1:Rat)/2^22*(1/2^22)=y2 at*;generalize h*(1/2^22)=hy at*;generalize h*X*(h*h)=q3 at*;generalize h*h*h*h=h4 at*;generalize h*h*C=q2 at*;generalize h*h*h=h3 at*;generalize h*h=h2 at*;generalize h*X=q1 at*;grind_linarith
theorem th_mid:(1:Rat)/2^22≤th∧th≤1/10000∧th≤1/5:=by decide+kernel
theorem sc_bd{x:Rat}(hx:0≤x)(hx1:x≤4/5):0≤sinP x∧sinP x≤1∧1/2≤cosP x∧cosP x≤1:=by
 have h1:x≤1:=by grind
 have a:=alt_bd hx h1 35 1;have b:=alt_bd hx h1 35 0;have m0:mo x 0=1:=by simp[mo]
 have m1:=mo_le1 hx h1 1;have c:=alt_mis x 34 0;have d:=mis_bd hx hx1 34 0;rw[←sin_alt] at a;rw[←cos_alt] at b;rw[show 34+1=35 from rfl,←cos_alt,m0] at c;rw[m0] at b;refine⟨a.1,by grind,by grind,b.2⟩
theorem sin_up{x:Rat}(hx:0≤x)(hx1:x≤4/5):sinP x≤sinP (x+th):=by
 obtain⟨t0,t1,t2⟩:=th_mid;obtain⟨s0,s1,k0,k1⟩:=sc_bd hx hx1;have h:=sin_shift (x:=x) (h:=th) hx (by grind) (by grind) t1;have g:=up_lin t0 t1 k0 k1 s0 s1;obtain⟨-,h⟩:=h;generalize th*th*th*th*(3/5)+1/2^65/2=e at*;generalize th*th*th/6*cosP x=q3 at*;generalize th*th/2*sinP x=q2 at*;generalize th*cosP x=q1 at*;grind_linarith
theorem cos_down{x:Rat}(hx:0≤x)(hx1:x≤4/5):cosP (x+th)≤cosP x:=by
 obtain⟨t0,t1,t2⟩:=th_mid;obtain⟨s0,s1,k0,k1⟩:=sc_bd hx hx1;have h:=cos_shift (x:=x) (h:=th) hx (by grind) (by grind) t1;have g:=down_lin t0 t1 k0 s0;obtain⟨h,-⟩:=h;generalize th*th*th*th*(3/5)+1/2^65/2=e at*;generalize th*th*th/6*sinP x=q3 at*;generalize th*th/2*cosP x=q2 at*;generalize th*sinP x=q1 at*;grind_linarith
theorem floor_le{a b:Nat}{P Q:Rat}(ha:Nr (a:Rat) (P*Y) 75)(hb:Nr (b:Rat) (Q*Y) 75)(h:P≤Q)(hf:farB b=true):a/4294967296≤b/4294967296:=by
 have h1:(a:Rat)≤((b+150:Nat):Rat):=by
  have hy:P*Y≤Q*Y:=Rat.mul_le_mul_of_nonneg_right h (by unfold Y;decide+kernel);obtain⟨a1,a2⟩:=ha;obtain⟨b1,b2⟩:=hb;push_cast
  grind_linarith
 have h2:a≤b+150:=by exact_mod_cast h1
 unfold farB at hf;rw[Bool.and_eq_true,Nat.ble_eq,Nat.ble_eq] at hf;omega
theorem floor_ge{a b:Nat}{P Q:Rat}(ha:Nr (a:Rat) (P*Y) 75)(hb:Nr (b:Rat) (Q*Y) 75)(h:P≤Q)(hf:farB a=true):a/4294967296≤b/4294967296:=by
 have h1:(a:Rat)≤((b+150:Nat):Rat):=by
  have hy:P*Y≤Q*Y:=Rat.mul_le_mul_of_nonneg_right h (by unfold Y;decide+kernel);obtain⟨a1,a2⟩:=ha;obtain⟨b1,b2⟩:=hb;push_cast
  grind_linarith
 have h2:a≤b+150:=by exact_mod_cast h1
 unfold farB at hf;rw[Bool.and_eq_true,Nat.ble_eq,Nat.ble_eq] at hf;omega
theorem ang_succ(r:Nat):((r+1:Nat):Rat)*th=(r:Rat)*th+th:=by push_cast;grind
theorem quick_up{r:Nat}(h0:1≤r)(h:r+1≤2700000)(h1:r≠1800000)(h2:r+1≠1800000):quickN r false/4294967296≤quickN (r+1) false/4294967296:=by
 obtain⟨x0,x1⟩:=ang_bd (r:=r) om_;have hq:=quick_sin (r:=r+1) h;rw[ang_succ] at hq;exact floor_le (quick_sin (r:=r) om_) hq (sin_up x0 x1) ((far_all (r:=r+1) om_ h).2 h2)
theorem quick_down{r:Nat}(h0:1≤r)(h:r+1≤2700000):quickN (r+1) true/4294967296≤quickN r true/4294967296:=by
 obtain⟨x0,x1⟩:=ang_bd (r:=r) om_;have hq:=quick_cos (r:=r+1) h;rw[ang_succ] at hq;exact floor_ge hq (quick_cos (r:=r) om_) (cos_down x0 x1) ((far_all (r:=r+1) om_ h).1)
theorem near_30:quickN 1799999 false/4294967296+1≤536870912∧536870912≤quickN 1800001 false/4294967296:=by decide+kernel
theorem sF_step{q:Int}(h0:0≤q)(h1:q+1≤5400000):sF q≤sF (q+1)∧(exN (q+1)=true→exN q=false→sF q+1≤sF (q+1)):=by
 have b0:=sF_bd (q:=q) h0 om_;have b1:=sF_bd (q:=q+1) om_ h1;by_cases c0:q=0
 · subst c0
   refine⟨by have:sF 0=0:=by decide
             omega,fun _ h=>?_⟩
   simp[exN] at h
 by_cases c1:q+1=1800000
 · have e1:sF (q+1)=536870912:=by rw[c1];decide
   have e0:sF q=((quickN 1799999 false/4294967296:Nat):Int):=by
    have:q=1799999:=by omega
    subst this;unfold sF;simp
   have:=near_30.1;omega
 by_cases c2:q=1800000
 · subst c2
   have e1:sF 1800000=536870912:=by decide
   have e0:sF (1800000+1)=((quickN 1800001 false/4294967296:Nat):Int):=by
    unfold sF;simp
   have:=near_30.2;refine⟨om_,fun _ h=>?_⟩;simp[exN] at h
 by_cases c3:q+1=5400000
 · have e1:sF (q+1)=1073741824:=by rw[c3];decide
   have hx:exN q=false:=by
    unfold exN;simp only[Bool.or_eq_false_iff,decide_eq_false_iff_not];omega
   have:=upF_le (q:=q) h0 om_;unfold upF at this;rw[hx] at this;simp at this;omega
 have hx:exN (q+1)=false:=by
  unfold exN;simp only[Bool.or_eq_false_iff,decide_eq_false_iff_not];omega
 refine⟨?_,fun h=>by rw[hx] at h;simp at h⟩;clear b0 b1;unfold sF;rw[if_neg c0,if_neg c2,if_neg (by omega: ¬q=5400000),if_neg (by omega: ¬q+1=0),if_neg c1,if_neg c3];by_cases d:2*(q+1)≤5400000
 · rw[if_pos om_,if_pos d]
   have:=quick_up (r:=q.toNat) om_ om_ om_ om_;rw[show q.toNat+1=(q+1).toNat by omega] at this;omega
 · by_cases d2:2*q≤5400000
   · rw[if_pos d2,if_neg d]
     have hq:q=2700000:=by omega
     subst hq;have:=quick_down (r:=2699999) om_ om_;have e:=same45;rw[show 2699999+1=2700000 from rfl,e] at this;have e2:(5400000-(2700000+1):Int).toNat=2699999:=by decide
     have e3:(2700000:Int).toNat=2700000:=by decide
     rw[e2,e3];generalize quickN 2700000 false/4294967296=a at*;generalize quickN 2699999 true/4294967296=b at*;omega
   · rw[if_neg d2,if_neg d]
     have:=quick_down (r:=(5400000-(q+1)).toNat) om_ om_;rw[show(5400000-(q+1)).toNat+1=(5400000-q).toNat by omega] at this;omega
theorem upF_step{q:Int}(h0:0≤q)(h1:q+1≤5400000):upF q≤upF (q+1):=by
 obtain⟨a,b⟩:=sF_step h0 h1;unfold upF;cases e0:exN q<;>cases e1:exN (q+1)<;>simp only[Bool.false_eq_true,if_false,if_true]
 · omega
 · have:=b e1 e0
   omega
 · omega
 · exact a
theorem low_sF{n:Int}(h0:0≤n)(h1:n≤5400000):loB n=sF n:=by
 have e:sth n=false:=by unfold sth;rw[decide_eq_false_iff_not];omega
 have e2:qrt n=n:=by unfold qrt;omega
 unfold loB;rw[e,e2];simp
theorem low_upF{n:Int}(h0:0<n)(h1:n≤5400000):loB (-n)= -upF n:=by
 have e:sth (-n)=true:=by unfold sth;rw[decide_eq_true_iff];omega
 have e2:qrt (-n)=n:=by unfold qrt;omega
 unfold loB;rw[e,e2];simp
theorem loB_step{n:Int}(h0: -5400000≤n)(h1:n+1≤5400000):loB n≤loB (n+1):=by
 by_cases c:0≤n
 · rw[low_sF c om_,low_sF om_ h1]
   exact(sF_step c h1).1
 · by_cases c2:n= -1
   · subst c2
     have e:loB (-1)= -upF 1:=low_upF (n:=1) om_ om_;have e2:loB (-1+1)=0:=by decide
     have h:=(sF_bd (q:=1) om_ om_).1;have:sF 1≤upF 1:=by unfold upF;split<;>omega
     omega
   · have e1:loB n= -upF (-n):=by have:=low_upF (n:= -n) om_ om_;simpa using this
     have e2:loB (n+1)= -upF (-n-1):=by
      have:=low_upF (n:= -n-1) om_ om_;rw[show-(-n-1)=n+1 by omega] at this;exact this
     have:=upF_step (q:= -n-1) om_ om_;rw[show-n-1+1= -n by omega] at this;omega
theorem loB_mono{a b:Int}(h0: -5400000≤a)(h:a≤b)(h1:b≤5400000):loB a≤loB b:=by
 have key: ∀k:Nat,a+k≤5400000→loB a≤loB (a+k):=by
  intro k;induction k with
  |zero=>intro _;simp
  |succ k ih=>
   intro hk;have h2:=ih om_;have h3:=loB_step (n:=a+k) om_ (by push_cast at hk;omega);rw[show a+k+1=a+((k+1:Nat):Int) by push_cast;omega] at h3;omega
 have:=key (b-a).toNat om_;rw[show a+((b-a).toNat:Int)=b by omega] at this;exact this
theorem loB_poles:loB (-5400000)= -1073741824∧loB 5400000=1073741824:=by decide+kernel
theorem hiB_lo(n:Int):loB n≤hiB n∧hiB n≤loB n+1:=by
 unfold loB hiB upF;split<;>split<;>omega
end Trig
namespace Trig
structure Small(x:Int×Int):Prop where
 lo: -1073741824≤x.1
 le:x.1≤x.2
 hi:x.2≤1073741824
def snP(a:Int×Int):Int×Int:=(enLo a.1 a.2,enHi a.1 a.2)
def csP(a:Int×Int):Int×Int:=(enLo (a.1+5400000) (a.2+5400000),enHi (a.1+5400000) (a.2+5400000))
def mulP(x y:Int×Int):Int×Int:=(min (x.1*y.1) (min (x.1*y.2) (min (x.2*y.1) (x.2*y.2)))/1073741824,-(-(max (x.1*y.1) (max (x.1*y.2) (max (x.2*y.1) (x.2*y.2))))/1073741824))
def addP(x y:Int×Int):Int×Int:=(x.1+y.1,x.2+y.2)
theorem en_small(lo hi:Int):Small (enLo lo hi,enHi lo hi):=by
 have h1:=hi_le lo;have h2:=hi_le hi;constructor
 · show-1073741824≤enLo lo hi
   unfold enLo;split<;>omega
 · show enLo lo hi≤enHi lo hi
   unfold enLo enHi;split<;>split<;>omega
 · show enHi lo hi≤1073741824
   unfold enHi;split<;>omega
theorem snP_small(a:Int×Int):Small (snP a):=en_small _ _
theorem csP_small(a:Int×Int):Small (csP a):=en_small _ _
theorem mul_bd{a b:Int}(h0: -1073741824≤a)(h1:a≤1073741824)(g0: -1073741824≤b)(g1:b≤1073741824): -1152921504606846976≤a*b∧a*b≤1152921504606846976:=by
 have e1:(1073741824-a)*(1073741824+b)≥0:=Int.mul_nonneg om_ om_;have e2:(1073741824+a)*(1073741824-b)≥0:=Int.mul_nonneg om_ om_;have e3:(1073741824+a)*(1073741824+b)≥0:=Int.mul_nonneg om_ om_;have e4:(1073741824-a)*(1073741824-b)≥0:=Int.mul_nonneg om_ om_;have f1:(1073741824-a)*(1073741824+b)=1152921504606846976+1073741824*b-1073741824*a-a*b:=by grind
 have f2:(1073741824+a)*(1073741824-b)=1152921504606846976-1073741824*b+1073741824*a-a*b:=by grind
 have f3:(1073741824+a)*(1073741824+b)=1152921504606846976+1073741824*b+1073741824*a+a*b:=by grind
 have f4:(1073741824-a)*(1073741824-b)=1152921504606846976-1073741824*b-1073741824*a+a*b:=by grind
 omega
theorem mulP_small{x y:Int×Int}(hx:Small x)(hy:Small y):Small (mulP x y):=by
 have hx0:=hx.lo;have hx1:=hx.le;have hx2:=hx.hi;have hy0:=hy.lo;have hy1:=hy.le;have hy2:=hy.hi;have m1:=mul_bd (a:=x.1) (b:=y.1) om_ om_ om_ om_;have m2:=mul_bd (a:=x.1) (b:=y.2) om_ om_ om_ om_;have m3:=mul_bd (a:=x.2) (b:=y.1) om_ om_ om_ om_;have m4:=mul_bd (a:=x.2) (b:=y.2) om_ om_ om_ om_;unfold mulP;generalize x.1*y.1=p at*;generalize x.1*y.2=q at*;generalize x.2*y.1=r at*;generalize x.2*y.2=s at*;constructor
 · show-1073741824≤min p (min q (min r s))/1073741824
   omega
 · show min p (min q (min r s))/1073741824≤ -(-(max p (max q (max r s)))/1073741824)
   omega
 · show-(-(max p (max q (max r s)))/1073741824)≤1073741824
   omega
def sinT(lat dec lha:Int×Int):Int×Int:=addP (mulP (snP lat) (snP dec)) (mulP (mulP (csP lat) (csP dec)) (csP lha))
theorem sinT_fv(lat dec lha:Int×Int): -2147483648≤(sinT lat dec lha).1∧(sinT lat dec lha).1≤(sinT lat dec lha).2∧(sinT lat dec lha).2≤2147483648:=by
 have h1:=mulP_small (snP_small lat) (snP_small dec);have h2:=mulP_small (mulP_small (csP_small lat) (csP_small dec)) (csP_small lha);have a:=h1.lo;have b:=h1.le;have c:=h1.hi;have d:=h2.lo;have e:=h2.le;have f:=h2.hi;unfold sinT addP;simp only[];omega
end Trig
end Go.Proofs.YtdeiofgddhbdaaaGreatDoor
