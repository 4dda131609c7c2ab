/- A drawn region by an invariant: edges that bind only. -/
import Derived.Orders
import Derived.Test.YtdeiofgddhbdaaaGreatDoorHIB
set_option linter.unusedSimpArgs false
set_option linter.unusedVariables false
set_option maxHeartbeats 4000000
set_option maxRecDepth 100000
open Go.RowKit
namespace Go.Proofs.YtdeiofgddhbdaaaGreatDoor
namespace PQ
def mrg(c:Nat→Nat)(i k:Nat):Nat→Nat:=fun j=>if c j=max (c i) (c k) then min (c i) (c k) else c j
structure IsC(c:Nat→Nat):Prop where
 le: ∀j,c j≤j
 idem: ∀j,c (c j)=c j
theorem IsC.id:IsC (fun j=>j):=⟨fun _=>Nat.le_refl _,fun _=>rfl⟩
theorem IsC.mrg{c:Nat→Nat}(h:IsC c)(i k:Nat):IsC (mrg c i k):=by
 constructor
 · intro j;unfold PQ.mrg;split
   · rename_i e;have:=h.le j;omega
   · exact h.le j
 · intro j
   have hi:=h.idem i;have hk:=h.idem k;have hmin:c (min (c i) (c k))=min (c i) (c k):=by
    rcases Nat.le_total (c i) (c k) with g|g
    · rw[Nat.min_eq_left g,hi]
    · rw[Nat.min_eq_right g,hk]
   unfold PQ.mrg;by_cases e:c j=max (c i) (c k)
   · simp only[if_pos e,hmin]
     split<;>omega
   · simp only[if_neg e,h.idem]
theorem mrg_mono{c:Nat→Nat}{i k a b:Nat}(h:c a=c b):mrg c i k a=mrg c i k b:=by unfold mrg;rw[h]
theorem mrg_pair{c:Nat→Nat}(i k:Nat):mrg c i k i=mrg c i k k:=by unfold mrg;split<;>split<;>omega
def Cls(t:Nat→Nat→Bool)(n:Nat)(c:Nat→Nat):Prop:=
 ∀S:Nat→Prop,(∀x y,x<n→y<n→t x y=true→S x→S y)→ ∀a b,a<n→b<n→c a=c b→S a→S b
theorem Cls.id(t:Nat→Nat→Bool)(n:Nat):Cls t n (fun j=>j):=fun S _ a b _ _ e h=>by have e:a=b:=e;exact e▸h
theorem Cls.mrg{t:Nat→Nat→Bool}{n:Nat}{c:Nat→Nat}(h:Cls t n c){i k:Nat}(hi:i<n)(hk:k<n)(ht:t i k=true)(hs:t k i=true):Cls t n (mrg c i k):=by
 intro S hS a b ha hb e sa;have h1:=h S hS;have ik:S i→S k:=hS i k hi hk ht;have ki:S k→S i:=hS k i hk hi hs;unfold PQ.mrg at e;by_cases ea:c a=max (c i) (c k)<;>by_cases eb:c b=max (c i) (c k)
 · exact h1 a b ha hb om_ sa
 · rw[if_pos ea,if_neg eb] at e
   rcases Nat.le_total (c i) (c k) with g|g
   · exact h1 i b hi hb om_ (ki (h1 a k ha hk om_ sa))
   · exact h1 k b hk hb om_ (ik (h1 a i ha hi om_ sa))
 · rw[if_neg ea,if_pos eb] at e
   rcases Nat.le_total (c i) (c k) with g|g
   · exact h1 k b hk hb om_ (ik (h1 a i ha hi om_ sa))
   · exact h1 i b hi hb om_ (ki (h1 a k ha hk om_ sa))
 · rw[if_neg ea,if_neg eb] at e
   exact h1 a b ha hb e sa
def stp(t:Nat→Nat→Bool)(c:Nat→Nat)(i k:Nat):Nat→Nat:=if t i k=true then mrg c i k else c
def row(t:Nat→Nat→Bool)(c:Nat→Nat)(i:Nat):Nat→(Nat→Nat)
 |0=>c
 |k+1=>stp t (row t c i k) i k
def cl(t:Nat→Nat→Bool):Nat→(Nat→Nat)
 |0=>fun j=>j
 |i+1=>row t (cl t i) i i
theorem stp_ok{t:Nat→Nat→Bool}{n:Nat}(sym: ∀x y,x<n→y<n→t x y=t y x){c:Nat→Nat}(h:IsC c∧Cls t n c){i k:Nat}(hi:i<n)(hk:k<n):IsC (stp t c i k)∧Cls t n (stp t c i k):=by
 unfold stp;split
 · rename_i e;exact⟨h.1.mrg i k,h.2.mrg hi hk e (by rw[sym k i hk hi,e])⟩
 · exact h
theorem row_ok{t:Nat→Nat→Bool}{n:Nat}(sym: ∀x y,x<n→y<n→t x y=t y x){c:Nat→Nat}(h:IsC c∧Cls t n c){i:Nat}(hi:i<n): ∀k,k≤n→IsC (row t c i k)∧Cls t n (row t c i k)
 |0,_=>h
 |k+1,hk=>stp_ok sym (row_ok sym h hi k om_) hi om_
theorem cl_ok{t:Nat→Nat→Bool}{n:Nat}(sym: ∀x y,x<n→y<n→t x y=t y x): ∀i,i≤n→IsC (cl t i)∧Cls t n (cl t i)
 |0,_=>⟨IsC.id,Cls.id t n⟩
 |i+1,hi=>row_ok sym (cl_ok sym i om_) om_ i om_
theorem row_mono{t:Nat→Nat→Bool}{c:Nat→Nat}{i a b:Nat}(h:c a=c b): ∀k,row t c i k a=row t c i k b
 |0=>h
 |k+1=>by
  have:=row_mono h (t:=t) (i:=i) k;show stp t _ i k a=stp t _ i k b
  unfold stp;split
  · exact mrg_mono this
  · exact this
theorem row_pair{t:Nat→Nat→Bool}{c:Nat→Nat}{i x:Nat}(ht:t i x=true): ∀k,x<k→row t c i k i=row t c i k x
 |k+1,hk=>by
  show stp t _ i k i=stp t _ i k x
  by_cases e:x=k
  · subst e;unfold stp;rw[if_pos ht];exact mrg_pair i x
  · have:=row_pair (c:=c) ht k om_
    unfold stp;split
    · exact mrg_mono this
    · exact this
theorem cl_mono{t:Nat→Nat→Bool}{i a b:Nat}(h:cl t i a=cl t i b): ∀d,cl t (i+d) a=cl t (i+d) b
 |0=>h
 |d+1=>row_mono (cl_mono h d) _
theorem cl_touch{t:Nat→Nat→Bool}{n:Nat}(sym: ∀x y,x<n→y<n→t x y=t y x){x y:Nat}(hx:x<n)(hy:y<n)(ht:t x y=true):cl t n x=cl t n y:=by
 have key: ∀a b,a<n→b<a→t a b=true→cl t n a=cl t n b:=fun a b ha hb h=>by
  have:=cl_mono (t:=t) (i:=a+1) (row_pair (c:=cl t a) h a hb) (n-(a+1));rwa [show a+1+(n-(a+1))=n by omega] at this
 rcases Nat.lt_trichotomy x y with g|g|g
 · exact(key y x hy g (by rw[sym y x hy hx,ht])).symm
 · rw[g]
 · exact key x y hx g ht
def rnk(c:Nat→Nat)(r:Nat):Nat:=((List.range r).filter (fun j=>c j=j)).length
theorem rnk_succ(c:Nat→Nat)(r:Nat):rnk c (r+1)=if c r=r then rnk c r+1 else rnk c r:=by
 unfold rnk;rw[List.range_succ,List.filter_append];by_cases h:c r=r<;>simp[h]
theorem rnk_mono(c:Nat→Nat){r s:Nat}(h:r≤s):rnk c r≤rnk c s:=by
 induction s with
 |zero=>have:r=0:=by omega
        subst this;exact Nat.le_refl _
 |succ s ih=>
  by_cases e:r=s+1
  · rw[e];exact Nat.le_refl _
  · have:=ih om_;rw[rnk_succ];split<;>omega
theorem rnk_lt(c:Nat→Nat){r s:Nat}(h:r<s)(hr:c r=r):rnk c r<rnk c s:=by
 have:=rnk_mono c (show r+1≤s from h);rw[rnk_succ,if_pos hr] at this;omega
theorem rnk_inj(c:Nat→Nat){r s:Nat}(hr:c r=r)(hs:c s=s)(h:rnk c r=rnk c s):r=s:=by
 rcases Nat.lt_trichotomy r s with g|g|g
 · have:=rnk_lt c g hr;omega
 · exact g
 · have:=rnk_lt c g hs;omega
end PQ
namespace PQ
def prtI(c:Nat→Nat)(i:Nat):List (List Nat):=((List.range i).filter (fun r=>c r=r)).map fun r=>(List.range i).filter (fun j=>c j=r)
def ldr(c:Nat→Nat)(i:Nat):List Nat:=(List.range i).filter (fun r=>c r=r)
theorem ldr_length(c:Nat→Nat)(i:Nat):(ldr c i).length=rnk c i:=rfl
theorem prtI_length(c:Nat→Nat)(i:Nat):(prtI c i).length=rnk c i:=by simp[prtI,rnk]
theorem ldr_succ(c:Nat→Nat)(i:Nat):ldr c (i+1)=if c i=i then ldr c i++[i] else ldr c i:=by
 unfold ldr;rw[List.range_succ,List.filter_append];by_cases h:c i=i<;>simp[h]
theorem ldr_lt{c:Nat→Nat}{i r:Nat}(h:r∈ldr c i):r<i∧c r=r:=by simpa [ldr] using h
theorem ldr_get(c:Nat→Nat)(i:Nat): ∀r,r<i→c r=r→(ldr c i)[rnk c r]? =some r:=by
 induction i with
 |zero=>intro r h;omega
 |succ i ih=>
  intro r hr hc;rw[ldr_succ];by_cases e:r=i
  · subst e
    rw[if_pos hc,List.getElem?_append_right (by simp[ldr_length])];simp[ldr_length]
  · have h:=ih r om_ hc
    split
    · rw[List.getElem?_append_left (by have:=rnk_lt c (show r<i by omega) hc;simpa [ldr_length] using this)];exact h
    · exact h
theorem prtI_succ_new{c:Nat→Nat}(h:IsC c){i:Nat}(hi:c i=i):prtI c (i+1)=prtI c i++[[i]]:=by
 unfold prtI;have h1:=ldr_succ c i;rw[if_pos hi] at h1;unfold ldr at h1;rw[h1,List.map_append];congr 1
 · apply List.map_congr_left
   intro r hr;have hr2:r<i∧c r=r:=by simpa using hr
   rw[List.range_succ,List.filter_append];have: ¬c i=r:=by omega
   simp[this]
 · simp only[List.map_cons,List.map_nil,List.cons.injEq,and_true]
   rw[List.range_succ,List.filter_append];have:List.filter (fun j=>decide (c j=i)) (List.range i)=[]:=by
    rw[List.filter_eq_nil_iff];intro x hx;have:=h.le x;simp at hx⊢;omega
   rw[this];simp[hi]
theorem prtI_succ_old{c:Nat→Nat}(h:IsC c){i:Nat}(hi:c i≠i): ∃M,(prtI c i)[rnk c (c i)]? =some M∧prtI c (i+1)=(prtI c i).set (rnk c (c i)) (M++[i]):=by
 have hlt:c i<i:=by have:=h.le i;omega
 have hg:=ldr_get c i (c i) hlt (h.idem i);refine⟨(List.range i).filter (fun j=>c j=c i),?_,?_⟩
 · unfold prtI;unfold ldr at hg;rw[List.getElem?_map,hg];rfl
 · have h1:=ldr_succ c i
   rw[if_neg hi] at h1;apply List.ext_getElem?;intro m;unfold prtI;unfold ldr at h1 hg;rw[h1,List.getElem?_map,List.getElem?_set,List.getElem?_map,List.length_map];by_cases e:rnk c (c i)=m
   · subst e
     have hl:rnk c (c i)<((List.range i).filter (fun r=>decide (c r=r))).length:=by
      have:=rnk_lt c hlt (h.idem i);exact this
     rw[hg,if_pos rfl,if_pos hl];simp[List.range_succ,List.filter_append]
   · rw[if_neg e]
     cases hm:((List.range i).filter (fun r=>decide (c r=r)))[m]? with
     |none=>rfl
     |some r=>
      have hr:r∈(List.range i).filter (fun r=>decide (c r=r)):=List.mem_of_getElem? hm;have hr2:r<i∧c r=r:=by simpa using hr
      have hne: ¬c i=r:=by
       intro g;apply e;have h5:=ldr_get c i r hr2.1 hr2.2;unfold ldr at h5;rw[g];have h6:=h5.trans hm.symm;have hl1:rnk c r<((List.range i).filter (fun r=>decide (c r=r))).length:=by
        have:=rnk_lt c hr2.1 hr2.2;exact this
       have hl2:m<((List.range i).filter (fun r=>decide (c r=r))).length:=by
        rw[List.getElem?_eq_some_iff] at hm;exact hm.1
       have nd:((List.range i).filter (fun r=>decide (c r=r))).Nodup:=List.nodup_range.filter _;exact(List.getElem?_inj hl1 nd).1 h6
      simp[List.range_succ,List.filter_append,hne]
end PQ
namespace PQ
structure Fl(c:Nat→Nat)(t:Nat→Nat→Bool)(n i:Nat)(pt:Nat→Nat)(T:List Nat)(k m:Nat):Prop where
 low: ∀x,x<n→c x<i→pt x=rnk c (c x)+1
 high: ∀x,x<n→i<c x→pt x=0
 here: ∀x,x<n→c x=i→pt x=0∨pt x=rnk c i+1
 todo: ∀x∈T,x<n∧c x=i∧pt x=rnk c i+1
 self:pt i=rnk c i+1
 clos: ∀x y,x<n→y<n→c x=i→pt x≠0→x∉T→(x≠k∨y<m)→t x y=true→pt y≠0
 lt:i<n
 ldr:c i=i
def upd(pt:Nat→Nat)(m v:Nat):Nat→Nat:=fun x=>if x=m then v else pt x
def Bef(c:Nat→Nat)(n i:Nat)(pt:Nat→Nat):Prop:= ∀x,x<n→pt x=if c x<i then rnk c (c x)+1 else 0
section
variable {c:Nat→Nat} {t:Nat→Nat→Bool} {n i:Nat} {pt:Nat→Nat} {T:List Nat} {k m:Nat}
theorem Bef.zero:Bef c n 0 (fun _=>0):=fun x _=>by simp
theorem Bef.pos(h:Bef c n i pt)(hc:IsC c)(hi:i<n):(0<pt i↔c i≠i):=by
 have:=h i hi;have hl:=hc.le i;constructor
 · intro g e;rw[e] at this;simp at this;omega
 · intro g;rw[if_pos om_] at this;omega
theorem Bef.skip(h:Bef c n i pt)(hi:c i≠i)(hc:IsC c):Bef c n (i+1) pt:=fun x hx=>by
 rw[h x hx];have:c x≠i:=fun e=>hi (by have:=hc.idem x;rw[e] at this;exact this);by_cases g:c x<i
 · rw[if_pos g,if_pos om_]
 · rw[if_neg g,if_neg om_]
theorem Bef.start(h:Bef c n i pt)(hl:i<n)(hi:c i=i):Fl c t n i (upd pt i (rnk c i+1)) [i] 0 n:=by
 refine⟨fun x hx g=>?_,fun x hx g=>?_,fun x hx g=>?_,fun x hx=>?_,by simp[upd],fun x y hx hy g g1 g2=>?_,hl,hi⟩
 · have:x≠i:=fun e=>by subst e;omega
   simp only[upd,if_neg this];rw[h x hx,if_pos g]
 · have:x≠i:=fun e=>by subst e;omega
   simp only[upd,if_neg this];rw[h x hx,if_neg om_]
 · by_cases e:x=i
   · right;simp[upd,e]
   · left;simp only[upd,if_neg e];rw[h x hx,if_neg om_]
 · have:x=i:=by simpa using hx
   subst this;exact⟨hl,hi,by simp[upd]⟩
 · have e:x≠i:=by simpa using g2
   exfalso;apply g1;simp only[upd,if_neg e];rw[h x hx,if_neg om_]
theorem Fl.pop(h:Fl c t n i pt (k::T) 0 n):Fl c t n i pt T k 0:=
 ⟨h.low,h.high,h.here,fun x hx=>h.todo x (List.mem_cons_of_mem _ hx),h.self,fun x y hx hy g g1 g2 g3 g4=>h.clos x y hx hy g g1 (by
   rcases g3 with e|e
   · simp[e,g2]
   · omega) (.inr hy) g4,h.lt,h.ldr⟩
theorem Fl.pop'{k':Nat}(h:Fl c t n i pt (k::T) k' n):Fl c t n i pt T k 0:=
 ⟨h.low,h.high,h.here,fun x hx=>h.todo x (List.mem_cons_of_mem _ hx),h.self,fun x y hx hy g g1 g2 g3 g4=>h.clos x y hx hy g g1 (by
   rcases g3 with e|e
   · simp[e,g2]
   · omega) (.inr hy) g4,h.lt,h.ldr⟩
theorem Fl.no(h:Fl c t n i pt T k m)(hm: ¬(pt m=0∧t k m=true)):Fl c t n i pt T k (m+1):=
 ⟨h.low,h.high,h.here,h.todo,h.self,fun x y hx hy g g1 g2 g3 g4=>by
   by_cases e:x=k∧y=m
   · obtain⟨rfl,rfl⟩:=e
     intro e0;exact hm ⟨e0,g4⟩
   · refine h.clos x y hx hy g g1 g2 ?_ g4
     rcases g3 with g3|g3
     · exact .inl g3
     · by_cases ex:x=k
       · right;have:y≠m:=fun ey=>e ⟨ex,ey⟩
         omega
       · exact .inl ex,h.lt,h.ldr⟩
theorem Fl.yes(h:Fl c t n i pt T k m)(hk:k<n)(hck:c k=i)(hmn:m<n)(tch: ∀x y,x<n→y<n→t x y=true→c x=c y)(h0:pt m=0)(ht:t k m=true):Fl c t n i (upd pt m (rnk c i+1)) (T++[m]) k (m+1):=by
 have hcm:c m=i:=by rw[←tch k m hk hmn ht,hck]
 refine⟨fun x hx g=>?_,fun x hx g=>?_,fun x hx g=>?_,fun x hx=>?_,?_,fun x y hx hy g g1 g2 g3 g4=>?_,h.lt,h.ldr⟩
 · have:x≠m:=fun e=>by subst e;omega
   simp only[upd,if_neg this];exact h.low x hx g
 · have:x≠m:=fun e=>by subst e;omega
   simp only[upd,if_neg this];exact h.high x hx g
 · by_cases e:x=m
   · right;simp[upd,e]
   · simp only[upd,if_neg e];exact h.here x hx g
 · rcases List.mem_append.1 hx with g|g
   · obtain⟨a,b,d⟩:=h.todo x g
     refine⟨a,b,?_⟩;unfold upd;split
     · rfl
     · exact d
   · have:x=m:=by simpa using g
     subst this;exact⟨hmn,hcm,by simp[upd]⟩
 · unfold upd;split
   · rfl
   · exact h.self
 · by_cases e:y=m
   · simp[upd,e]
   · simp only[upd,if_neg e]
     have hxm:x≠m:=fun e2=>g2 (by simp[e2]);simp only[upd,if_neg hxm] at g1;refine h.clos x y hx hy g g1 (fun e3=>g2 (List.mem_append_left _ e3)) ?_ g4;rcases g3 with g3|g3
     · exact .inl g3
     · right;omega
theorem Fl.done(h:Fl c t n i pt [] k n)(hc:IsC c)(cls:Cls t n c)(tch: ∀x y,x<n→y<n→t x y=true→c x=c y):Bef c n (i+1) pt:=by
 intro x hx;rcases Nat.lt_trichotomy (c x) i with g|g|g
 · rw[h.low x hx g,if_pos om_]
 · have:=cls (fun y=>y<n∧c y=i∧pt y≠0) (fun a b ha hb tab ⟨_,s1,s2⟩=>⟨hb,by rw[←tch a b ha hb tab,s1],h.clos a b ha hb s1 s2 (by simp) (.inr hb) tab⟩) i x h.lt hx (by rw[h.ldr,g]) ⟨h.lt,h.ldr,by rw[h.self];omega⟩
   rcases h.here x hx g with e|e
   · exact absurd e this.2.2
   · rw[e,g,if_pos om_]
 · rw[h.high x hx g,if_neg om_]
theorem Bef.part(h:Bef c n (i+1) pt)(hc:IsC c)(hi:c i=i):(List.range n).filter (fun m=>pt m=rnk c i+1)=(List.range n).filter (fun j=>c j=i):=by
 apply List.filter_congr;intro x hx;have hx':x<n:=by simpa using hx
 have hp:=h x hx';by_cases g:c x<i+1
 · rw[if_pos g] at hp
   by_cases e:c x=i
   · simp[hp,e]
   · have:rnk c (c x)≠rnk c i:=fun q=>e (rnk_inj c (hc.idem x) hi q)
     simp[hp,e,this]
 · rw[if_neg g] at hp
   have:c x≠i:=by omega
   simp[hp,this]
end
def unm(pt:Nat→Nat)(n:Nat):Nat:=((List.range n).filter (fun x=>pt x=0)).length
theorem unm_upd{pt:Nat→Nat}{n m v:Nat}(hm:m<n)(h0:pt m=0)(hv:v≠0):unm (upd pt m v) n+1=unm pt n:=by
 induction n with
 |zero=>omega
 |succ n ih=>
  unfold unm at*;rw[List.range_succ,List.filter_append,List.filter_append,List.length_append,List.length_append];by_cases e:m=n
  · subst e
    have:(List.range m).filter (fun x=>decide (upd pt m v x=0))=(List.range m).filter (fun x=>decide (pt x=0)):=by
     apply List.filter_congr;intro x hx;have:x<m:=by simpa using hx
     simp[upd,show x≠m by omega]
    rw[this];simp[upd,h0,hv]
  · have:=ih om_
    have hn:upd pt m v n=pt n:=by unfold upd;rw[if_neg om_]
    have:(List.filter (fun x=>decide (upd pt m v x=0)) [n])=List.filter (fun x=>decide (pt x=0)) [n]:=by
     simp[List.filter_cons,hn]
    rw[this];omega
end PQ
namespace PQ
theorem prtI_len(c:Nat→Nat)(n u:Nat)(A:List Nat)(hu:(prtI c n)[u]? =some A):A.length≤n:=by
 unfold prtI at hu;rw[List.getElem?_map] at hu;cases e1:((List.range n).filter (fun r=>decide (c r=r)))[u]? with
 |none=>rw[e1] at hu;simp at hu
 |some r=>
  rw[e1] at hu;simp only[Option.map_some,Option.some.injEq] at hu;subst hu;exact Nat.le_trans (List.length_filter_le _ _) (by simp)
end PQ
def mkd(L:Nat→Bool)(i:Nat):Nat→Bool:=fun j=>if j=i then true else L j
theorem mkd_ne{L:Nat→Bool}{i j:Nat}(h: ¬j=i):mkd L i j=L j:=if_neg h
theorem mkd_same(L:Nat→Bool)(i:Nat):mkd L i i=true:=if_pos rfl
theorem kq{L:Nat→Bool}{i j:Nat}{p:Prop}(E:Hid (L j=true→p))(hne:(j==i)=false:=by decide):mkd L i j=true→p:=fun h=>E.out (by rwa [mkd_ne (by simpa using hne)] at h)
theorem rf_{α:Type}{a:α}{p:Prop}:p→a=a:=fun _=>rfl
theorem kr_{L:Nat→Bool}{i j:Nat}{p p':Prop}(E:Hid (L j=true→p))(hne:(j==i)=false:=by decide)(h2:p→p':=by intro q;exact⟨by simpa [mkd] using q.1,q.2⟩):mkd L i j=true→p':=fun h=>h2 (E.out (by rwa [mkd_ne (by simpa using hne)] at h))
theorem ks_{L:Nat→Bool}{i j:Nat}{p p':Prop}(E:Hid (L j=true→p))(hne:(j==i)=false:=by decide)(h2:p→p':=by intro q;simpa [mkd] using q):mkd L i j=true→p':=fun h=>h2 (E.out (by rwa [mkd_ne (by simpa using hne)] at h))
theorem wpOp_of_list{P:Program}{ops:Array Oper}{Q:Exit→Act→World→Prop}{i:Nat}{o:Oper}{K:Act→World→Prop}{a:Act}{w:World}(hi:ops[i]? =some o)(h:wpList P ops (Exit.then K Q) [o] a w):wpOp P ops Q i K a w:=by
 unfold wpOp;rw[hi];simp only[wpList] at h;simp only[];split
 · rename_i hw
   rw[if_pos hw] at h;refine h.imp (fun h1=>?_) id;unfold Oper.wp at*;generalize (execOp a.eval o).run P w=r at*;cases r with
   |ok n w'=>cases n<;>exact h1
   |halt x w'=>cases x<;>exact h1
 · rename_i hw
   rw[if_neg hw] at h;exact h
theorem wp_region_inv{P:Program}{id:Nat}{ops:Array Oper}{Q:Exit→Act→World→Prop}{a:Act}{w:World}(hm:P.follows .mixedOrders=true)(Inv:(Nat→Bool)→Act→World→Prop)
 (hwf: ∀(i:Nat) (o:Oper),ops[i]? =some o→ ∀e∈o.after,e.on<i)
 (h0:Inv (fun _=>false) a w.drew)
 (hstep: ∀(L:Nat→Bool) (i:Nat) (o:Oper) (a:Act) (w:World),ops[i]? =some o→L i=false→(∀e∈o.after,Region.binds .any e=true→L e.on=true)→Inv L a w→wpList P ops (Exit.then (fun a' w'=>Inv (fun j=>if j=i then true else L j) a' w') Q) [o] a w)
 (hend: ∀(L:Nat→Bool) (a:Act) (w:World),(∀i,i<ops.size→L i=true)→Inv L a w→Q .normal a w):(Code.region id ops true).wp P Q a w:=by
 have key: ∀(fuel:Nat) (listed:Array Bool) (L:Nat→Bool) (a:Act) (w:World),listed.size=ops.size→(∀i,i<ops.size→listed.getD i true=L i∧listed.getD i false=L i)→PQ.unm (fun j=>if L j=true then 1 else 0) ops.size≤fuel→Inv L a w→wpAny P .any ops Q fuel listed a w:=by
  intro fuel;have all: ∀(listed:Array Bool) (L:Nat→Bool),(∀i,i<ops.size→listed.getD i true=L i∧listed.getD i false=L i)→Region.ready .any ops listed=[]→ ∀n i,i<n→i<ops.size→L i=true:=by
   intro listed L hL hr n;induction n with
   |zero=>intro i h;omega
   |succ n ih=>
    intro i hi his;by_cases e:i<n
    · exact ih i e his
    · obtain rfl:i=n:=by omega
      cases hl:L i with
      |true=>rfl
      |false=>
       exfalso
       have:i∈Region.ready .any ops listed:=by
        rw[mem_ready];refine⟨by rw[(hL i his).1,hl],ops[i],by rw[Array.getElem?_eq_getElem his],fun e he _=>?_⟩;have:=hwf i _ (by rw[Array.getElem?_eq_getElem his]) e he;rw[(hL e.on om_).2];exact ih e.on this om_
       rw[hr] at this;cases this
  induction fuel with
  |zero=>
   intro listed L a w hs hL hu hI;have hall: ∀i,i<ops.size→L i=true:=by
    intro i hi;cases hl:L i with
    |true=>rfl
    |false=>
     exfalso
     have:=PQ.unm_upd (pt:=fun j=>if L j=true then 1 else 0) (v:=1) hi (by simp[hl]) om_;omega
   refine⟨?_,hend L a w hall hI⟩;cases hr:Region.ready .any ops listed with
   |nil=>rfl
   |cons i rs=>
    have hi:i∈Region.ready .any ops listed:=by rw[hr];exact List.mem_cons_self ..
    obtain⟨h1,o,ho,-⟩:=mem_ready.1 hi;have his:i<ops.size:=by
     rcases Nat.lt_or_ge i ops.size with g|g
     · exact g
     · rw[Array.getElem?_eq_none g] at ho;cases ho
    rw[(hL i his).1,hall i his] at h1;cases h1
  |succ fuel ih=>
   intro listed L a w hs hL hu hI;refine⟨fun hr=>hend L a w (fun i hi=>all listed L hL hr ops.size i hi hi) hI,fun i hi=>?_⟩;obtain⟨h1,o,ho,haf⟩:=mem_ready.1 hi;have his:i<ops.size:=by
    rcases Nat.lt_or_ge i ops.size with g|g
    · exact g
    · rw[Array.getElem?_eq_none g] at ho;cases ho
   rw[(hL i his).1] at h1;have hst:=hstep L i o a w ho h1 (fun e he hb=>by
    have:=haf e he hb;rwa [(hL e.on (by have:=hwf i o ho e he;omega)).2] at this) hI
   refine wpOp_mono (fun a' w' h=>?_) (wpOp_of_list ho hst);refine ih _ _ a' w' (by simpa using hs) (fun j hj=>?_) ?_ h
   · by_cases e:j=i
     · subst e
       simp[hs,his]
     · have:=hL j hj
       have e': ¬i=j:=fun h=>e h.symm;simp only[if_neg e];simp only[Array.getD_eq_getD_getElem?,Array.getElem?_setIfInBounds,if_neg e'] at this⊢;exact this
   · have:=PQ.unm_upd (pt:=fun j=>if L j=true then 1 else 0) (v:=1) his (by simp[h1]) om_
     have e2:(fun j=>if (if j=i then true else L j)=true then 1 else 0)=PQ.upd (fun j=>if L j=true then 1 else 0) i 1:=by
      funext j
      unfold PQ.upd;by_cases e:j=i
      · simp[e]
      · simp[e]
     rw[e2];omega
 refine wp_region_any hm (key ops.size _ (fun _=>false) a _ (by simp) (fun i hi=>by simp[hi]) ?_ h0);exact Nat.le_trans (by unfold PQ.unm;exact List.length_filter_le _ _) (by simp)
theorem wp_region_inv2{P:Program}{id:Nat}{ops:Array Oper}{Q:Exit→Act→World→Prop}{a:Act}{w:World}(hm:P.follows .mixedOrders=true)(Inv:Act→(Nat→Bool)→Act→World→Prop)
 (hwf: ∀(i:Nat) (o:Oper),ops[i]? =some o→ ∀e∈o.after,e.on<i)
 (h0:Inv a (fun _=>false) a w.drew)
 (hstep: ∀(L:Nat→Bool) (i:Nat) (o:Oper) (a1:Act) (w:World),ops[i]? =some o→L i=false→(∀e∈o.after,Region.binds .any e=true→L e.on=true)→Inv a L a1 w→wpList P ops (Exit.then (fun a' w'=>Inv a (mkd L i) a' w') Q) [o] a1 w)
 (hend: ∀(L:Nat→Bool) (a1:Act) (w:World),(∀i,i<ops.size→L i=true)→Inv a L a1 w→Q .normal a1 w):(Code.region id ops true).wp P Q a w:=
 wp_region_inv hm (Inv a) hwf h0 hstep hend
def waitsBack(ops:Array Oper):Bool:=(List.range ops.size).all fun i=>(ops[i]?.map fun o=>o.after.all fun e=>decide (e.on<i)).getD true
theorem waits_of{ops:Array Oper}(h:waitsBack ops=true): ∀(i:Nat) (o:Oper),ops[i]? =some o→ ∀e∈o.after,e.on<i:=by
 intro i o ho e he;have his:i<ops.size:=by
  rcases Nat.lt_or_ge i ops.size with g|g
  · exact g
  · rw[Array.getElem?_eq_none g] at ho;cases ho
 have h1:=(List.all_eq_true.1 h) i (List.mem_range.2 his);rw[ho] at h1;simp only[Option.map_some,Option.getD_some] at h1;have:=Array.all_eq_true'.1 h1 e he;simpa using this
theorem putQ_self(a:Act)(i:Nat):a.put (some i) (a.tmps.getD i undef)=a:=by
 cases a with
 |mk t d=>
  have:t.setIfInBounds i (t.getD i undef)=t:=by
   apply Array.ext
   · simp
   · intro j h1 h2
     rw[Array.getElem_setIfInBounds];split
     · rename_i e
       subst e;simp[Array.getD,h2]
     · rfl
  show Act.mk (t.setIfInBounds i (t.getD i undef)) d=_
  rw[this]
theorem wp_region_invB{P:Program}{id:Nat}{ops:Array Oper}{Q:Exit→Act→World→Prop}{a:Act}{w:World}(hm:P.follows .mixedOrders=true)(Inv:(Nat→Bool)→Act→World→Prop)
 (hwf: ∀(i:Nat) (o:Oper),ops[i]? =some o→ ∀e∈o.after,Region.binds .any e=true→e.on<i)
 (h0:Inv (fun _=>false) a w.drew)
 (hstep: ∀(L:Nat→Bool) (i:Nat) (o:Oper) (a:Act) (w:World),ops[i]? =some o→L i=false→(∀e∈o.after,Region.binds .any e=true→L e.on=true)→Inv L a w→wpList P ops (Exit.then (fun a' w'=>Inv (fun j=>if j=i then true else L j) a' w') Q) [o] a w)
 (hend: ∀(L:Nat→Bool) (a:Act) (w:World),(∀i,i<ops.size→L i=true)→Inv L a w→Q .normal a w):(Code.region id ops true).wp P Q a w:=by
 have key: ∀(fuel:Nat) (listed:Array Bool) (L:Nat→Bool) (a:Act) (w:World),listed.size=ops.size→(∀i,i<ops.size→listed.getD i true=L i∧listed.getD i false=L i)→PQ.unm (fun j=>if L j=true then 1 else 0) ops.size≤fuel→Inv L a w→wpAny P .any ops Q fuel listed a w:=by
  intro fuel;have all: ∀(listed:Array Bool) (L:Nat→Bool),(∀i,i<ops.size→listed.getD i true=L i∧listed.getD i false=L i)→Region.ready .any ops listed=[]→ ∀n i,i<n→i<ops.size→L i=true:=by
   intro listed L hL hr n;induction n with
   |zero=>intro i h;omega
   |succ n ih=>
    intro i hi his;by_cases e:i<n
    · exact ih i e his
    · obtain rfl:i=n:=by omega
      cases hl:L i with
      |true=>rfl
      |false=>
       exfalso
       have:i∈Region.ready .any ops listed:=by
        rw[mem_ready];refine⟨by rw[(hL i his).1,hl],ops[i],by rw[Array.getElem?_eq_getElem his],fun e he hbd=>?_⟩;have:=hwf i _ (by rw[Array.getElem?_eq_getElem his]) e he hbd;rw[(hL e.on om_).2];exact ih e.on this om_
       rw[hr] at this;cases this
  induction fuel with
  |zero=>
   intro listed L a w hs hL hu hI;have hall: ∀i,i<ops.size→L i=true:=by
    intro i hi;cases hl:L i with
    |true=>rfl
    |false=>
     exfalso
     have:=PQ.unm_upd (pt:=fun j=>if L j=true then 1 else 0) (v:=1) hi (by simp[hl]) om_;omega
   refine⟨?_,hend L a w hall hI⟩;cases hr:Region.ready .any ops listed with
   |nil=>rfl
   |cons i rs=>
    have hi:i∈Region.ready .any ops listed:=by rw[hr];exact List.mem_cons_self ..
    obtain⟨h1,o,ho,-⟩:=mem_ready.1 hi;have his:i<ops.size:=by
     rcases Nat.lt_or_ge i ops.size with g|g
     · exact g
     · rw[Array.getElem?_eq_none g] at ho;cases ho
    rw[(hL i his).1,hall i his] at h1;cases h1
  |succ fuel ih=>
   intro listed L a w hs hL hu hI;refine⟨fun hr=>hend L a w (fun i hi=>all listed L hL hr ops.size i hi hi) hI,fun i hi=>?_⟩;obtain⟨h1,o,ho,haf⟩:=mem_ready.1 hi;have his:i<ops.size:=by
    rcases Nat.lt_or_ge i ops.size with g|g
    · exact g
    · rw[Array.getElem?_eq_none g] at ho;cases ho
   rw[(hL i his).1] at h1;have hst:=hstep L i o a w ho h1 (fun e he hb=>by
    have:=haf e he hb;rwa [(hL e.on (by have:=hwf i o ho e he hb;omega)).2] at this) hI
   refine wpOp_mono (fun a' w' h=>?_) (wpOp_of_list ho hst);refine ih _ _ a' w' (by simpa using hs) (fun j hj=>?_) ?_ h
   · by_cases e:j=i
     · subst e
       simp[hs,his]
     · have:=hL j hj
       have e': ¬i=j:=fun h=>e h.symm;simp only[if_neg e];simp only[Array.getD_eq_getD_getElem?,Array.getElem?_setIfInBounds,if_neg e'] at this⊢;exact this
   · have:=PQ.unm_upd (pt:=fun j=>if L j=true then 1 else 0) (v:=1) his (by simp[h1]) om_
     have e2:(fun j=>if (if j=i then true else L j)=true then 1 else 0)=PQ.upd (fun j=>if L j=true then 1 else 0) i 1:=by
      funext j
      unfold PQ.upd;by_cases e:j=i
      · simp[e]
      · simp[e]
     rw[e2];omega
 refine wp_region_any hm (key ops.size _ (fun _=>false) a _ (by simp) (fun i hi=>by simp[hi]) ?_ h0);exact Nat.le_trans (by unfold PQ.unm;exact List.length_filter_le _ _) (by simp)
theorem wp_region_inv3{P:Program}{id:Nat}{ops:Array Oper}{Q:Exit→Act→World→Prop}{a:Act}{w:World}(hm:P.follows .mixedOrders=true)(Inv:Act→(Nat→Bool)→Act→World→Prop)
 (hwf: ∀(i:Nat) (o:Oper),ops[i]? =some o→ ∀e∈o.after,Region.binds .any e=true→e.on<i)
 (h0:Inv a (fun _=>false) a w.drew)
 (hstep: ∀(L:Nat→Bool) (i:Nat) (o:Oper) (a1:Act) (w:World),ops[i]? =some o→L i=false→(∀e∈o.after,Region.binds .any e=true→L e.on=true)→Inv a L a1 w→wpList P ops (Exit.then (fun a' w'=>Inv a (mkd L i) a' w') Q) [o] a1 w)
 (hend: ∀(L:Nat→Bool) (a1:Act) (w:World),(∀i,i<ops.size→L i=true)→Inv a L a1 w→Q .normal a1 w):(Code.region id ops true).wp P Q a w:=
 wp_region_invB hm (Inv a) hwf h0 hstep hend
def waitsBind(ops:Array Oper):Bool:=(List.range ops.size).all fun i=>(ops[i]?.map fun o=>o.after.all fun e=> !(Region.binds .any e)||decide (e.on<i)).getD true
theorem waits_bind{ops:Array Oper}(h:waitsBind ops=true): ∀(i:Nat) (o:Oper),ops[i]? =some o→ ∀e∈o.after,Region.binds .any e=true→e.on<i:=by
 intro i o ho e he hb;have his:i<ops.size:=by
  rcases Nat.lt_or_ge i ops.size with g|g
  · exact g
  · rw[Array.getElem?_eq_none g] at ho;cases ho
 have h1:=(List.all_eq_true.1 h) i (List.mem_range.2 his);rw[ho] at h1;simp only[Option.map_some,Option.getD_some] at h1;have:=Array.all_eq_true'.1 h1 e he;rw[hb] at this;simpa using this
end Go.Proofs.YtdeiofgddhbdaaaGreatDoor
