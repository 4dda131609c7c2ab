/- An argument that is a slice of cells. -/
import Derived.Deep.Slices
import Derived.Deep.Strs
import Derived.Deep.Fields
import Derived.ChangeSame
import Derived.Test.YtdeiofgddhbdaaaGreatDoorHIt
set_option linter.unusedSimpArgs false
set_option linter.unusedVariables false
set_option maxHeartbeats 4000000
set_option maxRecDepth 100000
open Go.ChangeShapes Go.WideShapes Go.ChangeAt Go.RowKit Go.Deep
open Go.Proofs.Tryz
namespace Go.Proofs.YtdeiofgddhbdaaaGreatDoor
section
section
variable {H:Type} {enc:TypeId×Value→H} {P:Program} {w:World} {base:Nat} {spare:Nat→Bool} {held:Bool}
theorem open_three{t:TypeId}{f0 f1 f2:Field}{cs:List Value}{x:DataW H×List MemPlace}{fuel:Nat}(hs:P.underlying t=some (.struct #[f0,f1,f2]))(hone:oneCellFields P #[f0,f1,f2]=true)
 (h:DataW.trod enc P w base spare held fuel t cs=some x) (hl:cs.length=3):
 ∃c0 c1 c2 y0 y1 y2 n,cs=[c0,c1,c2]∧DataW.trod enc P w base spare held n f0.type [c0]=some y0∧DataW.trod enc P w base spare held n f1.type [c1]=some y1∧DataW.trod enc P w base spare held n f2.type [c2]=some y2:=by
 obtain⟨y0,y1,y2,n,_,_,h0,h1,h2⟩:=trod_struct3 hs h;obtain⟨o0,k0⟩:=hone_of hone 0 f0 rfl;obtain⟨o1,k1⟩:=hone_of hone 1 f1 rfl;obtain⟨o2,k2⟩:=hone_of hone 2 f2 rfl;match cs,hl with
 | [c0,c1,c2],_=>exact⟨c0,c1,c2,y0,y1,y2,n,rfl,by simpa [o0,k0] using h0,by simpa [o1,k1] using h1,by simpa [o2,k2] using h2⟩
end
theorem Tryz.cells3:Tryz.prog.cellsOf 58=3:=by kernel_rfl
theorem cvs_map(f:Nat→Cl): ∀(n j:Nat),(cvs ((List.range n).map f))[j]? =if j<n*3 then(cv (f (j/3)))[j%3]? else none:=by
 intro n;induction n with
 |zero=>intro j;simp[cvs]
 |succ n ih=>
  intro j;rw[List.range_succ,List.map_append,cvs_append,List.getElem?_append,cvs_length,List.length_map,List.length_range];by_cases h:j<n*3
  · rw[if_pos h,ih,if_pos h,if_pos om_]
  · rw[if_neg h]
    by_cases h2:j<(n+1)*3
    · rw[if_pos h2]
      have e1:j/3=n:=by omega
      have e2:j-n*3=j%3:=by omega
      rw[e1,e2];simp[cvs]
    · rw[if_neg h2]
      simp[cvs,cv];omega
theorem open_cells{H:Type}{enc:TypeId×Value→H}{W:World}{v:Value}{d:DataW H}{ps:List MemPlace}{r:Reach}{b0:Nat}(hv:Value.okWide Tryz.prog W r b0 22 v)
 (h:DataW.Trod enc Tryz.prog W 0 (fun _=>true) true 22 v d ps):
 ∃A n ca L,v=.slice A n ca∧Reads W W.heap.size 3 A n (cvs L)∧n≤ca∧ca≤maxLen:=by
 obtain⟨a,len,cap,rfl⟩:=okWide_slice underlying22 hv;obtain⟨fu,hf⟩:=h;have hf':DataW.trod enc Tryz.prog W 0 (fun _=>true) true fu 22 [.slice a len cap]=some (d,ps):=by simpa [Value.cells] using hf
 rcases open_slice underlying22 hf' with ⟨h0,-⟩|⟨a',len',cap',m,n,D,Pl,hcs,hb,hl,hm,hmm,hx,hi⟩
 · cases h0
   exact⟨none,0,0,[],rfl,Reads.none_,Nat.le_refl _,by simp[maxLen]⟩
 · cases hcs
   simp only[if_true] at hmm;subst hmm;have one: ∀i,i<len→ ∃x:Cl,∀j,j<3→W.cell? (a'.add (i*3+j))=(cv x)[j]? :=by
    intro i hil;obtain⟨cs,hc,ht⟩:=hi i om_;rw[Tryz.cells3] at hc;obtain⟨_,hcl,hat⟩:=World.cells?_some hc;obtain⟨c0,c1,c2,y0,y1,y2,n',rfl,h0,h1,h2⟩:=open_three underlying58 (by kernel_rfl) ht hcl;obtain⟨l,e0,-,-⟩:=DataW.trod_int underlying3 h0;obtain⟨r,e1,-,-⟩:=DataW.trod_int underlying3 h1;obtain⟨c,e2,-,-⟩:=DataW.trod_int underlying3 h2;cases e0
    cases e1
    cases e2
    refine⟨(l,r,c),fun j hj=>?_⟩;rw[←Go.Deep.add_add,hat j hj];rfl
   obtain⟨f,hf2⟩:=choose_lt one;refine⟨some a',len,_,(List.range len).map f,rfl,⟨by simp[cvs_length],fun h0=>⟨a',rfl,?_,?_⟩⟩,hl,hm⟩
   · have h1:=hf2 0 h0 0 om_
     have h2:=World.block_lt_of_cell? W _ h1;exact h2
   · intro j u hu
     rw[cvs_map] at hu;by_cases hj:j<len*3
     · rw[if_pos hj] at hu
       have h1:=hf2 (j/3) om_ (j%3) (Nat.mod_lt _ om_);rw[show j/3*3+j%3=j by omega] at h1;rw[h1,hu]
     · rw[if_neg hj] at hu
       cases hu
theorem Tryz.laidOutB:laidOutB Tryz.prog=true:=by kernel_rfl
theorem Tryz.readCells:Tryz.prog.readableRec 22=true:=by kernel_rfl
theorem Tryz.rowCells:22<Tryz.prog.types.size:=of_decide_eq_true (by kernel_rfl)
theorem cells_stay{H:Type}{enc:TypeId×Value→H}{W W':World}{sp:Nat→Bool}{v:Value}{d:DataW H}{ps:List MemPlace}(h:DataW.Trod enc Tryz.prog W 0 (fun _=>true) true 22 v d ps)
 (hb:Below W.heap.size W W') (hlt: ∀x∈ps,x.block<W.heap.size) (hsp: ∀p∈ps,sp p.block=true):DataW.Trod enc Tryz.prog W' 0 sp true 22 v d ps:=
 WideElems.Trod_stays Tryz.laidOutB Tryz.readCells Tryz.rowCells h (fun x hx=>hb.same (hlt x hx)) hsp
end
end Go.Proofs.YtdeiofgddhbdaaaGreatDoor
