/- Proved: the law FormsBounds of layer 55 returns true for every list of cells (FormsBoundsCardSaid: the row's listed tables tied to the program's text). No condition. -/
import Derived.Test.YtdeiofgddhbdaaaGreatDoorCards
import Derived.Test.YtdeiofgddhbdaaaGreatDoorTie
import Derived.SevenTiedAt
import Derived.Test.YtdeiofgddhbdaaaGreatDoorHLj
import Derived.Test.YtdeiofgddhbdaaaGreatDoorHOpen
set_option linter.unusedSimpArgs false
set_option linter.unusedVariables false
set_option maxHeartbeats 4000000
set_option maxRecDepth 100000
open Go.ChangeShapes Go.WideShapes Go.ChangeAt Go.RowKit Go.Joins Go.Deep
open Go.Proofs.Tryz
namespace Go.Proofs.YtdeiofgddhbdaaaGreatDoor
theorem formsBounds_lifted(os:Os)(started:os.Started)(H:Type)(enc:TypeId×Value→H):
 ReturnsInHanded {} Tryz.checked os 6 .any (fun w args=>(Rows.formsBoundsSpec.pre enc Tryz.prog Tryz.f6 [] false w args∧laidMetH Tryz.prog laid55 w)∧sizedMet enc Tryz.prog Tryz.f6 (OpenSpec.ofChange Rows.formsBoundsSpec) false w args)
  (Rows.formsBoundsSpec.post enc Tryz.prog Tryz.f6 false true false false):=by
 refine handed_and_shaped (C:=Tryz.checked) (X:=fun w _=>laidMetH Tryz.prog laid55 w) (fun _ _ _ hh h=>h.of_heap hh) Tryz.own started (by kernel_rfl) func6
  (ChangeSpec.witness_shaped (enc:=enc) (C:=Tryz.checked) (os:=os) (X:=fun w _=>laidMetH Tryz.prog laid55 w) false (World.doorLaid Tryz.prog 4000 os) #[.slice none 0 0] 8 rfl (World.shaped_of_RefB (by kernel_rfl) (by kernel_rfl)) (by kernel_rfl) (by kernel_rfl) (by kernel_rfl) (door55 os _)) ?_
 intro W base args ds gs before hval0 hW hL hsh;have hval: ∀(j:Nat) t v,Tryz.f6.params[j]? =some t→args[j]? =some v→Value.okWide Tryz.prog W .any base t v:=hval0;have hW':=hW;obtain⟨p,q,hA0,hV,rfl,_,_⟩:=hW;have hA:DataW.TrodAll enc Tryz.prog W 0 (fun _=>true) true Tryz.f6.params.toList args.toList ds p:=hA0;rw[Tryz.params6] at hA hval;obtain⟨v0,d0,rfl,rfl,h0⟩:=trodAll_one hA;obtain⟨rfl,rfl⟩:=trodVars_none hV;obtain⟨A,n,ca,L,rfl,ra,hn,hca⟩:=open_cells (hval 0 22 v0 rfl rfl) h0;clear hA0 hval0;simp only[List.append_nil] at hW';have hlt: ∀x∈p,x.block<W.heap.size:=fun x hx=>hW'.lt x hx;refine(formsBounds_any A n ca L W ra hn hca (mx_of_shaped hsh) (tab_of_laid hL)).mono fun e W' ⟨he,hb⟩=>?_;subst he;exact⟨_,rfl,post_of_below (pa:=p) (pv:=[]) hW' (fun _ _ _=>trodAll_mk1 (shut_bool underlying4 true)) (fun sp hsp=>trodAll_mk1 (cells_stay h0 hb hlt hsp)) (fun _ _=>rfl) (by simp) hb (ok_one (by kernel_rfl) rfl (okWide_bool_mk underlying4 true))⟩
theorem formsBounds_named:Tryz.pinned.checked.prog.funcNamed Rows.formsBoundsRow.func=some 6:=by kernel_rfl
theorem formsBounds_facts:joinedFacts Tryz.pinned.checked.prog 6 Tryz.f6 Rows.formsBoundsSpec Rows.formsBoundsRow=true:=by kernel_rfl
theorem formsBounds_row:Rows.FormsBoundsSaid:=
 OpenClaim.holds_of_wide 6 Tryz.f6 rfl rfl rfl rfl rfl rfl rfl ⟨rfl,rfl,rfl,rfl,rfl⟩ rfl rfl rfl rfl rfl formsBounds_named func6 formsBounds_facts
  (of_decide_eq_true (by kernel_rfl)) (by unfold Func.isWrapper;first|(rw[if_pos (by decide+kernel)];kernel_rfl)|(rw[if_neg (by decide+kernel)];exact⟨rfl,rfl⟩))
  (fun os started H enc _=>formsBounds_lifted os started H enc)
theorem formsBounds_holds:Rows.FormsBoundsCardSaid:=
 Claim7.holds_tied_plain_at .later [] [.data,.data,.data] true Rows.formsBoundsCard.stood.harness false
  formsBounds_row (fun _ h=>by cases h) (by kernel_rfl) (fun _ h=>by cases h) formsBounds_row_tie rfl ⟨rfl,rfl⟩ (by kernel_rfl) rfl
  (fun f fn hf hfn=>by
    obtain rfl:f=6:=Option.some.inj (formsBounds_named.symm.trans hf) |>.symm;obtain rfl:fn=Tryz.f6:=(Option.some.inj (Tryz.func6.symm.trans hfn)).symm;exact⟨by kernel_rfl,fun j t ht=>by
     rw[Tryz.params6] at ht;have hm:t∈[22]:=by simpa using Array.mem_of_getElem? ht
     have hall:([22].all fun u=> !Tryz.prog.wantsStandIn u)=true:=by kernel_rfl
     exact(show Tryz.prog.wantsStandIn t=false by simpa using List.all_eq_true.1 hall t hm)⟩)
  (by kernel_rfl)
#print axioms formsBounds_holds
end Go.Proofs.YtdeiofgddhbdaaaGreatDoor
