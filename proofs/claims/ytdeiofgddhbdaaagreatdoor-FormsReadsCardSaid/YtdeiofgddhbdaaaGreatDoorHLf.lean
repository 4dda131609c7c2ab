/- Proved: the law FormsReads of layer 55 returns true for every string (FormsReadsCardSaid: the row's listed tables tied to the program's text). No condition. -/
import Derived.Test.YtdeiofgddhbdaaaGreatDoorCards
import Derived.Test.YtdeiofgddhbdaaaGreatDoorTie
import Derived.SevenTiedAt
import Derived.ShutString
import Derived.ChangeMaps5
import Derived.Test.YtdeiofgddhbdaaaGreatDoorHIt
set_option linter.unusedSimpArgs false
set_option linter.unusedVariables false
set_option maxHeartbeats 4000000
set_option maxRecDepth 100000
open Go.ChangeShapes Go.WideShapes Go.ChangeAt Go.RowKit Go.Joins Go.Deep
open Go.Proofs.Tryz
namespace Go.Proofs.YtdeiofgddhbdaaaGreatDoor
theorem formsReads_lifted(os:Os)(started:os.Started)(H:Type)(enc:TypeId×Value→H):
 ReturnsInHanded {} Tryz.checked os 4 .any (fun w args=>(Rows.formsReadsSpec.pre enc Tryz.prog Tryz.f4 [] false w args∧laidMetH Tryz.prog laid55 w)∧sizedMet enc Tryz.prog Tryz.f4 (OpenSpec.ofChange Rows.formsReadsSpec) false w args)
  (Rows.formsReadsSpec.post enc Tryz.prog Tryz.f4 false true false false):=by
 refine handed_and_shaped (C:=Tryz.checked) (X:=fun w _=>laidMetH Tryz.prog laid55 w) (fun _ _ _ hh h=>h.of_heap hh) Tryz.own started (by kernel_rfl) func4
  (ChangeSpec.witness_shaped (enc:=enc) (C:=Tryz.checked) (os:=os) (X:=fun w _=>laidMetH Tryz.prog laid55 w) false (World.doorLaid Tryz.prog 4000 os) #[.string ⟨#[]⟩] 8 rfl (World.shaped_of_RefB (by kernel_rfl) (by kernel_rfl)) (by kernel_rfl) (by kernel_rfl) (by kernel_rfl) (door55 os _)) ?_
 intro W base args ds gs before hval0 hW hL hsh;have hval: ∀(j:Nat) t v,Tryz.f4.params[j]? =some t→args[j]? =some v→Value.okWide Tryz.prog W .any base t v:=hval0;have hW':=hW;obtain⟨p,q,hA0,hV,rfl,_,_⟩:=hW;have hA:DataW.TrodAll enc Tryz.prog W 0 (fun _=>true) true Tryz.f4.params.toList args.toList ds p:=hA0;rw[Tryz.params4] at hA hval;obtain⟨v0,d0,rfl,rfl,h0⟩:=trodAll_one hA;obtain⟨rfl,rfl⟩:=trodVars_none hV;obtain⟨s,rfl,rfl,rfl,ws⟩:=Go.ChangeMaps.open_string underlying9 (hval 0 9 v0 rfl rfl) h0;clear hA0 hval0;simp only[List.append_nil] at hW';have hs:tx s.data.toList=Value.string s:=congrArg Value.string (by cases s;simp);have K:=formsReads_any s.data.toList W (mx_of_shaped hsh) (tab_of_laid hL);rw[hs] at K;refine K.mono fun e W' ⟨he,hb⟩=>?_;subst he;exact⟨_,rfl,post_of_below (pa:=[]) (pv:=[]) hW' (fun _ _ _=>trodAll_mk1 (shut_bool underlying4 true)) (fun sp hsp=>trodAll_mk1 (Go.ChangeMaps.shut_string (s:=s) underlying9 ws)) (fun _ _=>rfl) (by simp) hb (ok_one (by kernel_rfl) rfl (okWide_bool_mk underlying4 true))⟩
theorem formsReads_named:Tryz.pinned.checked.prog.funcNamed Rows.formsReadsRow.func=some 4:=by kernel_rfl
theorem formsReads_facts:joinedFacts Tryz.pinned.checked.prog 4 Tryz.f4 Rows.formsReadsSpec Rows.formsReadsRow=true:=by kernel_rfl
theorem formsReads_row:Rows.FormsReadsSaid:=
 OpenClaim.holds_of_wide 4 Tryz.f4 rfl rfl rfl rfl rfl rfl rfl ⟨rfl,rfl,rfl,rfl,rfl⟩ rfl rfl rfl rfl rfl formsReads_named func4 formsReads_facts
  (of_decide_eq_true (by kernel_rfl)) (by unfold Func.isWrapper;first|(rw[if_pos (by decide+kernel)];kernel_rfl)|(rw[if_neg (by decide+kernel)];exact⟨rfl,rfl⟩))
  (fun os started H enc _=>formsReads_lifted os started H enc)
theorem formsReads_holds:Rows.FormsReadsCardSaid:=
 Claim7.holds_tied_plain_at .later [] [.data,.data,.data] true Rows.formsReadsCard.stood.harness false
  formsReads_row (fun _ h=>by cases h) (by kernel_rfl) (fun _ h=>by cases h) formsReads_row_tie rfl ⟨rfl,rfl⟩ (by kernel_rfl) rfl
  (fun f fn hf hfn=>by
    obtain rfl:f=4:=Option.some.inj (formsReads_named.symm.trans hf) |>.symm;obtain rfl:fn=Tryz.f4:=(Option.some.inj (Tryz.func4.symm.trans hfn)).symm;exact⟨by kernel_rfl,fun j t ht=>by
     rw[Tryz.params4] at ht;have hm:t∈[9]:=by simpa using Array.mem_of_getElem? ht
     have hall:([9].all fun u=> !Tryz.prog.wantsStandIn u)=true:=by kernel_rfl
     exact(show Tryz.prog.wantsStandIn t=false by simpa using List.all_eq_true.1 hall t hm)⟩)
  (by kernel_rfl)
#print axioms formsReads_holds
end Go.Proofs.YtdeiofgddhbdaaaGreatDoor
