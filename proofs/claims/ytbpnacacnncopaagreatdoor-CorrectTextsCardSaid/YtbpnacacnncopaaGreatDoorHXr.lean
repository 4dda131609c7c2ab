/- Proved: the law CorrectTexts of layer 22 returns true for all its arguments (CorrectTextsCardSaid: the row's listed tables tied to the program's text). No condition. -/
import Derived.Test.YtbpnacacnncopaaGreatDoorCards
import Derived.Test.YtbpnacacnncopaaGreatDoorTie
import Derived.SevenTiedAt
import Derived.Test.YtbpnacacnncopaaGreatDoorHZq
import Derived.Test.YtbpnacacnncopaaGreatDoorHZu
set_option linter.unusedSimpArgs false
set_option linter.unusedVariables false
set_option maxHeartbeats 4000000
set_option maxRecDepth 100000
open Go.ChangeShapes Go.WideShapes Go.ChangeAt Go.RowKit Go.Joins Go.Deep
open Go.Proofs.Tryz
open Go.Value renaming int→vi
open Go.IntKind renaming i64→vk
namespace Go.Proofs.YtbpnacacnncopaaGreatDoor
theorem correctTexts_lifted(os:Os)(started:os.Started)(H:Type)(enc:TypeId×Value→H):
 ReturnsInHanded {} Tryz.checked os 3 .any (fun w args=>(Rows.correctTextsSpec.pre enc Tryz.prog Tryz.f3 [] false w args∧laidMetH Tryz.prog laid22 w)∧sizedMet enc Tryz.prog Tryz.f3 (OpenSpec.ofChange Rows.correctTextsSpec) false w args)
  (Rows.correctTextsSpec.post enc Tryz.prog Tryz.f3 false true false false):=by
 refine handed_and_shaped (C:=Tryz.checked) (X:=fun w _=>laidMetH Tryz.prog laid22 w) (fun _ _ _ hh h=>h.of_heap hh) Tryz.own started (by kernel_rfl) func3
  (ChangeSpec.witness_shaped (enc:=enc) (C:=Tryz.checked) (os:=os) (X:=fun w _=>laidMetH Tryz.prog laid22 w) false (doorW os) #[.agg #[.string ⟨#[]⟩,vi vk 0,vi vk 0,vi vk 0,vi vk 0,vi vk 0,vi vk 0,vi vk 0,vi vk 0,vi vk 0,vi vk 0],.string ⟨#[]⟩] 8 rfl (World.shaped_of_RefB (by kernel_rfl) (by kernel_rfl)) (by kernel_rfl) (by kernel_rfl) (by kernel_rfl) (door22 os _)) ?_
 intro W base args ds gs before hval0 hW hL hsh;have hval: ∀(j:Nat) t v,Tryz.f3.params[j]? =some t→args[j]? =some v→Value.okWide Tryz.prog W .any base t v:=hval0;have hW':=hW;obtain⟨p,q,hA0,hV,rfl,_,_⟩:=hW;have hA:DataW.TrodAll enc Tryz.prog W 0 (fun _=>true) true Tryz.f3.params.toList args.toList ds p:=hA0;rw[Tryz.params3] at hA hval;obtain⟨v0,v1,d0,d1,p0,p1,rfl,rfl,rfl,h0,h1⟩:=trodAll_two hA;obtain⟨rfl,rfl⟩:=trodVars_none hV;have he:=en_of_laid hL hsh;have k0:=h0;have k1:=h1;obtain⟨s0,rfl⟩:=open_sight (hval 0 25 v0 rfl rfl) h0;obtain⟨t1,rfl⟩:=open_text (hval 1 9 v1 rfl rfl) h1;clear hA0 hval0;simp only[List.append_nil] at hW';have hlt: ∀x∈(p0++p1),x.block<W.heap.size:=fun x hx=>hW'.lt x (by simpa using hx);refine(texts_any s0 t1 W he).mono fun e W' ⟨he,hb⟩=>?_;subst he;refine⟨_,rfl,post_of_below (pa:=(p0++p1)) (pv:=[]) hW' (fun _ _ _=>trodAll_mk1 (shut_bool underlying4 true)) (fun sp hsp=>?_) (fun _ _=>rfl) (by simp) hb (ok_one (by kernel_rfl) rfl (okWide_bool_mk underlying4 true))⟩;have s0':=WideElems.Trod_stays (W':=W') (sp':=sp) Tryz.laidOutB (by kernel_rfl) (of_decide_eq_true (by kernel_rfl)) k0 (fun x hx=>hb.same (hlt x (by simp[hx]))) (fun x hx=>hsp x (by simp[hx]));have s1':=WideElems.Trod_stays (W':=W') (sp':=sp) Tryz.laidOutB (by kernel_rfl) (of_decide_eq_true (by kernel_rfl)) k1 (fun x hx=>hb.same (hlt x (by simp[hx]))) (fun x hx=>hsp x (by simp[hx]));exact trodAll_mk2 s0' s1'
theorem correctTexts_named:Tryz.pinned.checked.prog.funcNamed Rows.correctTextsRow.func=some 3:=by kernel_rfl
theorem correctTexts_facts:joinedFacts Tryz.pinned.checked.prog 3 Tryz.f3 Rows.correctTextsSpec Rows.correctTextsRow=true:=by kernel_rfl
theorem correctTexts_row:Rows.CorrectTextsSaid:=
 OpenClaim.holds_of_wide 3 Tryz.f3 rfl rfl rfl rfl rfl rfl rfl ⟨rfl,rfl,rfl,rfl,rfl⟩ rfl rfl rfl rfl rfl correctTexts_named func3 correctTexts_facts
  (of_decide_eq_true (by kernel_rfl)) (by unfold Func.isWrapper;first|(rw[if_pos (by decide+kernel)];kernel_rfl)|(rw[if_neg (by decide+kernel)];exact⟨rfl,rfl⟩))
  (fun os started H enc _=>correctTexts_lifted os started H enc)
theorem correctTexts_holds:Rows.CorrectTextsCardSaid:=
 Claim7.holds_tied_plain_at .later [] [.data,.data,.data,.data,.sentinel,.sentinel,.pinned] true Rows.correctTextsCard.stood.harness true
  correctTexts_row (fun _ h=>by cases h) (by kernel_rfl) (fun _ h=>by cases h) correctTexts_row_tie rfl ⟨rfl,rfl⟩ (by kernel_rfl) rfl
  (fun f fn hf hfn=>by
    obtain rfl:f=3:=Option.some.inj (correctTexts_named.symm.trans hf) |>.symm;obtain rfl:fn=Tryz.f3:=(Option.some.inj (Tryz.func3.symm.trans hfn)).symm;exact⟨by kernel_rfl,fun j t ht=>by
     rw[Tryz.params3] at ht;have hm:t∈[25,9]:=by simpa using Array.mem_of_getElem? ht
     have hall:([25,9].all fun u=> !Tryz.prog.wantsStandIn u)=true:=by kernel_rfl
     exact(show Tryz.prog.wantsStandIn t=false by simpa using List.all_eq_true.1 hall t hm)⟩)
  (by kernel_rfl)
#print axioms correctTexts_holds
end Go.Proofs.YtbpnacacnncopaaGreatDoor
