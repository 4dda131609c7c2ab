/- Proved: the law FormsRounds of layer 55 returns true for every label and every arc (FormsRoundsCardSaid: the row's listed tables tied to the program's text). No condition. -/
import Derived.Test.YtdeiofgddhbdaaaGreatDoorCards
import Derived.Test.YtdeiofgddhbdaaaGreatDoorTie
import Derived.SevenTiedAt
import Derived.ShutString
import Derived.ChangeMaps5
import Derived.Test.YtdeiofgddhbdaaaGreatDoorHLh
set_option linter.unusedSimpArgs false
set_option linter.unusedVariables false
set_option maxHeartbeats 4000000
set_option maxRecDepth 100000
open Go.ChangeShapes Go.WideShapes Go.ChangeAt Go.RowKit Go.Joins Go.Deep
open Go.Proofs.Tryz
open Go.Value renaming int→vi
open Go.IntKind renaming i64→vk
namespace Go.Proofs.YtdeiofgddhbdaaaGreatDoor
theorem Tryz.cellsArc9:Tryz.prog.cellsOf 33=2:=by kernel_rfl
theorem formsRounds_lifted(os:Os)(started:os.Started)(H:Type)(enc:TypeId×Value→H):
 ReturnsInHanded {} Tryz.checked os 5 .any (fun w args=>(Rows.formsRoundsSpec.pre enc Tryz.prog Tryz.f5 [] false w args∧laidMetH Tryz.prog laid55 w)∧sizedMet enc Tryz.prog Tryz.f5 (OpenSpec.ofChange Rows.formsRoundsSpec) false w args)
  (Rows.formsRoundsSpec.post enc Tryz.prog Tryz.f5 false true false false):=by
 refine handed_and_shaped (C:=Tryz.checked) (X:=fun w _=>laidMetH Tryz.prog laid55 w) (fun _ _ _ hh h=>h.of_heap hh) Tryz.own started (by kernel_rfl) func5
  (ChangeSpec.witness_shaped (enc:=enc) (C:=Tryz.checked) (os:=os) (X:=fun w _=>laidMetH Tryz.prog laid55 w) false (World.doorLaid Tryz.prog 4000 os) #[.int .u8 0,.agg #[.int .i64 0,.int .i64 0]] 8 rfl (World.shaped_of_RefB (by kernel_rfl) (by kernel_rfl)) (by kernel_rfl) (by kernel_rfl) (by kernel_rfl) (door55 os _)) ?_
 intro W base args ds gs before hval0 hW hL hsh;have hval: ∀(j:Nat) t v,Tryz.f5.params[j]? =some t→args[j]? =some v→Value.okWide Tryz.prog W .any base t v:=hval0;have hW':=hW;obtain⟨p,q,hA0,hV,rfl,_,_⟩:=hW;have hA:DataW.TrodAll enc Tryz.prog W 0 (fun _=>true) true Tryz.f5.params.toList args.toList ds p:=hA0;rw[Tryz.params5] at hA hval;obtain⟨v0,v2,d0,d2,p0,p2,rfl,rfl,rfl,h0,h2⟩:=trodAll_two hA;obtain⟨rfl,rfl⟩:=trodVars_none hV;obtain⟨k,rfl,rfl,rfl,wk⟩:=open_int underlying5 (hval 0 5 v0 rfl rfl) h0;have bk:0≤k∧k≤255:=by have:=(Lit.wf_int_iff _ _).1 wk;rw[show IntKind.u8.min=0 from rfl,show IntKind.u8.max=255 from rfl] at this;exact this
 obtain⟨g0,g1,z0,z1,n2,rfl,rfl,rfl,hz0,hz1⟩:=open_agg2 underlying33 (by kernel_rfl) Tryz.cellsArc9 (hval 1 33 v2 rfl rfl) h2;obtain⟨a,e3,rfl,wa⟩:=DataW.trod_int underlying3 hz0;obtain⟨b,e4,rfl,wb⟩:=DataW.trod_int underlying3 hz1;simp at e3 e4;subst e3 e4;clear hA0 hval0;simp only[List.append_nil] at hW';have rd2: ∀(W':World) (sp:Nat→Bool),DataW.Trod enc Tryz.prog W' 0 sp true 33 (.agg #[.int .i64 a,.int .i64 b]) (.agg [.lit (.int .i64 a),.lit (.int .i64 b)]) []:=fun W' sp=>
  shut_agg2 (y0:=(.lit (.int .i64 a),[])) (y1:=(.lit (.int .i64 b),[])) underlying33 (by kernel_rfl) Tryz.cellsArc9 ⟨1,by simp[DataW.trod,underlying3,wa]⟩ ⟨1,by simp[DataW.trod,underlying3,wb]⟩
 refine(formsRounds_any k a b W bk (mx_of_shaped hsh) (tab_of_laid hL)).mono fun e W' ⟨he,hb⟩=>?_;subst he;exact⟨_,rfl,post_of_below (pa:=[]) (pv:=[]) hW' (fun _ _ _=>trodAll_mk1 (shut_bool underlying4 true)) (fun sp hsp=>
  trodAll_mk2 (shut_int (enc:=enc) (w:=W') (base:=0) (spare:=sp) (held:=true) underlying5 wk) (rd2 W' sp)) (fun _ _=>rfl) (by simp) hb (ok_one (by kernel_rfl) rfl (okWide_bool_mk underlying4 true))⟩
theorem formsRounds_named:Tryz.pinned.checked.prog.funcNamed Rows.formsRoundsRow.func=some 5:=by kernel_rfl
theorem formsRounds_facts:joinedFacts Tryz.pinned.checked.prog 5 Tryz.f5 Rows.formsRoundsSpec Rows.formsRoundsRow=true:=by kernel_rfl
theorem formsRounds_row:Rows.FormsRoundsSaid:=
 OpenClaim.holds_of_wide 5 Tryz.f5 rfl rfl rfl rfl rfl rfl rfl ⟨rfl,rfl,rfl,rfl,rfl⟩ rfl rfl rfl rfl rfl formsRounds_named func5 formsRounds_facts
  (of_decide_eq_true (by kernel_rfl)) (by unfold Func.isWrapper;first|(rw[if_pos (by decide+kernel)];kernel_rfl)|(rw[if_neg (by decide+kernel)];exact⟨rfl,rfl⟩))
  (fun os started H enc _=>formsRounds_lifted os started H enc)
theorem formsRounds_holds:Rows.FormsRoundsCardSaid:=
 Claim7.holds_tied_plain_at .later [] [.data,.data,.data] true Rows.formsRoundsCard.stood.harness false
  formsRounds_row (fun _ h=>by cases h) (by kernel_rfl) (fun _ h=>by cases h) formsRounds_row_tie rfl ⟨rfl,rfl⟩ (by kernel_rfl) rfl
  (fun f fn hf hfn=>by
    obtain rfl:f=5:=Option.some.inj (formsRounds_named.symm.trans hf) |>.symm;obtain rfl:fn=Tryz.f5:=(Option.some.inj (Tryz.func5.symm.trans hfn)).symm;exact⟨by kernel_rfl,fun j t ht=>by
     rw[Tryz.params5] at ht;have hm:t∈[5,33]:=by simpa using Array.mem_of_getElem? ht
     have hall:([5,33].all fun u=> !Tryz.prog.wantsStandIn u)=true:=by kernel_rfl
     exact(show Tryz.prog.wantsStandIn t=false by simpa using List.all_eq_true.1 hall t hm)⟩)
  (by kernel_rfl)
#print axioms formsRounds_holds
end Go.Proofs.YtdeiofgddhbdaaaGreatDoor
