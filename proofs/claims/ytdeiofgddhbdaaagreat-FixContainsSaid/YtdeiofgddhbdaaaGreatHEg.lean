/- Proved: the law FixContains of layer 40 returns true for every point, every list of centres, every width, and every level (FixContainsSaid). No condition. -/
import Derived.DataShut
import Derived.SizedLaws
import Derived.Test.YtdeiofgddhbdaaaGreatHEf
set_option linter.unusedSimpArgs false
set_option linter.unusedVariables false
set_option maxHeartbeats 4000000
set_option maxRecDepth 100000
open Go.ChangeShapes Go.WideShapes Go.ChangeAt Go.RowKit Go.Joins Go.Deep
open Go.Proofs.Tryz
open Go.Value renaming int→vi
open Go.IntKind renaming i64→vk
namespace Go.Proofs.YtdeiofgddhbdaaaGreat
section
section
variable {H:Type} {enc:TypeId×Value→H} {P:Program} {w:World} {base:Nat} {spare:Nat→Bool} {held:Bool}
theorem trod4e{t0 t1 t2 t3:TypeId}{args:Array Value}{ds:List (DataW H)}{ps:List MemPlace}(h:DataW.TrodAll enc P w base spare held [t0,t1,t2,t3] args.toList ds ps):
 ∃v0 v1 v2 v3 d0 d1 d2 d3 p0 p1 p2 p3,args=#[v0,v1,v2,v3]∧ds=[d0,d1,d2,d3]∧ps=p0++(p1++(p2++p3))∧DataW.Trod enc P w base spare held t0 v0 d0 p0∧DataW.Trod enc P w base spare held t1 v1 d1 p1∧DataW.Trod enc P w base spare held t2 v2 d2 p2∧DataW.Trod enc P w base spare held t3 v3 d3 p3:=by
 obtain⟨v0,vs,d0,ds',p0,q,hargs,rfl,rfl,h0,hr⟩:=trodAll_cons h;obtain⟨v1,vs',d1,ds'',p1,q1,rfl,rfl,rfl,h1,hr1⟩:=trodAll_cons hr;obtain⟨v2,vs',d2,ds'',p2,q2,rfl,rfl,rfl,h2,hr2⟩:=trodAll_cons hr1;obtain⟨v3,vs',d3,ds'',p3,q3,rfl,rfl,rfl,h3,hr3⟩:=trodAll_cons hr2;obtain⟨rfl,rfl,rfl⟩:=trodAll_nil hr3;exact⟨v0,v1,v2,v3,d0,d1,d2,d3,p0,p1,p2,p3,by cases args;simp_all,rfl,by simp,h0,h1,h2,h3⟩
theorem trod4e_mk{t0 t1 t2 t3:TypeId}{v0 v1 v2 v3:Value}{d0 d1 d2 d3:DataW H}{p0 p1:List MemPlace}(h0:DataW.Trod enc P w base spare held t0 v0 d0 p0)(h1:DataW.Trod enc P w base spare held t1 v1 d1 p1)(h2:DataW.Trod enc P w base spare held t2 v2 d2 [])(h3:DataW.Trod enc P w base spare held t3 v3 d3 []):
 DataW.TrodAll enc P w base spare held [t0,t1,t2,t3] [v0,v1,v2,v3] [d0,d1,d2,d3] (p0++p1):=by
 have:=trodAll_mk4 h0 h1 h2 h3;simpa using this
end
theorem Tryz.cellsPt9:Tryz.prog.cellsOf 23=2:=by kernel_rfl
theorem fixContains_lifted(os:Os)(started:os.Started)(H:Type)(enc:TypeId×Value→H):
 ReturnsInHanded {} Tryz.checked os 3 .any (Rows.fixContainsSpec.pre6 enc Tryz.prog Tryz.f3 Rows.fixContainsRow.domain false) (Rows.fixContainsSpec.post enc Tryz.prog Tryz.f3 false true false false):=by
 refine returnsInHanded_of_change (C:=Tryz.checked) Tryz.own started (by kernel_rfl) func3
  (ChangeSpec.witness6 (enc:=enc) (C:=Tryz.checked) false ⟨#[],#[.agg #[vi vk 0,vi vk 0],.slice none 0 0,.int .u16 0,.int .u8 0],[]⟩ 8 (by kernel_rfl) (by kernel_rfl) (by kernel_rfl) (by kernel_rfl)) ?_
 intro W base args ds gs before hval0 hW _ _;have hval: ∀(j:Nat) t v,Tryz.f3.params[j]? =some t→args[j]? =some v→Value.okWide Tryz.prog W .any base t v:=hval0;have hW':=hW;obtain⟨p,q,hA0,hV,rfl,_,_⟩:=hW;have hA:DataW.TrodAll enc Tryz.prog W 0 (fun _=>true) true Tryz.f3.params.toList args.toList ds p:=hA0;rw[Tryz.params3] at hA hval;obtain⟨v0,v1,v2,v3,d0,d1,d2,d3,p0,p1,p2,p3,rfl,rfl,rfl,h0,h1,h2,h3⟩:=trod4e hA;obtain⟨rfl,rfl⟩:=trodVars_none hV;obtain⟨g0,g1,z0,z1,n2,hv0,-,-,hz0,hz1⟩:=open_agg2 underlying23 (by kernel_rfl) Tryz.cellsPt9 (hval 0 23 v0 rfl rfl) h0;obtain⟨a,e1,-,-⟩:=DataW.trod_int underlying3 hz0;obtain⟨b,e2,-,-⟩:=DataW.trod_int underlying3 hz1;simp at e1 e2;subst e1 e2 hv0;obtain⟨A,n,ca,G,rfl,rg,hn,hca⟩:=open_points (hval 1 24 v1 rfl rfl) h1;obtain⟨wide,rfl,rfl,rfl,wwide⟩:=open_int underlying25 (hval 2 25 v2 rfl rfl) h2;have bwide:0≤wide∧wide≤65535:=by have:=(Lit.wf_int_iff _ _).1 wwide;rw[show IntKind.u16.min=0 from rfl,show IntKind.u16.max=65535 from rfl] at this;exact this
 obtain⟨lev,rfl,rfl,rfl,wlev⟩:=open_int underlying5 (hval 3 5 v3 rfl rfl) h3;have blev:0≤lev∧lev≤255:=by have:=(Lit.wf_int_iff _ _).1 wlev;rw[show IntKind.u8.min=0 from rfl,show IntKind.u8.max=255 from rfl] at this;exact this
 clear hA0 hval0;simp only[List.append_nil] at hW';have hlt: ∀x∈p0++p1,x.block<W.heap.size:=fun x hx=>hW'.lt x hx;refine(fixContains_any a b A n ca G wide lev W rg hn hca bwide.1 bwide.2 blev.1 blev.2).mono fun e W' ⟨he,hb⟩=>?_;subst he;exact⟨_,rfl,post_of_below (pa:=p0++p1) (pv:=[]) hW' (fun _ _ _=>trodAll_mk1 (shut_bool underlying4 true)) (fun sp hsp=>
  trod4e_mk (point_stay h0 hb (fun x hx=>hlt x (by simp[hx])) (fun p hp=>hsp p (by simp[hp]))) (points_stay h1 hb (fun x hx=>hlt x (by simp[hx])) (fun p hp=>hsp p (by simp[hp]))) (shut_int (enc:=enc) (w:=W') (base:=0) (spare:=sp) (held:=true) underlying25 wwide) (shut_int (enc:=enc) (w:=W') (base:=0) (spare:=sp) (held:=true) underlying5 wlev)) (fun _ _=>rfl) (by simp) hb (ok_one (by kernel_rfl) rfl (okWide_bool_mk underlying4 true))⟩
theorem fixContains_named:Tryz.pinned.checked.prog.funcNamed Rows.fixContainsRow.func=some 3:=by kernel_rfl
theorem fixContains_facts:joinedFacts Tryz.pinned.checked.prog 3 Tryz.f3 Rows.fixContainsSpec Rows.fixContainsRow=true:=by kernel_rfl
theorem fixContains_holds:Rows.FixContainsSaid:=
 OpenClaim.holds_of_wide 3 Tryz.f3 rfl rfl rfl rfl rfl rfl rfl ⟨rfl,rfl,rfl,rfl,rfl⟩ rfl rfl rfl rfl rfl fixContains_named func3 fixContains_facts
  (of_decide_eq_true (by kernel_rfl)) (by unfold Func.isWrapper;first|(rw[if_pos (by decide+kernel)];kernel_rfl)|(rw[if_neg (by decide+kernel)];exact⟨rfl,rfl⟩))
  (fun os started H enc _=>fixContains_lifted os started H enc)
#print axioms fixContains_holds
end
end Go.Proofs.YtdeiofgddhbdaaaGreat
