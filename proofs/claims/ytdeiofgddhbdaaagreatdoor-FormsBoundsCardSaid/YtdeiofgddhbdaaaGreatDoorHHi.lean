/- The walk of place.around. -/
import Derived.RangeFuncNested
import Derived.RangeFuncBound
import Derived.RangeFuncCalls
import Derived.RangeFuncLeaves
import Derived.RangeFuncBox
import Derived.Shelf.RegionOpen
import Derived.OwnWalkIn
import Derived.TacticsInMore
import Derived.LoopNIn
import Derived.LoopIn
import Derived.Test.YtdeiofgddhbdaaaGreatDoorHJc
set_option linter.unusedSimpArgs false
set_option linter.unusedVariables false
set_option maxHeartbeats 4000000
set_option maxRecDepth 100000
open Go.RowKit
open Go.Lib (hid)
open Go.Proofs.Tryz
open Go.Value renaming int→vi
open Go.IntKind renaming i64→vk
namespace Go.Proofs.YtdeiofgddhbdaaaGreatDoor
section
open Go.Shelf
theorem take_gs(D:List Sp){k:Nat}(h:k<D.length):D.take (k+1)=D.take k++[gs D k]:=by
 rw[List.take_succ_eq_append_getElem h];simp[gs,h]
theorem arc_cells(W:World)(x:Sp)(t:TypeId): ∀(j:Nat) (u:Value),[vi vk x.1,vi vk x.2][j]? =some u→(W.alloc (.cells #[vi vk x.1,vi vk x.2] t)).cell? ((⟨W.heap.size,0,none⟩:Addr).add j)=some u:=fun j u hu=>by
 match j,hu with
 |0,hu=>simp at hu;subst hu;simp[Addr.add]
 |1,hu=>simp at hu;subst hu;simp[Addr.add]
 |j+2,hu=>simp at hu
theorem values1_in(F:Fence)(n:Nat)(h7:F.fn 155)(hro:F.round=none)(hn:1≤n)(l Bs n₀ b off len cap:Nat)(D:List Sp)(hlen:D.length=len)(hreach:len*16≤140737488351232)(hb:b<n₀)(J Jx:List Sp→World→Prop)
 (hY: ∀pre x W,J pre W→pre.length<len→YieldAt F (n-1) Tryz.prog l #[.agg #[vi vk x.1,vi vk x.2]] W fun e W'=>
   (e=.returned (.bool true)∧J (pre++[x]) W'∧Below n₀ W W')∨(e=.returned (.bool false)∧Jx (pre++[x]) W'))
 (W:World) (hJ:AbidesFrom W.heap.size J) (hn₀:n₀≤W.heap.size) (hBs:W.cell? ⟨Bs,0,none⟩=some (.slice (some ⟨b,off,none⟩) len cap)) (hc: ∀j,j<len→W.cell? ⟨b,off+j*2,none⟩=some (vi vk (gs D j).1)∧W.cell? ⟨b,off+j*2+1,none⟩=some (vi vk (gs D j).2)) (h0:J [] W):
 CallsIn F n Tryz.prog 155 #[.func (.yield l) #[] #[],.pointer (some ⟨Bs,0,none⟩)] W fun e W'=>(∃v,e=.returned v)∧
  ((∃ys,ys=D∧J ys W')∨(∃pre,pre <+: D∧Jx pre W')):=by
 have hsa:= @Oper.semAt_some;refine callsIn_of_wp func155 rfl h7 ?_ hro;simp only[ntmps155,List.size_toArray,List.length_cons,List.length_nil,Nat.reduceAdd,Nat.reduceSub,Array.replicate_succ,Array.replicate_zero,List.push_toArray,List.append_toArray,List.nil_append,List.cons_append];gi_wp2
 gi_loopw [7] (fun i wr=> ∃k:Nat,k≤len∧i=vi vk k∧J (D.take k) wr∧Below n₀ W wr)
  (fun i _=>len-(intOf i).toNat)
 case atStart=>exact⟨0,Nat.zero_le _,rfl,h0,Below.refl _ _⟩
 case round=>
  obtain⟨k,hk,rfl,hJs,hnx⟩:=hrel;by_cases hlt:k<len
  · obtain⟨c1,c2⟩:=hc k hlt
    have d1:=(hnx.cell (p:=⟨b,off+k*2,none⟩) hb).trans c1;have d2:=(hnx.cell (p:=⟨b,off+k*2+1,none⟩) hb).trans c2;have hJ2:=hJ _ wr (wr.alloc (.cells #[vi vk (gs D k).1,vi vk (gs D k).2] 33)) none hJs (World.grownBy_alloc wr _ none) (fun r e=>by cases e);have hnx2:=hnx.alloc (by have:=hnx.size;omega) (.cells #[vi vk (gs D k).1,vi vk (gs D k).2] 33);obtain⟨fn,tmps,assign,body,hy,hR⟩:=hY _ (gs D k) _ hJ2 (by rw[List.length_take];omega);(try dsimp only at hy)
    gi_wp2
    refine hR.mono ?_;rintro e W3 (⟨rfl,hJ3,hk3⟩|⟨rfl,hJx3⟩)
    · gi_wp2
      go_roundw
      case rel=>exact⟨k+1,om_,by simp,by rw[take_gs D om_];exact hJ3,hnx2.trans hk3⟩
      case measure=>simp[intOf];omega
    · gi_wp2
      refine bodyPost_ret (results_none rfl _ _ _) rfl ?_;exact⟨⟨_,rfl⟩,.inr ⟨_,by rw[←take_gs D om_];exact List.take_prefix _ _,hJx3⟩⟩
  · obtain rfl:k=len:=by omega
    gi_wp2
    go_end0
    exact⟨⟨_,rfl⟩,.inl ⟨_,List.take_of_length_le om_,hJs⟩⟩
theorem values_in(F:Fence)(n:Nat)(h5:F.fn 115)(hro:F.round=none)(a:Option Addr)(len cap:Nat)(w:World):
 CallsIn F n Tryz.prog 115 #[.slice a len cap] w fun e w'=>e=.returned (.func (.func 155) #[] #[.pointer (some ⟨w.heap.size,0,none⟩)])∧w'=w.alloc (.cells #[.slice a len cap] 102):=by
 refine callsIn_of_wp func115 rfl h5 ?_ hro;simp only[ntmps115,List.size_toArray,List.length_cons,List.length_nil,Nat.reduceAdd,Nat.reduceSub,Array.replicate_succ,Array.replicate_zero,List.push_toArray,List.append_toArray,List.nil_append,List.cons_append];gi_wp2
 go_ret;exact⟨rfl,rfl⟩
theorem values_stops(F:Fence)(n:Nat)(h7:F.fn 155)(hro:F.round=none)(hn:1≤n)(Bs n₀:Nat)(b off cap:Nat)(D:List Sp)(hreach:D.length*16≤140737488351232)(w:World)(hBs:Bs<w.heap.size)(hn₀:n₀≤w.heap.size)
 (hc:w.cell? ⟨Bs,0,none⟩=some (.slice (some ⟨b,off,none⟩) D.length cap)) (hb:b<n₀) (hI: ∀j,j<D.length→w.cell? ⟨b,off+j*2,none⟩=some (vi vk (gs D j).1)∧w.cell? ⟨b,off+j*2+1,none⟩=some (vi vk (gs D j).2)):
 SeqStopsK F n Tryz.prog 155 #[.pointer (some ⟨Bs,0,none⟩)] (fun x:Sp=>#[.agg #[vi vk x.1,vi vk x.2]]) (Below n₀) (fun ys=>ys=D) (fun pre=>pre <+: D) D.length w:=fun l J Jx W hW hJ _ hY h0=>
 values1_in F n h7 hro hn l Bs n₀ b off D.length cap D rfl hreach hb J Jx hY W hJ (by have:=hW.size;omega) ((hW.cell (p:=⟨Bs,0,none⟩) hBs).trans hc) (fun j hj=>⟨(hW.cell (p:=⟨b,off+j*2,none⟩) so_).trans (hI j hj).1,(hW.cell (p:=⟨b,off+j*2+1,none⟩) so_).trans (hI j hj).2⟩) h0
theorem blk_own(B:Nat)(t:TypeId)(cs:Array Value):Own (fun(_:Unit) W=>Blk W B t cs):=fun s X Y row hs hg hrow=>Blk.grown hs hg (fun e'=>by
 obtain⟨o,ho,hc⟩:=hrow B e'.symm;rw[show X.heap[B]? =_ from hs] at ho;cases ho;cases hc)
theorem appendSeq_in(F:Fence)(n:Nat)(h4:F.fn 189)(hro:F.round=none)(hn:2≤n)(g:Nat)(lb:Array Value)(hFg:F.fn g)(eg: ∀args w,(callFunc g args).run Tryz.prog w=.ok (.enter g args) w)
 (D:List Sp) (n₀:Nat) (w0 w:World) (hseq:SeqStopsK F (n-1) Tryz.prog g lb (fun x:Sp=>#[.agg #[vi vk x.1,vi vk x.2]]) (Below n₀) (fun ys=>ys=D) (fun pre=>pre <+: D) D.length w0) (hb0:Below w0.heap.size w0 w) (hn₀:n₀≤w.heap.size) (hlen:D.length≤100000):
 CallsIn F n Tryz.prog 189 #[.slice none 0 0,.func (.func g) #[] lb] w fun e W'=> ∃v,e=.returned v∧W'.ownsRow w.heap.size 33 2 v D.length (spvs D)∧Below w.heap.size w W':=by
 have h1:1≤n:=by omega
 have hsa:= @Oper.semAt_some;obtain⟨i0,hi,hz0,hz1,hz2⟩: ∃i0,Tryz.prog.info? 33=some i0∧i0.zero=some (.agg #[vi vk 0,vi vk 0])∧i0.size=2∧i0.bytes=16:=by
  have h:(Tryz.prog.info? 33).map (fun i=>(i.zero,i.size,i.bytes))=some (some (.agg #[vi vk 0,vi vk 0]),2,16):=by kernel_rfl
  obtain⟨i0,a,b,c,d⟩:=info_parts h;exact⟨i0,a,b,c,d⟩
 refine callsIn_of_wp_marks func189 rfl h4 ?_ hro;simp only[ntmps189,List.size_toArray,List.length_cons,List.length_nil,Nat.reduceAdd,Nat.reduceSub,Array.replicate_succ,Array.replicate_zero,List.push_toArray,List.append_toArray,List.nil_append,List.cons_append];gi_wp2
 have bO:=Boxed.new w 102 (.slice none 0 0);have hB0:Below w.heap.size w (w.alloc (.cells #[.slice none 0 0] 102)):=(Below.refl _ w).alloc (Nat.le_refl _) _;have hsz:(w.alloc (.cells #[.slice none 0 0] 102)).heap.size=w.heap.size+1:=by simp
 obtain⟨W0,hW0⟩: ∃W0,w.alloc (.cells #[.slice none 0 0] 102)=W0:=⟨_,rfl⟩;rw[hW0] at bO hB0 hsz⊢;clear hW0;refine wpIn_rangeFunc_ownH hro h1 (gf:=g) (lb:=lb) rfl hFg eg hseq belowK_t (belowK_b om_) (hb0.trans (hB0.mono hb0.size)) (fun _=>rfl)
  (fun pre W=>(∃v,Boxed W w.heap.size 102 v∧W.ownsRow w.heap.size 33 2 v pre.length (spvs pre)∧True)∧Below w.heap.size w W)
  (fun _ _ _=>False)
  (OwnFrom.and (Own.from (holdsRow_own w.heap.size w.heap.size 102 33 2 (fun pre:List Sp=>pre.length) (fun pre=>spvs pre) (fun _ _=>True)) _) (ownFrom_below (Nat.le_refl _) om_))
  (fun _ _ _ _ _ hs _ _=>hs)
  ⟨⟨_,bO,World.ownsRow_nil _ _ _ _,trivial⟩,hB0⟩
  (fun x a' W=> ∃Bx,w.heap.size<Bx∧Blk W Bx 33 #[vi vk x.1,vi vk x.2]∧a'={tmps:=#[.slice none 0 0,.func (.func g) #[] lb,.pointer (some ⟨w.heap.size,0,none⟩),undef,.slice none 0 0,.pointer (some ⟨Bx,0,none⟩),.func (.func g) #[] lb,.agg #[vi vk x.1,vi vk x.2],undef,undef,undef,undef,undef],defers:=[]})
  (fun x a' _ X Y row hs hg hr=>by obtain⟨Bx,h1,h2,h3⟩:=hs;exact⟨Bx,h1,blk_own Bx 33 #[vi vk x.1,vi vk x.2] () X Y row h2 hg (fun r e=>(hr r e).2),h3⟩)
  ?assign ?body ?done ?stop
 case assign=>
  rintro l pre x W K ⟨⟨v,hv,hrow,-⟩,hB⟩ hK
  gi_wp2
  exact hK _ _ ((KeepsOthers.alloc _ _).from _) ((Below.refl _ W).alloc (by have:=hB.size;omega) _) ⟨⟨v,hv.alloc _,hrow.alloc _,trivial⟩,hB.alloc hB.size _⟩ ⟨W.heap.size,hv.lt,Blk.new W _ _,rfl⟩
 case body=>
  rintro l pre x a' W hl ⟨r,hr⟩ ⟨⟨v,hv,hrow,-⟩,hB⟩ ⟨Bx,hBx,bX,rfl⟩ hlt
  have hc:=hv.cell;have x0:=bX.cell 0;have x1:=bX.cell 1;simp only[List.getElem?_toArray,List.getElem?_cons_zero,List.getElem?_cons_succ] at x0 x1;gi_wp2_with (gi_at_builtin;refine wpListIn_append_own _ rfl _ _ 102 rfl w.heap.size 33 i0 (.agg #[vi vk 0,vi vk 0]) 2 16 underlying102 hi hz0 hz1 hz2 rfl dc_ _ _ _ rfl (hrow.alloc _) ⟨W.heap.size,0,none⟩ 1 1 [vi vk x.1,vi vk x.2] rfl rfl (arc_cells _ _ _) (by simp[Value.oneCell']) (by simp only[maxLen];omega) om_ (by have:=hB.size;simp;omega) ?_;intro v' w1 hown' hgrow _;obtain⟨g',cap',rfl⟩:=ownsRow_succ hown';obtain⟨hv1,hv2,hr2,hk2,hb2⟩:=hv.appended dc_ hrow hB.size (Nat.le_refl _) hown' hgrow;have hc1:=hv1.cell;have hf1:=hv1.frozen)
  exact⟨hk2.from _,hb2.mono hn₀,⟨_,hv2,by simpa [spvs_append,spvs,spv] using hr2,trivial⟩,hB.trans hb2⟩
 case done=>
  rintro D' ys W hD rfl ⟨⟨v,hv,hrow,-⟩,hB⟩ hK
  have hc:=hv.cell;gi_wp2
  refine⟨by simp,.inl ⟨_,_,rfl,run_takeDeferred hK,?_⟩⟩;exact⟨_,results_tmp rfl _ _ _,v,rfl,ownsRow_putObj hrow _ hK rfl,hB.trans (belowK_b (w:=w) (Nat.le_refl _) W D' _ _ om_ hK rfl rfl)⟩
 case stop=>
  rintro D' c pre W _ _ h _
  exact h.elim
theorem collect_in(F:Fence)(n:Nat)(h6:F.fn 153)(h4:F.fn 189)(hro:F.round=none)(hn:3≤n)(g:Nat)(lb:Array Value)(hFg:F.fn g)(eg: ∀args w,(callFunc g args).run Tryz.prog w=.ok (.enter g args) w)
 (D:List Sp) (n₀:Nat) (w0 w:World) (hseq:SeqStopsK F (n-1-1) Tryz.prog g lb (fun x:Sp=>#[.agg #[vi vk x.1,vi vk x.2]]) (Below n₀) (fun ys=>ys=D) (fun pre=>pre <+: D) D.length w0) (hb0:Below w0.heap.size w0 w) (hn₀:n₀≤w.heap.size) (hlen:D.length≤100000):
 CallsIn F n Tryz.prog 153 #[.func (.func g) #[] lb] w fun e W'=> ∃v,e=.returned v∧W'.ownsRow w.heap.size 33 2 v D.length (spvs D)∧Below w.heap.size w W':=by
 have h1:1≤n:=by omega
 have e4:=enters_of func189 (by kernel_rfl) rfl;refine callsIn_of_wp func153 rfl h6 ?_ hro;simp only[ntmps153,List.size_toArray,List.length_cons,List.length_nil,Nat.reduceAdd,Nat.reduceSub,Array.replicate_succ,Array.replicate_zero,List.push_toArray,List.append_toArray,List.nil_append,List.cons_append];gi_wp2_with (gi_at_call 189;refine(appendSeq_in F (n-1) h4 hro om_ g lb hFg eg D n₀ w0 _ hseq hb0 hn₀ hlen).mono ?_;rintro e w' ⟨v,rfl,hrow,hb⟩)
 go_ret;exact⟨v,rfl,hrow,hb⟩
end
section
open Go.Sort Go.Shelf
def cmpA(x y:Sp):Int:=Lib.compareInt x.1 y.1
theorem arcCmp_any(x y:Sp)(W:World):Calls Tryz.prog 116 #[.agg #[vi vk x.1,vi vk x.2],.agg #[vi vk y.1,vi vk y.2]] W fun e w'=>e=.returned (vi vk (cmpA x y))∧ ∃q os',w'=grow (W.drewN q) os':=by
 have C1:=fun W=>compare_any x.1 y.1 W;unfold cmpA;generalize Lib.compareInt x.1 y.1=u at C1⊢;have C1:=hid C1;go_enter func116,ntmps116;go_wp2_with (go_at_call 117;refine(C1.out _).mono ?_;rintro e w' ⟨rfl,rfl⟩);go_ret;refine⟨rfl,0,#[.cells #[vi vk x.1,vi vk x.2] 33,.cells #[vi vk y.1,vi vk y.2] 33],?_⟩;rw[alloc_eq_grow,alloc_eq_grow,grow_grow];rfl
theorem ltOf_cmpA(x y:Sp):ltOf cmpA x y=decide (x.1<y.1):=by
 unfold ltOf cmpA Lib.compareInt;by_cases h1:x.1<y.1
 · simp[h1]
 · by_cases h2:y.1<x.1<;>simp[h1,h2]
theorem swo_cmpA:SWO (ltOf cmpA) where
 irrefl x:=by rw[ltOf_cmpA];simp
 trans x y z h1 h2:=by rw[ltOf_cmpA] at*;simp only[decide_eq_true_eq] at*;omega
 ntrans x y z h1 h2:=by rw[ltOf_cmpA] at*;simp only[decide_eq_false_iff_not] at*;omega
theorem sortArc_any(base:Nat)(v:Value)(D:List Sp)(w:World)(h:w.ownsRow base 33 2 v D.length (spvs D))(hn:D.length<4611686018427387904)(h0:0<D.length):
 Calls Tryz.prog 154 #[v,.func (.func 116) #[] #[]] w fun e w'=>e=.returned (.tuple #[])∧(∃D':List Sp,D'.Perm D∧(∀i j,i<j→j<D'.length→(gs D' i).1≤(gs D' j).1)∧w'.ownsRow base 33 2 v D.length (spvs D'))∧w.grownBy w' v.ownBlock:=by
 obtain⟨g,cap,rfl,hg,hlt⟩:=h.form h0;have eg: ∀args w,(callFunc 116 args).run Tryz.prog w=.ok (.enter 116 args) w:=enters_of func116 (by kernel_rfl) rfl;have hH:HoldsK spv 2 w g 0 D.toArray:=by
  intro j hj;rw[flat2] at hj⊢;rcases h.2 with ⟨h1,_⟩|⟨g',cap',cur,hv,_,hh,hnc,hcm,hcs,htk⟩
  · cases h1
  · injection hv with e1 e2 e3
    injection e1 with e1
    injection e1 with e1
    subst e1;have hj':j<(spvs D).length:=by simpa using hj
    have hc:cur[j]? =some ((spvs D)[j]):=by
     have:=congrArg (·[j]?) htk;simp only[List.getElem?_take] at this;rw[spvs_length] at hj';rw[if_pos hj'] at this;rw[spvs_length] at*;rw[Array.getElem?_toList] at this;rw[this,List.getElem?_eq_getElem]
    refine⟨?_,?_⟩
    · simp[World.cell?,hh,hc,hj']
    · simp[World.frozen?,hh]
 have hcon:=AnyQ.slices_SortFunc Tryz.sortArc 2 Tryz.isAgg33 Tryz.sizeOf33 spv (fun _=>rfl) (fun x v hv=>spv_one x v hv) cmpA swo_cmpA 116 #[] g 0 cap D.toArray w eg (fun _ _ _ _ x y=>arcCmp_any x y _) hH hlt (by simpa using hn);change Calls Tryz.prog 154 _ _ _ at hcon;simp only[List.size_toArray] at hcon;refine hcon.mono ?_;rintro e w' ⟨rfl,d',m,os,⟨hsz,-,hperm⟩,hso,rfl⟩
 have hsz':d'.size=D.length:=by simpa using hsz
 have hp:d'.toList.Perm D:=by
  have e1:d'.extract 0 D.length=d':=by rw[←hsz'];exact Array.extract_size
  have e2:D.toArray.extract 0 D.length=D.toArray:=by
   have:D.length=D.toArray.size:=by simp
   rw[this];exact Array.extract_size
  rw[e1,e2] at hperm;simpa using hperm
 have hF:=flat2 d'.toList;rw[Array.toArray_toList] at hF;have hl:d'.toList.length=D.length:=by simpa using hsz'
 have hr:=own_row w base _ 2 D.length cap g m _ (flatK spv 2 d') os h (by rw[hF];simp[spvs_length,hl]);refine⟨rfl,⟨d'.toList,hp,fun i j hij hj=>?_,?_⟩,hr.2⟩
 · have hj':j<d'.size:=by simpa using hj
   have:=hso i j (Nat.zero_le _) hij om_;rw[ltOf_cmpA,decide_eq_false_iff_not] at this;have g1:gs d'.toList i=d'[i]! :=by simp[gs,show i<d'.size by omega]
   have g2:gs d'.toList j=d'[j]! :=by simp[gs,hj']
   rw[g1,g2];omega
 · have e:spvs d'.toList=(flatK spv 2 d').toList:=by rw[hF]
   rw[e];exact hr.1
theorem sorted_any(Bs b off cap:Nat)(D:List Sp)(w:World)(h0:0<D.length)(hlen:D.length≤100000)(hBs:Bs<w.heap.size)(hc:w.cell? ⟨Bs,0,none⟩=some (.slice (some ⟨b,off,none⟩) D.length cap))(hb:b<w.heap.size)
 (hI: ∀j,j<D.length→w.cell? ⟨b,off+j*2,none⟩=some (vi vk (gs D j).1)∧w.cell? ⟨b,off+j*2+1,none⟩=some (vi vk (gs D j).2)):
 Calls Tryz.prog 114 #[.func (.func 155) #[] #[.pointer (some ⟨Bs,0,none⟩)],.func (.func 116) #[] #[]] w fun e w'=> ∃(v:Value) (D':List Sp),e=.returned v∧D'.Perm D∧(∀i j,i<j→j<D'.length→(gs D' i).1≤(gs D' j).1)∧w'.ownsRow w.heap.size 33 2 v D.length (spvs D')∧Below w.heap.size w w':=by
 have hseq:=values_stops Fence.wide 4 trivial rfl om_ Bs w.heap.size b off cap D om_ w hBs (Nat.le_refl _) hc hb hI;have KC:=hid (callsIn_wide.1 (collect_in Fence.wide 6 trivial trivial rfl om_ _ _ trivial (enters_of func155 (by kernel_rfl) rfl) D w.heap.size w w hseq (Below.refl _ _) (Nat.le_refl _) hlen));have KS:=hid (fun v W h=>sortArc_any w.heap.size v D W h om_ h0);obtain⟨N,hN⟩: ∃N,N=D.length:=⟨_,rfl⟩;have HN:=hid hN;rw[←hN];rw[←hN] at KC KS;clear hseq hI hc hlen h0 hN;go_enter func114,ntmps114;go_wp2_with fail;(with_reducible refine KC.out.mono ?_)
 rintro e w1 ⟨v,rfl,hrow,hb1⟩
 obtain⟨A1,c1,rfl,-,-,-⟩:=own_form hrow;have HROW:=hid hrow;have HB1:=hid hb1;clear hrow hb1;go_wp2_with fail;(with_reducible refine(KS.out _ _ HROW.out).mono ?_)
 rintro e w2 ⟨rfl,⟨D',hp,hs,hrow2⟩,hg⟩
 go_wp2;go_ret;exact⟨_,D',rfl,hp,hs,hrow2,HB1.out.grown hg HB1.out.size (own_base HROW.out)⟩
end
section
structure K2(W:World)(g:Nat)(a b:Int):Prop where
 lt:g<W.heap.size
 c0:W.cell? ⟨g,0,none⟩=some (vi vk a)
 c1:W.cell? ⟨g,1,none⟩=some (vi vk b)
 f0:W.frozen? ⟨g,0,none⟩=false
 f1:W.frozen? ⟨g,1,none⟩=false
section
variable {W W':World} {g:Nat} {a b:Int}
theorem K2.below{B:Nat}(h:K2 W g a b)(hb:Below B W W')(hB:g<B):K2 W' g a b:=
 ⟨Nat.lt_of_lt_of_le h.lt hb.size,(hb.cell (p:=⟨g,0,none⟩) hB).trans h.c0,(hb.cell (p:=⟨g,1,none⟩) hB).trans h.c1,(hb.frozen (p:=⟨g,0,none⟩) hB).trans h.f0,(hb.frozen (p:=⟨g,1,none⟩) hB).trans h.f1⟩
theorem K2.alloc(h:K2 W g a b)(o:Obj):K2 (W.alloc o) g a b:=h.below (bl_alloc W o) h.lt
theorem K2.new(W:World)(a b:Int)(t:TypeId):K2 (W.alloc (.cells #[vi vk a,vi vk b] t)) W.heap.size a b:=⟨by simp,by simp,by simp,by simp,by simp⟩
theorem K2.far(h:K2 W g a b){p:Addr}(hp:g≠p.block)(u:Value):K2 (W.setCell p u) g a b:=by
 have hne: ∀i,p≠(⟨g,i,none⟩:Addr):=fun i e=>hp (by rw[e]);refine⟨by simpa using h.lt,?_,?_,?_,?_⟩
 · rw[World.cell?_setCell_other _ _ _ _ (hne 0)];exact h.c0
 · rw[World.cell?_setCell_other _ _ _ _ (hne 1)];exact h.c1
 · simpa using h.f0
 · simpa using h.f1
theorem K2.set0(h:K2 W g a b)(v:Int):K2 (W.setCell ⟨g,0,none⟩ (vi vk v)) g v b:=by
 refine⟨by simpa using h.lt,World.cell?_setCell_same _ _ _ h.c0,?_,by simpa using h.f0,by simpa using h.f1⟩;rw[World.cell?_setCell_other _ _ _ _ (by simp)];exact h.c1
theorem K2.set1(h:K2 W g a b)(v:Int):K2 (W.setCell ⟨g,1,none⟩ (vi vk v)) g a v:=by
 refine⟨by simpa using h.lt,?_,World.cell?_setCell_same _ _ _ h.c1,by simpa using h.f0,by simpa using h.f1⟩;rw[World.cell?_setCell_other _ _ _ _ (by simp)];exact h.c0
end
def wdt(D:List Sp)(a:Int)(k:Nat):Int:=(D.take k).foldl (fun w b=>max w ((b.1-a)%21600000+b.2-b.1)) 0
def OkA(D:List Sp):Prop:= ∀x∈D,-10800000≤x.1∧x.1≤10800000∧x.1≤x.2∧x.2≤x.1+21600000
theorem wdt_succ(D:List Sp)(a:Int)(k:Nat)(hk:k<D.length):wdt D a (k+1)=max (wdt D a k) (((gs D k).1-a)%21600000+(gs D k).2-(gs D k).1):=by
 unfold wdt;rw[List.take_succ_eq_append_getElem hk,List.foldl_append];simp[gs,hk]
theorem wdt_bd(D:List Sp)(a:Int)(hD:OkA D)(k:Nat)(hk:k≤D.length):0≤wdt D a k∧wdt D a k<43200000:=by
 induction k with
 |zero=>simp[wdt]
 |succ k ih=>
  have h:=ih om_;rw[wdt_succ D a k om_]
  have:=hD (gs D k) (by have:k<D.length:=by omega
                        simp[gs,this])
  omega
def isAll(x:Sp):Bool:=aeq x.1 x.2 (-10800000) 10800000
def stepA(D:List Sp)(s:Sp×Int)(a:Sp):Sp×Int:=if wdt D a.1 D.length<s.2∨(wdt D a.1 D.length=s.2∧wdt D a.1 D.length<21600000∧a.1<s.1.1) then((a.1,a.1+wdt D a.1 D.length),wdt D a.1 D.length) else s
def foldA(D:List Sp)(k:Nat):Sp×Int:=(D.take k).foldl (stepA D) (((-10800000:Int),(10800000:Int)),(21600000:Int))
def arnd(D:List Sp):Sp:=(foldA D (D.findIdx isAll)).1
theorem foldA_succ(D:List Sp)(k:Nat)(hk:k<D.length):foldA D (k+1)=stepA D (foldA D k) (gs D k):=by
 unfold foldA;rw[List.take_succ_eq_append_getElem hk,List.foldl_append];simp[gs,hk]
theorem foldA_bd(D:List Sp)(hD:OkA D)(k:Nat)(hk:k≤D.length): -10800000≤(foldA D k).1.1∧(foldA D k).1.1≤10800000∧0≤(foldA D k).2∧(foldA D k).2≤21600000:=by
 induction k with
 |zero=>simp[foldA]
 |succ k ih=>
  have h:=ih om_;rw[foldA_succ D k om_]
  have h1:=hD (gs D k) (by have:k<D.length:=by omega
                           simp[gs,this])
  have h2:=wdt_bd D (gs D k).1 hD D.length (Nat.le_refl _);unfold stepA;split
  · simp only[]
    omega
  · exact h
theorem fixArnd_any(A:Option Addr)(n c:Nat)(D:List Sp)(w:World)(hr:Reads w w.heap.size 2 A n (spvs D))(hn:n≤100000)(hD:OkA D):
 Calls Tryz.prog 125 #[.slice A n c] w fun e w'=>e=.returned (.agg #[vi vk (arnd D).1,vi vk (arnd D).2])∧Below w.heap.size w w':=by
 have HL:Hid (D.length=n):=hid (by have:=hr.1;rw[spvs_length] at this;omega);have HR:=hid hr;have HD:=hid hD;have KE:=hid everywhere_any;have KA:=hid all_any;obtain⟨⟨r0,r1⟩,hR⟩: ∃R,R=arnd D:=⟨_,rfl⟩;rw[←hR];have HRR:=hid hR;clear hr hD hR;go_enter func125,ntmps125;go_wp2_with fail;(with_reducible refine(KE.out _).mono ?_)
 rintro e w1 ⟨rfl,hb1⟩
 have Z1:=hid ((K2.new w 0 0 33).below hb1 (by simp));have B1:=hid ((((Below.refl w.heap.size w).alloc (Nat.le_refl _) (.cells #[vi vk 0,vi vk 0] 33)).trans (hb1.mono (by simp))));have hlt1:=(Z1.out).lt;have N1:=hid (K2.new w1 (-10800000) 10800000 33);have Z2:=hid (Z1.out.alloc (.cells #[vi vk (-10800000),vi vk 10800000] 33));have B2:=hid (B1.out.alloc (by have:=B1.out.size;omega) (.cells #[vi vk (-10800000),vi vk 10800000] 33));clear Z1 B1 hb1 KE;go_wp2;go_loopw [4,13] (fun v i wr=> ∃k:Nat,k≤n∧i=vi vk k∧v=vi vk (foldA D k).2∧(∀j,j<k→isAll (gs D j)=false)∧K2 wr w.heap.size 0 0∧K2 wr w1.heap.size (foldA D k).1.1 (foldA D k).1.2∧Below w.heap.size w wr) (fun _ i _=>n-(intOf i).toNat)
 case atStart=>exact⟨0,Nat.zero_le _,rfl,rfl,fun j hj=>by omega,Z2.out,N1.out,B2.out⟩
 case round=>
  obtain⟨k,hk,rfl,rfl,hno,hZ,hN,hbr⟩:=hrel;clear Z2 N1 B2;have HZ:=hid hZ;have HN:=hid hN;have HNO:=hid hno;clear hZ hN hno;by_cases hlt:k<n
  · obtain⟨b,off,rfl,hb,x0,x1⟩:=SReads.elem HR.out hlt
    have y0:=(hbr.cell (p:=⟨b,off+k*2,none⟩) hb).trans x0;have y1:=(hbr.cell (p:=⟨b,off+k*2+1,none⟩) hb).trans x1;clear x0 x1
    have hdk:=HD.out (gs D k) (by have hkl:k<D.length:=by rw[HL.out];exact hlt
                                  simp[gs,hkl])
    have HF:=hid (foldA_succ D k (by rw[HL.out];exact hlt));have HFB:=hid (foldA_bd D HD.out k (by rw[HL.out];omega));obtain⟨x,hx⟩: ∃x,x=gs D k:=⟨_,rfl⟩;rw[←hx] at y0 y1 hdk HF;have HX:=hid hx;clear hx;obtain⟨p,q⟩:=x;simp only[] at y0 y1 hdk HF;obtain⟨⟨⟨s0,s1⟩,s2⟩,hs⟩: ∃s,s=foldA D k:=⟨_,rfl⟩;rw[←hs] at HF HN HFB;simp only[←hs];have HS:=hid hs;clear hs;simp only[] at HF HN HFB;have hz:=hbr.size;go_wp2_with fail;(with_reducible refine(KA.out p q _).mono ?_)
    rintro e w2 ⟨rfl,hb2⟩
    have HA2:=hid ((K2.new wr p q 33).below hb2 (by simp));have HZ2:=hid ((HZ.out.alloc (.cells #[vi vk p,vi vk q] 33)).below hb2 (by have:=HZ.out.lt;simp;omega));have HN2:=hid ((HN.out.alloc (.cells #[vi vk p,vi vk q] 33)).below hb2 (by have:=HN.out.lt;simp;omega));have b2:=(hbr.alloc hz (.cells #[vi vk p,vi vk q] 33)).trans (hb2.mono (by simp;omega));have ln:=HN.out.lt;have lz:=HZ.out.lt;clear hb2 HZ HN hbr y0 y1;generalize wr.heap.size=g6 at*;cases hall:aeq p q (-10800000) 10800000 with
    |true=>
     have hfi:D.findIdx isAll=k:=by
      have hkl:k<D.length:=by rw[HL.out];exact hlt
      rw[List.findIdx_eq hkl];refine⟨?_,fun j hj=>?_⟩
      · have:D[k]=gs D k:=by simp[gs,hkl]
        rw[this,←HX.out];exact hall
      · have hjl:j<D.length:=by omega
        have:D[j]=gs D j:=by simp[gs,hjl]
        rw[this];exact HNO.out j hj
     have hres:arnd D=(s0,s1):=by unfold arnd;rw[hfi,←HS.out]
     obtain⟨rfl,rfl⟩:=Prod.mk.inj (HRR.out.trans hres);obtain⟨zt,z0,z1,zf0,zf1⟩:=HZ2.out;obtain⟨nt,n0,n1,-,-⟩:=HN2.out;go_wp2;refine bodyPost_ret (v:=.agg #[vi vk r0,vi vk r1]) (by simp[results,results125,go_sem, *];done) rfl ⟨rfl,?_⟩;exact(b2.setCell (by simp) _).setCell (by simp) _
    |false=>
     have HNO2:Hid (∀j,j<k+1→isAll (gs D j)=false):=hid (fun j hj=>by
      by_cases hjk:j<k
      · exact HNO.out j hjk
      · obtain rfl:j=k:=by omega
        rw[←HX.out];exact hall)
     go_wp2;go_loopw [7,22] (fun v i wq=> ∃j:Nat,j≤n∧i=vi vk j∧v=vi vk (wdt D p j)∧K2 wq w.heap.size 0 0∧K2 wq w1.heap.size s0 s1∧K2 wq g6 p q∧Below w.heap.size w wq) (fun _ i _=>n-(intOf i).toNat)
     case atStart=>exact⟨0,Nat.zero_le _,rfl,rfl,HZ2.out,HN2.out,HA2.out,b2⟩
     case round=>
      obtain⟨j,hj,rfl,rfl,hZ,hN,hA,hbq⟩:=hrel;clear HZ2 HN2 HA2 b2;have HZ:=hid hZ;have HN:=hid hN;have HA:=hid hA;clear hZ hN hA;by_cases hjt:j<n
      · obtain⟨b',off',e,hb',x0,x1⟩:=SReads.elem HR.out hjt
        cases e
        have y0:=(hbq.cell (p:=⟨b,off+j*2,none⟩) hb).trans x0;have y1:=(hbq.cell (p:=⟨b,off+j*2+1,none⟩) hb).trans x1;clear x0 x1
        have hdj:=HD.out (gs D j) (by have hkl:j<D.length:=by rw[HL.out];exact hjt
                                      simp[gs,hkl])
        have HW:=hid (wdt_succ D p j (by rw[HL.out];exact hjt));have HWB:=wdt_bd D p HD.out j (by rw[HL.out];omega);generalize gs D j=x at y0 y1 hdj HW;obtain⟨u,v⟩:=x;simp only[] at y0 y1 hdj HW;have KB:=hid (fun W=>beyond_any p q u W om_ om_ om_ om_);have hm:0≤(u-p)%21600000∧(u-p)%21600000<21600000:=by omega
        generalize (u-p)%21600000=m at*;generalize wdt D p j=t at*;have n1:wrap64 (m+v)=m+v:=IntWalk.wrap64_in _ om_;have n2:wrap64 (m+v-u)=m+v-u:=IntWalk.wrap64_in _ om_;have hz2:=hbq.size;go_upto_region 12 with (fail)
        obtain⟨WW,hWW⟩: ∃W,W=wr.alloc (.cells #[vi vk u,vi vk v] 33):=⟨_,rfl⟩;have HU:=K2.new wr u v 33;have HA3:=HA.out.alloc (.cells #[vi vk u,vi vk v] 33);have HZ3:=hid (HZ.out.alloc (.cells #[vi vk u,vi vk v] 33));have HN3:=hid (HN.out.alloc (.cells #[vi vk u,vi vk v] 33));have b3:=hbq.alloc hz2 (.cells #[vi vk u,vi vk v] 33);rw[←hWW] at HU HA3 HZ3 HN3 b3⊢;have c0: ∀s:BV WW,s.w.cell? ⟨g6,0,none⟩=some (vi vk p):=fun s=>(HA3.below s.hb HA3.lt).c0;have c1: ∀s:BV WW,s.w.cell? ⟨g6,1,none⟩=some (vi vk q):=fun s=>(HA3.below s.hb HA3.lt).c1;have c2: ∀s:BV WW,s.w.cell? ⟨wr.heap.size,0,none⟩=some (vi vk u):=fun s=>(HU.below s.hb HU.lt).c0;have c3: ∀s:BV WW,s.w.cell? ⟨wr.heap.size,1,none⟩=some (vi vk v):=fun s=>(HU.below s.hb HU.lt).c1;have HA4:=hid HA3;clear HU HA3 hWW y0 y1 HA HZ HN hbq;refine wp_region_bv WW (by kernel_rfl) (by kernel_rfl) (Below.refl _ _) ?_;(repeat (go_big_quiet_step (first|(go_at_call 168;with_reducible exact quiet_bv (KB.out _))|fail)))
        refine wpQuiet_nil ?_;intro w9 hb9;clear c0 c1 c2 c3;go_wp2;go_roundw
        case rel=>exact⟨j+1,om_,by go_num,by rw[HW.out],HZ3.out.below hb9 HZ3.out.lt,HN3.out.below hb9 HN3.out.lt,HA4.out.below hb9 HA4.out.lt,b3.trans (hb9.mono b3.size)⟩
        case measure=>simp[intOf];omega
      · obtain rfl:j=n:=by omega
        have hwb:=wdt_bd D p HD.out j (by rw[HL.out];exact Nat.le_refl _);have HF2:Hid (foldA D (k+1)=if wdt D p j<s2∨(wdt D p j=s2∧wdt D p j<21600000∧p<s0) then((p,p+wdt D p j),wdt D p j) else((s0,s1),s2)):=hid (by rw[HF.out];unfold stepA;rw[HL.out]);generalize wdt D p j=t at*;have hfb:=HFB.out;have n3:wrap64 (p+t)=p+t:=IntWalk.wrap64_in _ om_;have hzq:=hbq.size;obtain⟨nt,e0,e1,ef0,ef1⟩:=HN.out;obtain⟨gt1,a0,a1,-,-⟩:=HA.out;by_cases hc:t<s2∨(t=s2∧t<21600000∧p<s0)
        · rw[if_pos hc] at HF2
          rcases hc with c1|⟨c1,c2,c3⟩
          · go_wp2
            go_roundw
            case rel=>exact⟨k+1,om_,by go_num,by rw[HF2.out],HNO2.out,(HZ.out.far so_ _).far so_ _,by rw[HF2.out];exact(HN.out.set0 p).set1 (p+t),(hbq.setCell so_ _).setCell so_ _⟩
            case measure=>simp[intOf];omega
          · subst c1
            go_wp2;go_roundw
            case rel=>exact⟨k+1,om_,by go_num,by rw[HF2.out],HNO2.out,(HZ.out.far so_ _).far so_ _,by rw[HF2.out];exact(HN.out.set0 p).set1 (p+t),(hbq.setCell so_ _).setCell so_ _⟩
            case measure=>simp[intOf];omega
        · rw[if_neg hc] at HF2
          have c1: ¬t<s2:=fun h=>hc (.inl h);by_cases c2:t=s2
          · subst c2
            by_cases c3:t<21600000
            · have c4: ¬p<s0:=fun h=>hc (.inr ⟨rfl,c3,h⟩)
              clear hc;go_wp2;go_roundw
              case rel=>exact⟨k+1,om_,by go_num,by rw[HF2.out],HNO2.out,HZ.out,by rw[HF2.out];exact HN.out,hbq⟩
              case measure=>simp[intOf];omega
            · clear hc
              go_wp2;go_roundw
              case rel=>exact⟨k+1,om_,by go_num,by rw[HF2.out],HNO2.out,HZ.out,by rw[HF2.out];exact HN.out,hbq⟩
              case measure=>simp[intOf];omega
          · clear hc
            go_wp2;go_roundw
            case rel=>exact⟨k+1,om_,by go_num,by rw[HF2.out],HNO2.out,HZ.out,by rw[HF2.out];exact HN.out,hbq⟩
            case measure=>simp[intOf];omega
  · obtain rfl:k=n:=by omega
    have hres:arnd D=(foldA D k).1:=by
     unfold arnd;rw[List.findIdx_eq_length.2 (fun x hx=>?_),HL.out];obtain⟨j,hj,rfl⟩:=List.getElem_of_mem hx;have:D[j]=gs D j:=by simp[gs,hj]
     rw[this];exact HNO.out j (by rw[←HL.out];exact hj)
    have hres2:=HRR.out.trans hres;generalize foldA D k=s at*;obtain⟨⟨s0,s1⟩,s2⟩:=s;simp only[] at HN hres2;obtain⟨rfl,rfl⟩:=Prod.mk.inj hres2;obtain⟨zt,z0,z1,zf0,zf1⟩:=HZ.out;obtain⟨nt,n0,n1,-,-⟩:=HN.out;go_wp2;refine bodyPost_ret (v:=.agg #[vi vk r0,vi vk r1]) (by simp[results,results125,go_sem, *];done) rfl ⟨rfl,?_⟩;exact(hbr.setCell (by simp) _).setCell (by simp) _
end
end Go.Proofs.YtdeiofgddhbdaaaGreatDoor
