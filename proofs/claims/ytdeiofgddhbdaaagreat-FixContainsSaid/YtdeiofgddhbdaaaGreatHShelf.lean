/- The walk of cover. -/
import Derived.Shelf.SlGeneric
import Derived.Shelf.SlSortCmp.WholeK
import Derived.Shelf.SlSortCmp.NoneTotal
import Derived.Ground.SlsfProg
import Derived.Shelf.Sort.Plain
import Derived.Shelf.Slices.In.SortNone
import Derived.Test.YtdeiofgddhbdaaaGreatHWd
set_option linter.unusedSimpArgs false
set_option linter.unusedVariables false
set_option maxHeartbeats 4000000
set_option maxRecDepth 100000
open Go.RowKit
open Go.Lib (hid)
open Go.Proofs.Tryz
open Go.Value renaming int→vi
open Go.IntKind renaming i64→vk
namespace Go.Proofs.YtdeiofgddhbdaaaGreat
end Go.Proofs.YtdeiofgddhbdaaaGreat
namespace Go.Proofs
open YtdeiofgddhbdaaaGreat (om_ dc_ so_)
open Go.Shelf
def Tryz.sortSpan_ren:Go.Shelf.Ren:=⟨fun|6=>71|15=>110|14=>111|28=>153|29=>154|20=>155|21=>156|22=>157|23=>158|24=>159|25=>160|26=>161|27=>162|46=>194|47=>190|48=>191|49=>195|50=>196|57=>220|n=>n,fun|22=>84|24=>115|25=>123|3=>3|39=>92|0=>0|53=>187|55=>189|4=>4|46=>179|45=>178|50=>184|5=>5|9=>9|66=>215|70=>219|76=>230|77=>231|n=>n,fun|n=>n⟩
theorem Tryz.sortSpan:Go.Proofs.SlLaysF0.n6 Tryz.prog Tryz.sortSpan_ren:={
 mixed:=by kernel_rfl
 f6:=⟨Tryz.f71.name,dc_,Tryz.func71.trans (congrArg some (by kernel_rfl))⟩
 f14:=⟨Tryz.f111.name,dc_,Tryz.func111.trans (congrArg some (by kernel_rfl))⟩
 f15:=Tryz.func110.trans (congrArg some (by kernel_rfl))
 f20:=⟨Tryz.f155.name,dc_,Tryz.func155.trans (congrArg some (by kernel_rfl))⟩
 f21:=⟨Tryz.f156.name,dc_,Tryz.func156.trans (congrArg some (by kernel_rfl))⟩
 f22:=⟨Tryz.f157.name,dc_,Tryz.func157.trans (congrArg some (by kernel_rfl))⟩
 f23:=⟨Tryz.f158.name,dc_,Tryz.func158.trans (congrArg some (by kernel_rfl))⟩
 f24:=⟨Tryz.f159.name,dc_,Tryz.func159.trans (congrArg some (by kernel_rfl))⟩
 f25:=⟨Tryz.f160.name,dc_,Tryz.func160.trans (congrArg some (by kernel_rfl))⟩
 f26:=⟨Tryz.f161.name,dc_,Tryz.func161.trans (congrArg some (by kernel_rfl))⟩
 f27:=⟨Tryz.f162.name,dc_,Tryz.func162.trans (congrArg some (by kernel_rfl))⟩
 f28:=Tryz.func153.trans (congrArg some (by kernel_rfl))
 f29:=Tryz.func154.trans (congrArg some (by kernel_rfl))
 f46:=⟨Tryz.f194.name,dc_,Tryz.func194.trans (congrArg some (by kernel_rfl))⟩
 f47:=Tryz.func190.trans (congrArg some (by kernel_rfl))
 f48:=Tryz.func191.trans (congrArg some (by kernel_rfl))
 f49:=⟨Tryz.f195.name,dc_,Tryz.func195.trans (congrArg some (by kernel_rfl))⟩
 f50:=⟨Tryz.f196.name,dc_,Tryz.func196.trans (congrArg some (by kernel_rfl))⟩
 f57:=⟨Tryz.f220.name,dc_,Tryz.func220.trans (congrArg some (by kernel_rfl))⟩
 t0:=underlying0
 a0:=Tryz.isAgg0
 z0:=Tryz.sizeOf0
 v0:=Tryz.zeroValue0
 t3:=underlying3
 a3:=Tryz.isAgg3
 z3:=Tryz.sizeOf3
 v3:=Tryz.zeroValue3
 t4:=underlying4
 a4:=Tryz.isAgg4
 z4:=Tryz.sizeOf4
 v4:=Tryz.zeroValue4
 t5:=underlying5
 a5:=Tryz.isAgg5
 z5:=Tryz.sizeOf5
 v5:=Tryz.zeroValue5
 t9:=underlying9
 a9:=Tryz.isAgg9
 z9:=Tryz.sizeOf9
 v9:=Tryz.zeroValue9
 t22:=underlying84
 a22:=Tryz.isAgg84
 z22:=Tryz.sizeOf84
 v22:=Tryz.zeroValue84
 t25:=underlying123
 a25:=Tryz.isAgg123
 z25:=Tryz.sizeOf123
 v25:=Tryz.zeroValue123
 t39:=underlying92
 a39:=Tryz.isAgg92
 z39:=Tryz.sizeOf92
 v39:=Tryz.zeroValue92
 t45:=underlying178
 a45:=Tryz.isAgg178
 z45:=Tryz.sizeOf178
 v45:=Tryz.zeroValue178
 t46:=underlying179
 a46:=Tryz.isAgg179
 z46:=Tryz.sizeOf179
 v46:=Tryz.zeroValue179
 t50:=underlying184
 a50:=Tryz.isAgg184
 z50:=Tryz.sizeOf184
 v50:=Tryz.zeroValue184
 t53:=underlying187
 a53:=Tryz.isAgg187
 z53:=Tryz.sizeOf187
 v53:=Tryz.zeroValue187
 t55:=underlying189
 a55:=Tryz.isAgg189
 z55:=Tryz.sizeOf189
 v55:=Tryz.zeroValue189
 t66:=underlying215
 a66:=Tryz.isAgg215
 z66:=Tryz.sizeOf215
 v66:=Tryz.zeroValue215
 t70:=underlying219
 a70:=Tryz.isAgg219
 z70:=Tryz.sizeOf219
 v70:=Tryz.zeroValue219
 t76:=underlying230
 a76:=Tryz.isAgg230
 z76:=Tryz.sizeOf230
 v76:=Tryz.zeroValue230
 t77:=underlying231
 a77:=Tryz.isAgg231
 z77:=Tryz.sizeOf231
 v77:=Tryz.zeroValue231}
def Tryz.sortArc_ren:Go.Shelf.Ren:=⟨fun|6=>164|15=>110|14=>198|28=>153|29=>154|20=>221|21=>222|22=>223|23=>224|24=>225|25=>226|26=>227|27=>228|46=>242|47=>190|48=>191|49=>243|50=>244|57=>260|n=>n,fun|22=>125|24=>31|25=>154|3=>3|39=>92|0=>0|53=>187|55=>189|4=>4|46=>179|45=>178|50=>184|5=>5|9=>9|66=>215|70=>219|76=>230|77=>231|n=>n,fun|n=>n⟩
theorem Tryz.sortArc:Go.Proofs.SlLaysF0.n6 Tryz.prog Tryz.sortArc_ren:={
 mixed:=by kernel_rfl
 f6:=⟨Tryz.f164.name,dc_,Tryz.func164.trans (congrArg some (by kernel_rfl))⟩
 f14:=⟨Tryz.f198.name,dc_,Tryz.func198.trans (congrArg some (by kernel_rfl))⟩
 f15:=Tryz.func110.trans (congrArg some (by kernel_rfl))
 f20:=⟨Tryz.f221.name,dc_,Tryz.func221.trans (congrArg some (by kernel_rfl))⟩
 f21:=⟨Tryz.f222.name,dc_,Tryz.func222.trans (congrArg some (by kernel_rfl))⟩
 f22:=⟨Tryz.f223.name,dc_,Tryz.func223.trans (congrArg some (by kernel_rfl))⟩
 f23:=⟨Tryz.f224.name,dc_,Tryz.func224.trans (congrArg some (by kernel_rfl))⟩
 f24:=⟨Tryz.f225.name,dc_,Tryz.func225.trans (congrArg some (by kernel_rfl))⟩
 f25:=⟨Tryz.f226.name,dc_,Tryz.func226.trans (congrArg some (by kernel_rfl))⟩
 f26:=⟨Tryz.f227.name,dc_,Tryz.func227.trans (congrArg some (by kernel_rfl))⟩
 f27:=⟨Tryz.f228.name,dc_,Tryz.func228.trans (congrArg some (by kernel_rfl))⟩
 f28:=Tryz.func153.trans (congrArg some (by kernel_rfl))
 f29:=Tryz.func154.trans (congrArg some (by kernel_rfl))
 f46:=⟨Tryz.f242.name,dc_,Tryz.func242.trans (congrArg some (by kernel_rfl))⟩
 f47:=Tryz.func190.trans (congrArg some (by kernel_rfl))
 f48:=Tryz.func191.trans (congrArg some (by kernel_rfl))
 f49:=⟨Tryz.f243.name,dc_,Tryz.func243.trans (congrArg some (by kernel_rfl))⟩
 f50:=⟨Tryz.f244.name,dc_,Tryz.func244.trans (congrArg some (by kernel_rfl))⟩
 f57:=⟨Tryz.f260.name,dc_,Tryz.func260.trans (congrArg some (by kernel_rfl))⟩
 t0:=underlying0
 a0:=Tryz.isAgg0
 z0:=Tryz.sizeOf0
 v0:=Tryz.zeroValue0
 t3:=underlying3
 a3:=Tryz.isAgg3
 z3:=Tryz.sizeOf3
 v3:=Tryz.zeroValue3
 t4:=underlying4
 a4:=Tryz.isAgg4
 z4:=Tryz.sizeOf4
 v4:=Tryz.zeroValue4
 t5:=underlying5
 a5:=Tryz.isAgg5
 z5:=Tryz.sizeOf5
 v5:=Tryz.zeroValue5
 t9:=underlying9
 a9:=Tryz.isAgg9
 z9:=Tryz.sizeOf9
 v9:=Tryz.zeroValue9
 t22:=underlying125
 a22:=Tryz.isAgg125
 z22:=Tryz.sizeOf125
 v22:=Tryz.zeroValue125
 t25:=underlying154
 a25:=Tryz.isAgg154
 z25:=Tryz.sizeOf154
 v25:=Tryz.zeroValue154
 t39:=underlying92
 a39:=Tryz.isAgg92
 z39:=Tryz.sizeOf92
 v39:=Tryz.zeroValue92
 t45:=underlying178
 a45:=Tryz.isAgg178
 z45:=Tryz.sizeOf178
 v45:=Tryz.zeroValue178
 t46:=underlying179
 a46:=Tryz.isAgg179
 z46:=Tryz.sizeOf179
 v46:=Tryz.zeroValue179
 t50:=underlying184
 a50:=Tryz.isAgg184
 z50:=Tryz.sizeOf184
 v50:=Tryz.zeroValue184
 t53:=underlying187
 a53:=Tryz.isAgg187
 z53:=Tryz.sizeOf187
 v53:=Tryz.zeroValue187
 t55:=underlying189
 a55:=Tryz.isAgg189
 z55:=Tryz.sizeOf189
 v55:=Tryz.zeroValue189
 t66:=underlying215
 a66:=Tryz.isAgg215
 z66:=Tryz.sizeOf215
 v66:=Tryz.zeroValue215
 t70:=underlying219
 a70:=Tryz.isAgg219
 z70:=Tryz.sizeOf219
 v70:=Tryz.zeroValue219
 t76:=underlying230
 a76:=Tryz.isAgg230
 z76:=Tryz.sizeOf230
 v76:=Tryz.zeroValue230
 t77:=underlying231
 a77:=Tryz.isAgg231
 z77:=Tryz.sizeOf231
 v77:=Tryz.zeroValue231}
def Tryz.sortInt_ren:Go.Shelf.Ren:=⟨fun|189=>67|125=>110|257=>109|128=>153|129=>154|294=>144|295=>145|296=>146|297=>147|298=>148|299=>149|216=>150|300=>151|301=>152|328=>189|329=>190|330=>191|331=>192|332=>193|215=>112|343=>219|n=>n,fun|28=>112|3=>3|46=>92|0=>0|51=>187|53=>189|4=>4|183=>179|182=>178|131=>184|5=>5|9=>9|218=>215|222=>219|228=>230|229=>231|n=>n,fun|n=>n⟩
theorem Tryz.sortInt:Go.Proofs.Lays.n189 Tryz.prog Tryz.sortInt_ren:={
 mixed:=by kernel_rfl
 f125:=Tryz.func110.trans (congrArg some (by kernel_rfl))
 f128:=Tryz.func153.trans (congrArg some (by kernel_rfl))
 f129:=Tryz.func154.trans (congrArg some (by kernel_rfl))
 f189:=Tryz.func67.trans (congrArg some (by kernel_rfl))
 f215:=Tryz.func112.trans (congrArg some (by kernel_rfl))
 f216:=Tryz.func150.trans (congrArg some (by kernel_rfl))
 f257:=Tryz.func109.trans (congrArg some (by kernel_rfl))
 f294:=Tryz.func144.trans (congrArg some (by kernel_rfl))
 f295:=Tryz.func145.trans (congrArg some (by kernel_rfl))
 f296:=Tryz.func146.trans (congrArg some (by kernel_rfl))
 f297:=Tryz.func147.trans (congrArg some (by kernel_rfl))
 f298:=Tryz.func148.trans (congrArg some (by kernel_rfl))
 f299:=Tryz.func149.trans (congrArg some (by kernel_rfl))
 f300:=Tryz.func151.trans (congrArg some (by kernel_rfl))
 f301:=Tryz.func152.trans (congrArg some (by kernel_rfl))
 f328:=Tryz.func189.trans (congrArg some (by kernel_rfl))
 f329:=Tryz.func190.trans (congrArg some (by kernel_rfl))
 f330:=Tryz.func191.trans (congrArg some (by kernel_rfl))
 f331:=Tryz.func192.trans (congrArg some (by kernel_rfl))
 f332:=Tryz.func193.trans (congrArg some (by kernel_rfl))
 f343:=Tryz.func219.trans (congrArg some (by kernel_rfl))
 t0:=underlying0
 a0:=Tryz.isAgg0
 z0:=Tryz.sizeOf0
 v0:=Tryz.zeroValue0
 t3:=underlying3
 a3:=Tryz.isAgg3
 z3:=Tryz.sizeOf3
 v3:=Tryz.zeroValue3
 t4:=underlying4
 a4:=Tryz.isAgg4
 z4:=Tryz.sizeOf4
 v4:=Tryz.zeroValue4
 t5:=underlying5
 a5:=Tryz.isAgg5
 z5:=Tryz.sizeOf5
 v5:=Tryz.zeroValue5
 t9:=underlying9
 a9:=Tryz.isAgg9
 z9:=Tryz.sizeOf9
 v9:=Tryz.zeroValue9
 t28:=underlying112
 a28:=Tryz.isAgg112
 z28:=Tryz.sizeOf112
 v28:=Tryz.zeroValue112
 t46:=underlying92
 a46:=Tryz.isAgg92
 z46:=Tryz.sizeOf92
 v46:=Tryz.zeroValue92
 t51:=underlying187
 a51:=Tryz.isAgg187
 z51:=Tryz.sizeOf187
 v51:=Tryz.zeroValue187
 t53:=underlying189
 a53:=Tryz.isAgg189
 z53:=Tryz.sizeOf189
 v53:=Tryz.zeroValue189
 t131:=underlying184
 a131:=Tryz.isAgg184
 z131:=Tryz.sizeOf184
 v131:=Tryz.zeroValue184
 t182:=underlying178
 a182:=Tryz.isAgg178
 z182:=Tryz.sizeOf178
 v182:=Tryz.zeroValue178
 t183:=underlying179
 a183:=Tryz.isAgg179
 z183:=Tryz.sizeOf179
 v183:=Tryz.zeroValue179
 t218:=underlying215
 a218:=Tryz.isAgg215
 z218:=Tryz.sizeOf215
 v218:=Tryz.zeroValue215
 t222:=underlying219
 a222:=Tryz.isAgg219
 z222:=Tryz.sizeOf219
 v222:=Tryz.zeroValue219
 t228:=underlying230
 a228:=Tryz.isAgg230
 z228:=Tryz.sizeOf230
 v228:=Tryz.zeroValue230
 t229:=underlying231
 a229:=Tryz.isAgg231
 z229:=Tryz.sizeOf231
 v229:=Tryz.zeroValue231}
end Go.Proofs
namespace Go.Proofs.YtdeiofgddhbdaaaGreat
section
open Go.Sort Go.Shelf
abbrev Sp:=Int×Int
def spv(x:Sp):List Value:=[vi vk x.1,vi vk x.2]
def spvs(D:List Sp):List Value:=D.flatMap spv
theorem spvs_length(D:List Sp):(spvs D).length=D.length*2:=by
 induction D with
 |nil=>rfl
 |cons x r ih=>simp[spvs,spv] at ih⊢;omega
theorem spvs_append(L M:List Sp):spvs (L++M)=spvs L++spvs M:=by simp[spvs]
theorem spv_one(x:Sp): ∀u∈spv x,u.oneCell'=true:=by
 intro u hu;simp[spv] at hu;rcases hu with rfl|rfl<;>rfl
def gs(L:List Sp)(k:Nat):Sp:=L.getD k (0,0)
theorem spvs_at(L:List Sp)(k:Nat)(hk:k<L.length):(spvs L)[k*2]? =some (vi vk (gs L k).1)∧(spvs L)[k*2+1]? =some (vi vk (gs L k).2):=by
 induction L generalizing k with
 |nil=>simp at hk
 |cons x r ih=>
  have hc:spvs (x::r)=vi vk x.1::vi vk x.2::spvs r:=rfl;rw[hc];match k with
  |0=>simp[gs]
  |k+1=>
   have:=ih k (by simpa using hk);have e1:(k+1)*2=k*2+2:=by omega
   have e2:(k+1)*2+1=(k*2+1)+2:=by omega
   rw[e2,e1];simpa [gs] using this
theorem ltOf_cmpS(x y:Sp):ltOf cmpS x y=decide (x.1<y.1∨x.1=y.1∧y.2<x.2):=by
 unfold ltOf cmpS orI Lib.compareInt;by_cases h1:x.1<y.1
 · simp[h1]
 · by_cases h2:y.1<x.1
   · have: ¬x.1=y.1:=by omega
     simp[h1,h2,this]
   · have h3:x.1=y.1:=by omega
     by_cases h4:y.2<x.2
     · simp[h3,h4]
     · by_cases h5:x.2<y.2<;>simp[h3,h4,h5]
theorem swo_cmpS:SWO (ltOf cmpS) where
 irrefl x:=by rw[ltOf_cmpS];simp
 trans x y z h1 h2:=by rw[ltOf_cmpS] at*;simp only[decide_eq_true_eq] at*;omega
 ntrans x y z h1 h2:=by rw[ltOf_cmpS] at*;simp only[decide_eq_false_iff_not] at*;omega
theorem total_cmpS(x y:Sp)(h1:ltOf cmpS x y=false)(h2:ltOf cmpS y x=false):x=y:=by
 rw[ltOf_cmpS] at*;simp only[decide_eq_false_iff_not] at*;exact Prod.ext om_ om_
def sortS(D:List Sp):List Sp:=D.mergeSort fun x y=> !(ltOf cmpS) y x
theorem sortS_length(D:List Sp):(sortS D).length=D.length:=List.length_mergeSort _
theorem flat2(D:List Sp):flatK spv 2 D.toArray=(spvs D).toArray:=by
 refine ext_get! (by simp[spvs_length]) fun t ht=>?_;have ht':t<D.toArray.size*2:=by simpa using ht
 rw[get_flatK _ _ _ _ ht'];have hk:t/2<D.length:=by simp at ht';omega
 obtain⟨a1,a2⟩:=spvs_at D (t/2) hk;have hg:D.toArray[t/2]! =gs D (t/2):=by simp[gs,hk]
 rw[hg];rcases Nat.mod_two_eq_zero_or_one t with h|h
 · have e:t/2*2=t:=by omega
   rw[e] at a1;simp[spv,a1,h]
 · have e:t/2*2+1=t:=by omega
   rw[e] at a2;simp[spv,a2,h]
theorem own_row(w:World)(base:Nat)(t:TypeId)(size n cap g m:Nat)(xs:List Value)(F:Array Value)(os:Array Obj)(h:w.ownsRow base t size (.slice (some ⟨g,0,none⟩) n cap) n xs)(hF:F.size=n*size):
 (grow (putRow id (Sort.ahead w m) g 0 F) os).ownsRow base t size (.slice (some ⟨g,0,none⟩) n cap) n F.toList∧w.grownBy (grow (putRow id (Sort.ahead w m) g 0 F) os) (some g):=by
 rcases h.2 with ⟨h1,_⟩|⟨g',cap',cur,hv,hg,hh,hnc,hcm,hcs,htk⟩
 · cases h1
 · injection hv with e1 e2 e3
   injection e1 with e1
   injection e1 with e1
   subst e1 e3;have hlt:g<w.heap.size:=by
    rcases Nat.lt_or_ge g w.heap.size with hlt|hge
    · exact hlt
    · rw[Array.getElem?_eq_none hge] at hh;cases hh
   have hnew:(grow (putRow id (Sort.ahead w m) g 0 F) os).heap[g]? =some (.cells (putCells id 0 F cur) t (0,0)):=by
    rw[heap_grow_old _ _ (by simpa using hlt)];simp[putRow,mapBlock,Array.getElem?_modify,hh,onCells]
   refine⟨⟨by simpa using hF,.inr ⟨g,cap,putCells id 0 F cur,rfl,hg,hnew,hnc,hcm,by simpa [putCells] using hcs,?_⟩⟩,⟨rfl,rfl,rfl,by simp,fun i hi hne=>?_⟩⟩
   · apply List.ext_getElem?
     intro i;rw[List.getElem?_take];by_cases hi:i<n*size
     · have h2:n*size≤cap*size:=Nat.mul_le_mul_right _ hnc
       simp[hi,putCells,hF,hcs,show i<cap*size by omega]
     · simp only[hi,if_false]
       rw[List.getElem?_eq_none];simp[hF];omega
   · rw[heap_grow_old _ _ (by simpa using hi)]
     have hne': ¬g=i:=fun e=>hne (by rw[e]);simp[putRow,mapBlock,Array.getElem?_modify,hne']
theorem sortSpan_any(base:Nat)(v:Value)(D:List Sp)(w:World)(h:w.ownsRow base 115 2 v D.length (spvs D))(hn:D.length<4611686018427387904):
 Calls Tryz.prog 71 #[v,.func (.func 72) #[] #[]] w fun e w'=>e=.returned (.tuple #[])∧w'.ownsRow base 115 2 v D.length (spvs (sortS D))∧w.grownBy w' v.ownBlock:=by
 rcases Nat.eq_zero_or_pos D.length with h0|h0
 · have hD:D=[]:=List.eq_nil_of_length_eq_zero h0
   subst hD;have hs:sortS []=[]:=by simp[sortS]
   rw[hs];obtain⟨A,c,rfl,_⟩:=own_form h;have hcon:=AnyF.slices_SortFunc_none Tryz.sortSpan A c (.func (.func 72) #[] #[]) w;change Calls Tryz.prog 71 _ _ _ at hcon;refine hcon.mono ?_;rintro e w' ⟨rfl,rfl⟩
   exact⟨rfl,h,World.grownBy.refl _ _⟩
 · obtain⟨g,cap,rfl,hg,hlt⟩:=h.form h0
   have eg: ∀args w,(callFunc 72 args).run Tryz.prog w=.ok (.enter 72 args) w:=enters_of func72 (by kernel_rfl) rfl;have hH:HoldsK spv 2 w g 0 D.toArray:=by
    intro j hj;rw[flat2] at hj⊢;rcases h.2 with ⟨h1,_⟩|⟨g',cap',cur,hv,_,hh,hnc,hcm,hcs,htk⟩
    · cases h1
    · injection hv with e1 e2 e3
      injection e1 with e1
      injection e1 with e1
      subst e1;have hj':j<(spvs D).length:=by simpa using hj
      have hc:cur[j]? =some ((spvs D)[j]):=by
       have:=congrArg (·[j]?) htk;simp only[List.getElem?_take] at this;rw[spvs_length] at hj';rw[if_pos hj'] at this;rw[spvs_length] at*;rw[Array.getElem?_toList] at this;rw[this,List.getElem?_eq_getElem]
      refine⟨?_,?_⟩
      · simp[World.cell?,hh,hc,hj']
      · simp[World.frozen?,hh]
   have hcon:=AnyQ.slices_SortFunc_total Tryz.sortSpan 2 Tryz.isAgg115 Tryz.sizeOf115 spv (fun _=>rfl) (fun x v hv=>spv_one x v hv) cmpS swo_cmpS 72 #[] g 0 cap D.toArray w eg (fun _ _ _ _ x y=>coverCmp_any x y _) hH hlt (by simpa using hn) total_cmpS;change Calls Tryz.prog 71 _ _ _ at hcon;simp only[List.size_toArray] at hcon;refine hcon.mono ?_;rintro e w' ⟨rfl,m,os,rfl⟩
   have hF:=flat2 (sortS D);have hr:=own_row w base _ 2 D.length cap g m _ (flatK spv 2 (sortS D).toArray) os h (by simp[sortS_length]);refine⟨rfl,?_,hr.2⟩;have e:spvs (sortS D)=(flatK spv 2 (sortS D).toArray).toList:=by rw[hF]
   rw[e];exact hr.1
end
section
open Go.Sort
def spI(x:Cl):Sp:=((spF x:Int),(spT x:Int))
theorem spanOf_any(x:Cl)(w:World)(hv:vldB x.1 x.2.1 x.2.2=true):
 Calls Tryz.prog 70 #[.agg #[vi vk x.1,vi vk x.2.1,vi vk x.2.2]] w fun e w'=>e=.returned (.agg #[vi vk (spI x).1,vi vk (spI x).2])∧Below w.heap.size w w':=by
 obtain⟨h0,h1,h2,h3,h4,h5⟩:=vldB_true.1 hv;obtain⟨l,r,c⟩:=x;obtain⟨l,rfl⟩:=Int.eq_ofNat_of_zero_le h0;obtain⟨r,rfl⟩:=Int.eq_ofNat_of_zero_le h2;obtain⟨c,rfl⟩:=Int.eq_ofNat_of_zero_le h4;simp only[pw,Int.toNat_natCast] at h3 h5;simp only[] at h1;exact spanOf_nat l r c w om_ (by exact_mod_cast h3) (by exact_mod_cast h5)
def mrg(out:List Sp)(s:Sp):List Sp:=
 match out.getLast? with
 |some t=>if s.1≤t.2 then out.dropLast++[(t.1,max t.2 s.2)] else out++[s]
 |none=>[s]
def mergeS(D:List Sp):List Sp:=D.foldl mrg []
def coverL(L:List Cl):List Sp:=mergeS (sortS (L.map spI))
theorem mergeS_snoc(D:List Sp)(s:Sp):mergeS (D++[s])=mrg (mergeS D) s:=by simp[mergeS]
theorem mrg_length(out:List Sp)(s:Sp):(mrg out s).length≤out.length+1:=by
 unfold mrg;cases h:out.getLast? with
 |none=>simp
 |some t=>
  simp only[];split
  · simp
  · simp
theorem mergeS_length(D:List Sp):(mergeS D).length≤D.length:=by
 have: ∀(D out:List Sp),(D.foldl mrg out).length≤out.length+D.length:=by
  intro D;induction D with
  |nil=>intro out;simp
  |cons x r ih=>
   intro out;have h1:=ih (mrg out x);have h2:=mrg_length out x;simp only[List.foldl_cons,List.length_cons];omega
 simpa [mergeS] using this D []
def SpOk(D:List Sp):Prop:= ∀s∈D,0≤s.1∧s.1<s.2∧s.2≤8589934592
def RetSpans(w:World)(D:List Sp)(e:Ending)(w':World):Prop:=
 ∃v,e=.returned v∧w'.ownsRow w.heap.size 115 2 v D.length (spvs D)∧Below w.heap.size w w'
theorem Tryz.infoSpan:(Tryz.prog.info? 115).map (fun i=>(i.zero,i.size,i.bytes))=some (some (.agg #[vi vk 0,vi vk 0]),2,16):=by kernel_rfl
theorem sreads_new(w:World)(a b:Int)(t:TypeId):Reads (w.alloc (.cells #[vi vk a,vi vk b] t)) (w.heap.size+1) 2 (some ⟨w.heap.size,0,none⟩) 1 (spv (a,b)):=by
 refine⟨rfl,fun _=>⟨_,rfl,by simp,fun j u hu=>?_⟩⟩;match j,hu with
 |0,hu=>simp[spv] at hu;subst hu;simp[Addr.add]
 |1,hu=>simp[spv] at hu;subst hu;simp[Addr.add]
 |j+2,hu=>simp[spv] at hu
theorem map_take_snoc(L:List Cl)(k:Nat)(hk:k<L.length):spvs ((L.take (k+1)).map spI)=spvs ((L.take k).map spI)++spv (spI (gt L k)):=by
 rw[List.take_succ_eq_append_getElem hk,List.map_append,spvs_append];simp[gt,hk,spvs]
theorem SReads.elem{w:World}{B n:Nat}{A:Option Addr}{D:List Sp}(h:Reads w B 2 A n (spvs D)){k:Nat}(hk:k<n):
 ∃b off,A=some ⟨b,off,none⟩∧b<B∧w.cell? ⟨b,off+k*2,none⟩=some (vi vk (gs D k).1)∧w.cell? ⟨b,off+k*2+1,none⟩=some (vi vk (gs D k).2):=by
 have hl:D.length=n:=by have:=h.1;rw[spvs_length] at this;omega
 obtain⟨ad,rfl,hb,hc⟩:=h.2 om_;obtain⟨b,off,spot⟩:=ad;obtain⟨z1,_⟩:=spvs_at D 0 om_;have hspot:spot=none:=by simpa [Addr.add] using World.cell?_spot (hc 0 _ (by simpa using z1))
 subst hspot;obtain⟨y1,y2⟩:=spvs_at D k om_;refine⟨b,off,rfl,hb,?_,?_⟩
 · have:=hc _ _ y1;rw[Go.WideShapes.add_plain] at this;exact this
 · have:=hc _ _ y2;rw[Go.WideShapes.add_plain] at this;exact this
theorem mergeS_take(S:List Sp)(k:Nat)(hk:k<S.length):mergeS (S.take (k+1))=mrg (mergeS (S.take k)) (gs S k):=by
 rw[List.take_succ_eq_append_getElem hk,mergeS_snoc];simp[gs,hk]
theorem mrg_nil(s:Sp):mrg [] s=[s]:=rfl
theorem mrg_in(M:List Sp)(t s:Sp)(h:s.1≤t.2):mrg (M++[t]) s=M++[(t.1,max t.2 s.2)]:=by simp[mrg,h]
theorem mrg_out(M:List Sp)(t s:Sp)(h: ¬s.1≤t.2):mrg (M++[t]) s=(M++[t])++[s]:=by simp[mrg,h]
theorem snoc_cases(M:List Sp):M=[]∨ ∃M' t,M=M'++[t]:=by
 rcases List.eq_nil_or_concat M with h|⟨M',t,h⟩
 · exact .inl h
 · exact .inr ⟨M',t,by simpa using h⟩
theorem spvs_last(M:List Sp)(t:Sp):(spvs (M++[t]))[M.length*2]? =some (vi vk t.1)∧(spvs (M++[t]))[M.length*2+1]? =some (vi vk t.2):=by
 have:=spvs_at (M++[t]) M.length (by simp);simpa [gs] using this
theorem spvs_set(M:List Sp)(t:Sp)(u:Int):(spvs (M++[t])).set (M.length*2+1) (vi vk u)=spvs (M++[(t.1,u)]):=by
 rw[spvs_append,spvs_append,←spvs_length M];rw[List.set_append_right _ _ om_];simp[spvs,spv]
theorem cover_any(A:Option Addr)(n c:Nat)(L:List Cl)(w:World)(hr:Reads w w.heap.size 3 A n (cvs L))(hn:n≤16000)(hv: ∀x∈L,vldB x.1 x.2.1 x.2.2=true):
 Calls Tryz.prog 37 #[.slice A n c] w (RetSpans w (coverL L)):=by
 have HL:=hid hr.len;have HR:=hid hr;have HV:=hid hv;clear hr hv;obtain⟨i0,hi0,hz0,hz1,hzb⟩:=info_parts Tryz.infoSpan;go_enter func37,ntmps37;go_wp2;go_loopw [3,12] (fun v i wr=> ∃k:Nat,k≤n∧i=vi vk k∧wr.ownsRow w.heap.size 115 2 v k (spvs ((L.take k).map spI))∧Below w.heap.size w wr) (fun _ i _=>n-(intOf i).toNat)
 case atStart=>exact⟨0,Nat.zero_le _,rfl,own_nil _ _ _ _,Below.refl _ _⟩
 case round=>
  obtain⟨k,hk,rfl,hown,hbr⟩:=hrel;by_cases hlt:k<n
  · obtain⟨b,off,rfl,hb,x1,x2,x3⟩:=HR.out.elem hlt
    have y1:=(hbr.cell (p:=⟨b,off+k*3,none⟩) hb).trans x1;have y2:=(hbr.cell (p:=⟨b,off+k*3+1,none⟩) hb).trans x2;have y3:=(hbr.cell (p:=⟨b,off+k*3+2,none⟩) hb).trans x3;clear x1 x2 x3;have hms:=hid (map_take_snoc L k (by rw[HL.out];exact hlt));have hs:=hid (fun W=>spanOf_any (gt L k) W (HV.out _ (by simp[gt,show k<L.length by rw[HL.out];exact hlt])));generalize gt L k=x at y1 y2 y3 hms hs;obtain⟨xl,xr,xc⟩:=x;generalize spI (xl,xr,xc)=s at hms hs;obtain⟨sf,st⟩:=s;simp only[] at y1 y2 y3 hms hs;have hz:=hbr.size;go_wp2_with (first|(go_at_call 70;refine(hs.out _).mono ?_;rintro e w1 ⟨rfl,hb1⟩;have hw1:=one_lt hb1;have hbl1:=one_bl hb1;have hown1:=own_bl hown hbl1 (Nat.le_refl _))|(at_builtin;(refine wpList_append_any _ rfl (.tmp 16) (.tmp 19) _ rfl w.heap.size 115 i0 _ 2 16 underlying84 hi0 hz0 hz1 hzb rfl dc_ u3 k (spvs ((L.take k).map spI)) rfl (hown1.alloc _) (w1.heap.size+1) (some ⟨w1.heap.size,0,none⟩) 1 1 (spv (sf,st)) rfl (sreads_new w1 _ _ _) (spv_one _) (by simp only[maxLen];omega) om_ (by simp;omega) ?_);intro v2 w2 hown2 hg2 hat2));go_roundw
    case rel=>exact⟨k+1,om_,by go_num,by rw[hms.out];exact hown2,((hbr.trans (hbl1.mono hz)).alloc om_ _).grown hg2 (by simp;omega) (own_base hown)⟩
    case measure=>simp[intOf];omega
  · have hkn:k=n:=by omega
    subst hkn;rw[List.take_of_length_le (by rw[HL.out];omega)] at hown;have hlen:k=(L.map spI).length:=by simp[HL.out]
    have hC:coverL L=mergeS (sortS (L.map spI)):=rfl;generalize L.map spI=D at hown hlen hC;subst hlen;have HC:=hid hC;clear hC;clear HR HV HL;obtain⟨A3,c3,hu3,-,-⟩:=own_form hown;subst hu3;have hS:=hid (sortSpan_any w.heap.size _ D wr hown om_);have hz:=hbr.size;go_wp2_with (go_at_call 71;refine hS.out.mono ?_;rintro e w2 ⟨rfl,hown2,hg2⟩);have hb2:Below w.heap.size w w2:=hbr.grown hg2 hz (own_base hown);have HS:=hid (Reads.of_own hown2);have hl2:=sortS_length D;clear hS hown hg2 hbr;generalize sortS D=S at hown2 HS hl2 HC;clear hown2;go_loopw [6,26] (fun v i wq=> ∃k:Nat,k≤D.length∧i=vi vk k∧wq.ownsRow w2.heap.size 115 2 v (mergeS (S.take k)).length (spvs (mergeS (S.take k)))∧Below w2.heap.size w2 wq) (fun _ i _=>D.length-(intOf i).toNat)
    case atStart=>exact⟨0,Nat.zero_le _,rfl,own_nil _ _ _ _,Below.refl _ _⟩
    case round=>
     obtain⟨k,hk,rfl,hown,hbr⟩:=hrel;have hz2:=hbr.size;have hzz:=hb2.size;by_cases hlt:k<D.length
     · obtain⟨b,off,rfl,hb,x1,x2⟩:=SReads.elem HS.out hlt
       have y1:=(hbr.cell (p:=⟨b,off+k*2,none⟩) hb).trans x1;have y2:=(hbr.cell (p:=⟨b,off+k*2+1,none⟩) hb).trans x2;clear x1 x2;have hms:=hid (mergeS_take S k om_);have hMl:(mergeS (S.take k)).length≤16000:=by
        have h1:=mergeS_length (S.take k);have h2:(S.take k).length≤k:=List.length_take_le _ _;omega
       generalize gs S k=s at y1 y2 hms;obtain⟨sf,st⟩:=s;simp only[] at y1 y2;generalize mergeS (S.take k)=M at hown hms hMl;rcases snoc_cases M with rfl|⟨M',t,rfl⟩
       · obtain⟨A4,c4,hu4,-,-⟩:=own_form hown
         subst hu4;simp only[List.length_nil] at hown hMl⊢;go_wp2;go_quiet (fail);have hown5:((wr.alloc (.cells #[vi vk sf,vi vk st] 115)).drewN nq).ownsRow w2.heap.size 115 2 (.slice A4 0 c4) 0 []:=hown.alloc _;have hsz5:wr.heap.size<((wr.alloc (.cells #[vi vk sf,vi vk st] 115)).drewN nq).heap.size:=by simp
         have q51:((wr.alloc (.cells #[vi vk sf,vi vk st] 115)).drewN nq).cell? ⟨wr.heap.size,0,none⟩=some (vi vk sf):=by simp
         have q52:((wr.alloc (.cells #[vi vk sf,vi vk st] 115)).drewN nq).cell? ⟨wr.heap.size,1,none⟩=some (vi vk st):=by simp
         have hb5:Below w2.heap.size w2 ((wr.alloc (.cells #[vi vk sf,vi vk st] 115)).drewN nq):=bl_drewN (hbr.alloc hz2 _) _;generalize (wr.alloc (.cells #[vi vk sf,vi vk st] 115)).drewN nq=w5 at hown5 hsz5 q51 q52 hb5⊢;go_wp2_with (at_builtin;(refine wpList_append_any _ rfl (.tmp 59) (.tmp 61) _ rfl w2.heap.size 115 i0 _ 2 16 underlying84 hi0 hz0 hz1 hzb rfl dc_ (.slice A4 0 c4) 0 [] rfl (hown5.alloc _) (w5.heap.size+1) (some ⟨w5.heap.size,0,none⟩) 1 1 (spv (sf,st)) rfl (sreads_new w5 _ _ _) (spv_one _) (by simp only[maxLen];omega) om_ (by simp;omega) ?_);intro v2 w3 hown3 hg3 hat3);go_roundw
         case rel=>exact⟨k+1,om_,by go_num,by rw[hms.out,mrg_nil];exact hown3,(hb5.alloc om_ _).grown hg3 (by simp;omega) (own_base hown5)⟩
         case measure=>simp[intOf];omega
       · obtain⟨g,cap,hu4,hg,hgl⟩:=hown.form (by simp)
         subst hu4;obtain⟨tf,tt⟩:=t;have hle:(M'++[(tf,tt)]).length=M'.length+1:=by simp
         rw[hle] at hown hMl⊢;obtain⟨p1,p2⟩:=spvs_last M' (tf,tt);obtain⟨q1,q1'⟩:=own_cell hown _ _ p1;obtain⟨q2,q2'⟩:=own_cell hown _ _ p2;simp only[] at q1 q2;clear p1 p2;have s1:IntKind.i64.wrap ((M'.length:Int)+1-1)=(M'.length:Int):=by rw[show(M'.length:Int)+1-1=(M'.length:Int) by omega];exact IntWalk.i64_in _ om_
         have s1':IntKind.i64.wrap (M'.length:Int)=(M'.length:Int):=IntWalk.i64_in _ (by clear s1;omega);have s2:(0:Int)<(M'.length:Int)+1:=by clear s1 s1';omega
         have s3:(M'.length:Int)<(M'.length:Int)+1:=by clear s1 s1';omega
         by_cases hst:sf≤tt
         · have hmi:=hid (mrg_in M' (tf,tt) (sf,st) hst)
           go_wp2;go_quiet (fail);have hown5:((wr.alloc (.cells #[vi vk sf,vi vk st] 115)).drewN nq).ownsRow w2.heap.size 115 2 (.slice (some ⟨g,0,none⟩) (M'.length+1) cap) (M'.length+1) (spvs (M'++[(tf,tt)])):=hown.alloc _;have hsz5:wr.heap.size<((wr.alloc (.cells #[vi vk sf,vi vk st] 115)).drewN nq).heap.size:=by simp
           have q51:((wr.alloc (.cells #[vi vk sf,vi vk st] 115)).drewN nq).cell? ⟨wr.heap.size,0,none⟩=some (vi vk sf):=by simp
           have q52:((wr.alloc (.cells #[vi vk sf,vi vk st] 115)).drewN nq).cell? ⟨wr.heap.size,1,none⟩=some (vi vk st):=by simp
           have hb5:Below w2.heap.size w2 ((wr.alloc (.cells #[vi vk sf,vi vk st] 115)).drewN nq):=bl_drewN (hbr.alloc hz2 _) _;generalize (wr.alloc (.cells #[vi vk sf,vi vk st] 115)).drewN nq=w5 at hown5 hsz5 q51 q52 hb5⊢;obtain⟨p1,p2⟩:=spvs_last M' (tf,tt);obtain⟨r1,r1'⟩:=own_cell hown5 _ _ p1;obtain⟨r2,r2'⟩:=own_cell hown5 _ _ p2;simp only[] at r1 r2;clear p1 p2 q1 q1' q2 q2';have hne:wr.heap.size≠g:=by omega
           go_wp2;refine wp_still_tail 14 (by kernel_rfl) (by kernel_rfl) ?_;simp only[List.take_succ_cons,List.take_zero,List.drop_succ_cons,List.drop_zero];repeat still_step
           refine wpStill_nil ?_;go_wp2;go_roundw
           case rel=>
            have hset:=own_set hown5 (M'.length*2+1) (vi vk (max tt st)) om_;rw[spvs_set] at hset;refine⟨k+1,om_,by go_num,?_,(hb5.setCell hg _).drew⟩;rw[hms.out,hmi.out,List.length_append];exact hset
           case measure=>simp[intOf];omega
         · have hmo:=hid (mrg_out M' (tf,tt) (sf,st) hst)
           have hd:=decide_eq_false hst;go_wp2;go_quiet (fail);have hown5:((wr.alloc (.cells #[vi vk sf,vi vk st] 115)).drewN nq).ownsRow w2.heap.size 115 2 (.slice (some ⟨g,0,none⟩) (M'.length+1) cap) (M'.length+1) (spvs (M'++[(tf,tt)])):=hown.alloc _;have hsz5:wr.heap.size<((wr.alloc (.cells #[vi vk sf,vi vk st] 115)).drewN nq).heap.size:=by simp
           have q51:((wr.alloc (.cells #[vi vk sf,vi vk st] 115)).drewN nq).cell? ⟨wr.heap.size,0,none⟩=some (vi vk sf):=by simp
           have q52:((wr.alloc (.cells #[vi vk sf,vi vk st] 115)).drewN nq).cell? ⟨wr.heap.size,1,none⟩=some (vi vk st):=by simp
           have hb5:Below w2.heap.size w2 ((wr.alloc (.cells #[vi vk sf,vi vk st] 115)).drewN nq):=bl_drewN (hbr.alloc hz2 _) _;generalize (wr.alloc (.cells #[vi vk sf,vi vk st] 115)).drewN nq=w5 at hown5 hsz5 q51 q52 hb5⊢;clear q1 q1' q2 q2';go_wp2_with (at_builtin;(refine wpList_append_any _ rfl (.tmp 59) (.tmp 61) _ rfl w2.heap.size 115 i0 _ 2 16 underlying84 hi0 hz0 hz1 hzb rfl dc_ (.slice (some ⟨g,0,none⟩) (M'.length+1) cap) (M'.length+1) (spvs (M'++[(tf,tt)])) rfl (hown5.alloc _) (w5.heap.size+1) (some ⟨w5.heap.size,0,none⟩) 1 1 (spv (sf,st)) rfl (sreads_new w5 _ _ _) (spv_one _) (by simp only[maxLen];omega) om_ (by simp;omega) ?_);intro v2 w3 hown3 hg3 hat3);go_roundw
           case rel=>exact⟨k+1,om_,by go_num,by rw[hms.out,hmo.out];rw[List.length_append,hle,spvs_append];exact hown3,(hb5.alloc om_ _).grown hg3 (by simp;omega) (own_base hown5)⟩
           case measure=>simp[intOf];omega
     · have hkk:k=D.length:=by omega
       rw[hkk,List.take_of_length_le om_] at hown;go_wp2;go_ret;exact⟨_,rfl,by rw[HC.out];exact own_mono hown hzz,hb2.trans (hbr.mono hzz)⟩
end
end Go.Proofs.YtdeiofgddhbdaaaGreat
