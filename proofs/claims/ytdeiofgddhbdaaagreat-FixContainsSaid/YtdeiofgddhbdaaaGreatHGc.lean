/- The walk of place.Meet at valid places, and of fix.touch. -/
import Derived.Test.YtdeiofgddhbdaaaGreatHAl
set_option linter.unusedSimpArgs false
set_option linter.unusedVariables false
set_option maxHeartbeats 4000000
set_option maxRecDepth 100000
open Go.RowKit
open Go.Lib (hid)
open Go.Proofs.Tryz
open Go.Value renaming int→vi
open Go.IntKind renaming i64→vk
namespace Go.Proofs.YtdeiofgddhbdaaaGreat
def sgA(n:Int):Int:=if 10800000≤n%21600000 then n%21600000-21600000 else n%21600000
theorem sgA_bd(n:Int): -10800000≤sgA n∧sgA n<10800000:=by unfold sgA;omega
theorem SignedA_any(n:Int)(w:World)(h0: -1000000000000≤n)(h1:n≤1000000000000):Calls Tryz.prog 41 #[vi vk n] w fun e w'=>e=.returned (vi vk (sgA n))∧Below w.heap.size w w':=by
 have K:=hid (fun W=>Wrap_any n W h0 h1);have hm:0≤n%21600000∧n%21600000<21600000:=by omega
 unfold sgA;generalize n%21600000=m at*;by_cases hc:10800000≤m
 all_goals
  simp only[hc,if_true,if_false];go_enter func41,ntmps41;go_wp2_with fail;(with_reducible refine(K.out _).mono ?_)
  rintro e w1 ⟨rfl,hb1⟩
  go_wp2;go_ret;exact⟨ret_int (by first|rfl|omega),hb1⟩
theorem Tryz.infoArcG:(Tryz.prog.info? 31).map (fun i=>(i.zero,i.size,i.bytes))=some (some (.agg #[vi vk 0,vi vk 0]),2,16):=by kernel_rfl
def comP(a b:Sp)(f:Int):List Sp:=if max 0 f≤min (a.2-a.1) (f+b.2-b.1) then[(sgA (a.1+max 0 f),sgA (a.1+max 0 f)+min (a.2-a.1) (f+b.2-b.1)-max 0 f)] else[]
def comL(a b:Sp):List Sp:=if isAll a=true then[b] else if isAll b=true then[a] else comP a b ((b.1-a.1)%21600000)++comP a b ((b.1-a.1)%21600000-21600000)
theorem index20(x y:Int)(W:World):(Instr.index 228 (.agg #[vi vk x,vi vk y]) (vi vk 0)).run Tryz.prog W=.ok (vi vk x) W:=by kernel_rfl
theorem index21(x y:Int)(W:World):(Instr.index 228 (.agg #[vi vk x,vi vk y]) (vi vk 1)).run Tryz.prog W=.ok (vi vk y) W:=by kernel_rfl
theorem comP_len(a b:Sp)(f:Int):(comP a b f).length≤1:=by unfold comP;split<;>simp
def comF(a b:Sp)(f:Int):Nat→List Sp
 |0=>[]
 |1=>comP a b f
 |_=>comP a b f++comP a b (f-21600000)
theorem common_any(a0 a1 b0 b1:Int)(w:World)(ha: -10800000≤a0∧a0≤10800000∧a0≤a1∧a1≤a0+21600000)(hb: -10800000≤b0∧b0≤10800000∧b0≤b1∧b1≤b0+21600000):
 Calls Tryz.prog 184 #[.agg #[vi vk a0,vi vk a1],.agg #[vi vk b0,vi vk b1]] w fun e w'=> ∃v,e=.returned v∧w'.ownsRow w.heap.size 31 2 v (comL (a0,a1) (b0,b1)).length (spvs (comL (a0,a1) (b0,b1)))∧Below w.heap.size w w':=by
 have KA:=hid all_any;have HA:=hid ((K2.new w a0 a1 31).alloc (.cells #[vi vk b0,vi vk b1] 31));have HB:Hid (K2 ((w.alloc (.cells #[vi vk a0,vi vk a1] 31)).alloc (.cells #[vi vk b0,vi vk b1] 31)) (w.heap.size+1) b0 b1):=hid (by
  have:=K2.new (w.alloc (.cells #[vi vk a0,vi vk a1] 31)) b0 b1 31;simpa using this)
 have b0':Below w.heap.size w ((w.alloc (.cells #[vi vk a0,vi vk a1] 31)).alloc (.cells #[vi vk b0,vi vk b1] 31)):=((Below.refl _ _).alloc (Nat.le_refl _) _).alloc (by simp) _;cases h1:aeq a0 a1 (-10800000) 10800000 with
 |true=>
  have hres:comL (a0,a1) (b0,b1)=[(b0,b1)]:=by unfold comL isAll;rw[if_pos h1]
  rw[hres];go_enter func184,ntmps184;go_wp2_with fail;(with_reducible refine(KA.out _ _ _).mono ?_)
  rintro e w1 ⟨rfl,hb1⟩
  have B1:=b0'.trans (hb1.mono b0'.size);obtain⟨bt,c0,c1,-,-⟩:=HB.out.below hb1 HB.out.lt;rw[h1];go_wp2;go_ret;exact⟨_,rfl,by simpa [spvs,spv] using own_new w1 w.heap.size 31 2 1 w1.heap.size #[vi vk b0,vi vk b1] rfl B1.size (by simp) (by simp[maxLen]),B1.alloc B1.size _⟩
 |false=>
  cases h2:aeq b0 b1 (-10800000) 10800000 with
  |true=>
   have hres:comL (a0,a1) (b0,b1)=[(a0,a1)]:=by unfold comL isAll;rw[if_neg (by simp[h1]),if_pos h2]
   rw[hres];go_enter func184,ntmps184;go_wp2_with fail;(with_reducible refine(KA.out _ _ _).mono ?_)
   rintro e w1 ⟨rfl,hb1⟩
   have B1:=b0'.trans (hb1.mono b0'.size);have HA1:=hid (HA.out.below hb1 HA.out.lt);obtain⟨bt,c0,c1,-,-⟩:=HB.out.below hb1 HB.out.lt;rw[h1];clear hb1;go_wp2_with fail;(with_reducible refine(KA.out _ _ _).mono ?_)
   rintro e w2 ⟨rfl,hb2⟩
   have B2:=B1.trans (hb2.mono B1.size);clear bt c0 c1;obtain⟨bt,c0,c1,-,-⟩:=HA1.out.below hb2 HA1.out.lt;rw[h2];go_wp2;go_ret;exact⟨_,rfl,by simpa [spvs,spv] using own_new w2 w.heap.size 31 2 1 w2.heap.size #[vi vk a0,vi vk a1] rfl B2.size (by simp) (by simp[maxLen]),B2.alloc B2.size _⟩
  |false=>
   obtain⟨f,hf⟩: ∃f,f=(b0-a0)%21600000:=⟨_,rfl⟩;obtain⟨R,hR⟩: ∃R,R=comL (a0,a1) (b0,b1):=⟨_,rfl⟩;rw[←hR];have HRE:Hid (R=comP (a0,a1) (b0,b1) f++comP (a0,a1) (b0,b1) (f-21600000)):=hid (by rw[hR];unfold comL isAll;rw[if_neg (by simp[h1]),if_neg (by simp[h2]),hf]);have KB:=fun W=>beyond_any a0 a1 b0 W om_ om_ om_ om_;rw[←hf] at KB;have HKB:=hid KB;have hfb:0≤f∧f<21600000:=by omega
   clear hR hf KB;obtain⟨i0,hi0,hz0,hz1,hzb⟩:=info_parts Tryz.infoArcG;have e0:wrap64 (f-21600000)=f-21600000:=IntWalk.wrap64_in _ om_;go_enter func184,ntmps184;go_wp2_with fail;(with_reducible refine(KA.out _ _ _).mono ?_)
   rintro e w1 ⟨rfl,hb1⟩
   have B1:=b0'.trans (hb1.mono b0'.size);have HA1:=hid (HA.out.below hb1 HA.out.lt);have HB1:=hid (HB.out.below hb1 HB.out.lt);rw[h1];clear hb1 b0' HA HB;obtain⟨bt,c0,c1,-,-⟩:=HB1.out;go_wp2_with fail;(with_reducible refine(KA.out _ _ _).mono ?_)
   rintro e w2 ⟨rfl,hb2⟩
   have B2:=B1.trans (hb2.mono B1.size);have HA2:=hid (HA1.out.below hb2 HA1.out.lt);have HB2:=hid (HB1.out.below hb2 HB1.out.lt);rw[h2];clear hb2 B1 HA1 HB1 bt c0 c1;go_upto_region 6 with (fail)
   have d0: ∀s:BV w2,s.w.cell? ⟨w.heap.size,0,none⟩=some (vi vk a0):=fun s=>(HA2.out.below s.hb HA2.out.lt).c0;have d1: ∀s:BV w2,s.w.cell? ⟨w.heap.size,1,none⟩=some (vi vk a1):=fun s=>(HA2.out.below s.hb HA2.out.lt).c1;have d2: ∀s:BV w2,s.w.cell? ⟨w.heap.size+1,0,none⟩=some (vi vk b0):=fun s=>(HB2.out.below s.hb HB2.out.lt).c0;refine wp_region_bv w2 (by kernel_rfl) (by kernel_rfl) (Below.refl _ _) ?_;(repeat (go_big_quiet_step (first|(go_at_call 65;with_reducible exact quiet_bv (HKB.out _))|fail)))
   refine wpQuiet_nil ?_;intro w9 hb9;have B9:=B2.trans (hb9.mono B2.size);have HA9:=hid (HA2.out.below hb9 HA2.out.lt);have HB9:=hid (HB2.out.below hb9 HB2.out.lt);clear d0 d1 d2 hb9 B2 HA2 HB2;go_wp2;go_loopw [5,31] (fun v i wq=> ∃j:Nat,j≤2∧i=vi vk j∧wq.ownsRow (w.heap.size+2) 31 2 v (comF (a0,a1) (b0,b1) f j).length (spvs (comF (a0,a1) (b0,b1) f j))∧K2 wq w.heap.size a0 a1∧K2 wq (w.heap.size+1) b0 b1∧Below w.heap.size w wq) (fun _ i _=>2-(intOf i).toNat)
   case atStart=>exact⟨0,om_,rfl,own_nil _ _ _ _,HA9.out,HB9.out,B9⟩
   case round=>
    obtain⟨j,hj,rfl,hown,hA,hB,hbr⟩:=hrel;clear HA9 HB9 B9;have HA:=hid hA;have HB:=hid hB;have HO:=hid hown;clear hA hB hown;by_cases hj2:j=2
    · subst hj2
      have hc2:comF (a0,a1) (b0,b1) f 2=R:=by rw[HRE.out];rfl
      rw[hc2] at HO;obtain⟨A3,c3,hv3,-,-⟩:=own_form HO.out;subst hv3;go_wp2;go_ret;exact⟨_,rfl,own_mono HO.out om_,hbr⟩
    · obtain⟨g,hg⟩: ∃g,g=f-21600000*(j:Int):=⟨_,rfl⟩
      have hgb: -21600000≤g∧g<21600000:=by omega
      have hz:=hbr.size;have HC:Hid (comF (a0,a1) (b0,b1) f (j+1)=comF (a0,a1) (b0,b1) f j++comP (a0,a1) (b0,b1) g):=hid (by
       have:j=0∨j=1:=by omega
       rcases this with rfl|rfl
       · simp[comF,hg]
       · simp[comF,hg])
      have hfl:(comF (a0,a1) (b0,b1) f j).length≤2:=by
       have:j=0∨j=1:=by omega
       have hp:=comP_len (a0,a1) (b0,b1) f;rcases this with rfl|rfl<;>simp[comF];omega
      have HG:=hid hg;clear hg;have e1:wrap64 (a1-a0)=a1-a0:=IntWalk.wrap64_in _ om_;have e2:wrap64 (g+b1)=g+b1:=IntWalk.wrap64_in _ om_;have e3:wrap64 (g+b1-b0)=g+b1-b0:=IntWalk.wrap64_in _ om_;have HP:Hid (comP (a0,a1) (b0,b1) g=if max 0 g≤min (a1-a0) (g+b1-b0) then[(sgA (a0+max 0 g),sgA (a0+max 0 g)+min (a1-a0) (g+b1-b0)-max 0 g)] else[]):=hid rfl;obtain⟨L,hL⟩: ∃L,max 0 g=L:=⟨_,rfl⟩;obtain⟨M,hM⟩: ∃M,min (a1-a0) (g+b1-b0)=M:=⟨_,rfl⟩;have hLb:0≤L∧L<21600000:=by omega
      have hMb: -43200000≤M∧M≤21600000:=by omega
      rw[hL,hM] at HP;have KS:=hid (fun W=>SignedA_any (a0+L) W om_ om_);have hsb:=sgA_bd (a0+L);generalize sgA (a0+L)=sg at*;have e4:wrap64 (a0+L)=a0+L:=IntWalk.wrap64_in _ om_;have e5:wrap64 (sg+M)=sg+M:=IntWalk.wrap64_in _ om_;have e6:wrap64 (sg+M-L)=sg+M-L:=IntWalk.wrap64_in _ om_;obtain⟨at1,c0,c1,-,-⟩:=HA.out;obtain⟨bt1,d0,d1,-,-⟩:=HB.out;have hz2:w.heap.size+2≤wr.heap.size:=by have:=HB.out.lt;omega
      have hq0:=index20;have hq1:=index21;have hj01:j=0∨j=1:=by omega
      rcases hj01 with rfl|rfl
      · have hge:f=g:=by have:=HG.out;omega
        subst hge;by_cases hc:L≤M
        · rw[if_pos hc] at HP
          go_wp2_with (go_region);(with_reducible refine(KS.out _).mono ?_)
          rintro e w5 ⟨rfl,hb5⟩
          have hbX:Below wr.heap.size wr w5:=(bl_drew (Below.refl _ _)).trans hb5;have HO5:=hid (own_bl HO.out hbX (Nat.le_refl _));have b5:Below (w.heap.size+2) wr w5:=hbX.mono hz2;have hz5:=b5.size;clear hb5 hbX at1 c0 c1 bt1 d0 d1;go_wp2_with (at_builtin;(refine wpList_append_any _ rfl (.tmp 57) (.tmp 65) _ rfl (w.heap.size+2) 31 i0 _ 2 16 underlying125 hi0 hz0 hz1 hzb rfl dc_ u5 _ _ rfl (HO5.out.alloc _) (w5.heap.size+1) (some ⟨w5.heap.size,0,none⟩) 1 1 (spv (sg,sg+M-L)) rfl (sreads_new w5 _ _ _) (spv_one _) (by simp only[maxLen];omega) om_ (by simp;omega) ?_);intro v6 w6 hown6 hg6 hat6);have b6:=(b5.alloc om_ (.cells #[vi vk sg,vi vk (sg+M-L)] 31)).grown hg6 (by simp;omega) (own_base HO5.out);go_roundw
          case rel=>exact⟨0+1,om_,by go_num,by rw[HC.out,HP.out,spvs_append,List.length_append];exact hown6,HA.out.below b6 om_,HB.out.below b6 om_,hbr.trans (b6.mono om_)⟩
          case measure=>simp[intOf]
        · rw[if_neg hc] at HP
          go_wp2_with (go_region);go_roundw
          case rel=>exact⟨0+1,om_,by go_num,by rw[HC.out,HP.out,List.append_nil];exact HO.out,HA.out.below (B:=w.heap.size+2) (bl_drew (Below.refl _ _)) om_,HB.out.below (B:=w.heap.size+2) (bl_drew (Below.refl _ _)) om_,bl_drew hbr⟩
          case measure=>simp[intOf]
      · have hge:f-21600000=g:=by have:=HG.out;omega
        subst hge;by_cases hc:L≤M
        · rw[if_pos hc] at HP
          go_wp2_with (go_region);(with_reducible refine(KS.out _).mono ?_)
          rintro e w5 ⟨rfl,hb5⟩
          have hbX:Below wr.heap.size wr w5:=(bl_drew (Below.refl _ _)).trans hb5;have HO5:=hid (own_bl HO.out hbX (Nat.le_refl _));have b5:Below (w.heap.size+2) wr w5:=hbX.mono hz2;have hz5:=b5.size;clear hb5 hbX at1 c0 c1 bt1 d0 d1;go_wp2_with (at_builtin;(refine wpList_append_any _ rfl (.tmp 57) (.tmp 65) _ rfl (w.heap.size+2) 31 i0 _ 2 16 underlying125 hi0 hz0 hz1 hzb rfl dc_ u5 _ _ rfl (HO5.out.alloc _) (w5.heap.size+1) (some ⟨w5.heap.size,0,none⟩) 1 1 (spv (sg,sg+M-L)) rfl (sreads_new w5 _ _ _) (spv_one _) (by simp only[maxLen];omega) om_ (by simp;omega) ?_);intro v6 w6 hown6 hg6 hat6);have b6:=(b5.alloc om_ (.cells #[vi vk sg,vi vk (sg+M-L)] 31)).grown hg6 (by simp;omega) (own_base HO5.out);go_roundw
          case rel=>exact⟨1+1,om_,by go_num,by rw[HC.out,HP.out,spvs_append,List.length_append];exact hown6,HA.out.below b6 om_,HB.out.below b6 om_,hbr.trans (b6.mono om_)⟩
          case measure=>simp[intOf]
        · rw[if_neg hc] at HP
          go_wp2_with (go_region);go_roundw
          case rel=>exact⟨1+1,om_,by go_num,by rw[HC.out,HP.out,List.append_nil];exact HO.out,HA.out.below (B:=w.heap.size+2) (bl_drew (Below.refl _ _)) om_,HB.out.below (B:=w.heap.size+2) (bl_drew (Below.refl _ _)) om_,bl_drew hbr⟩
          case measure=>simp[intOf]
theorem validLat_yes(x y:Int)(w:World)(h1:x≤y)(h2: -5400000≤x)(h3:y≤5400000):Calls Tryz.prog 24 #[.agg #[vi vk x,vi vk y]] w fun e w'=>e=.returned (.bool true)∧Below w.heap.size w w':=by
 have d3:decide (y≤5400000)=true:=decide_eq_true h3;go_enter func24,ntmps24;go_wp2;all_goals
  go_ret;refine⟨ret_bool (by first|rfl|(simp_all;done)|(simp_all;omega)),?_⟩;exact bl_
theorem validLon_yes(x y:Int)(w:World)(h1:x≤y)(h2: -10800000≤x)(h3:x<10800000)(h4:y-x<21600000):Calls Tryz.prog 25 #[.agg #[vi vk x,vi vk y]] w fun e w'=>e=.returned (.bool true)∧Below w.heap.size w w':=by
 have ha:aeq x y (-10800000) 10800000=false:=by simp[aeq];omega
 have K:=hid (fun W=>all_any x y W);rw[ha] at K;have sy:IntKind.i64.wrap (y-x)=y-x:=IntWalk.i64_in _ om_;clear ha;go_enter func25,ntmps25;go_wp2_with (go_at_call 47;(with_reducible refine(K.out _).mono ?_);rintro e w1 ⟨rfl,hb⟩;have hz:=one_lt hb;have hb1:=one_bl hb;have y1:=(hb.cell (p:=⟨w.heap.size,0,none⟩) (by simp)).trans (show _=some (vi vk x) by simp);have y2:=(hb.cell (p:=⟨w.heap.size,1,none⟩) (by simp)).trans (show _=some (vi vk y) by simp));all_goals
  go_ret;exact⟨ret_bool (by first|rfl|(simp_all;done)|(simp_all;omega)),hb1⟩
structure BoxOk(b0 b1 b2 b3:Int):Prop where
 l1:b0≤b1
 l2: -5400000≤b0
 l3:b1≤5400000
 o1:b2≤b3
 o2: -10800000≤b2
 o3:b2<10800000
 o4:b3-b2<21600000
theorem placeValid_yes(b0 b1 b2 b3:Int)(w:World)(hb:BoxOk b0 b1 b2 b3):Calls Tryz.prog 10 #[.agg #[vi vk b0,vi vk b1,vi vk b2,vi vk b3]] w fun e w'=>e=.returned (.bool true)∧Below w.heap.size w w':=by
 have K1:=hid (fun W=>validLat_yes b0 b1 W hb.l1 hb.l2 hb.l3);have K2:=hid (fun W=>validLon_yes b2 b3 W hb.o1 hb.o2 hb.o3 hb.o4);clear hb;go_enter func10,ntmps10;go_wp2_with (first|(go_at_call 24;(with_reducible refine(K1.out _).mono ?_);rintro e w1 ⟨rfl,hb⟩;have hz:=one_lt hb;have hb1:=one_bl hb;have y1:=(hb.cell (p:=⟨w.heap.size,2,none⟩) (by simp)).trans (show _=some (vi vk b2) by simp);have y2:=(hb.cell (p:=⟨w.heap.size,3,none⟩) (by simp)).trans (show _=some (vi vk b3) by simp))|(go_at_call 25;(with_reducible refine(K2.out _).mono ?_);rintro e w2 ⟨rfl,hb2⟩));go_ret;exact⟨rfl,hb1.trans (hb2.mono hb1.size)⟩
def inBox(b0 b1 b2 b3 a b:Int):Bool:=decide (b0≤a∧a≤b1)&&(decide (a=5400000)||decide (a= -5400000)||lonIn b2 b3 b)
theorem placeContains_any(b0 b1 b2 b3 a b:Int)(w:World)(hb:BoxOk b0 b1 b2 b3)(hp:vptB a b=true):
 Calls Tryz.prog 14 #[.agg #[vi vk b0,vi vk b1,vi vk b2,vi vk b3],.agg #[vi vk a,vi vk b]] w fun e w'=>e=.returned (.tuple #[.bool (inBox b0 b1 b2 b3 a b),vi vk 0])∧Below w.heap.size w w':=by
 have K1:=hid (fun W=>placeValid_yes b0 b1 b2 b3 W hb);have K2:=hid (vpt_yes a b hp);obtain⟨p1,p2,p3,p4⟩:=vptB_true.1 hp;have q1:=hb.o1;have q2:=hb.o2;have q3:=hb.o3;have q4:=hb.o4;have K3:=hid (fun W=>has_place b2 b3 b W om_ om_ om_ om_ q1 q4);clear q1 q2 q3 q4 hb hp;obtain⟨R,hR⟩: ∃R,R=inBox b0 b1 b2 b3 a b:=⟨_,rfl⟩;rw[←hR];have HR:=hid hR;clear hR;go_enter func14,ntmps14;go_wp2_with fail;(with_reducible refine(K1.out _).mono ?_)
 rintro e w1 ⟨rfl,hb1⟩
 have hb1':=two_bl hb1;have hz1:=two_lt hb1;have x0:=(hb1.cell (p:=⟨w.heap.size,0,none⟩) (by simp;omega)).trans (show _=some (vi vk b0) by simp);have x1:=(hb1.cell (p:=⟨w.heap.size,1,none⟩) (by simp;omega)).trans (show _=some (vi vk b1) by simp);have x2:=(hb1.cell (p:=⟨w.heap.size,2,none⟩) (by simp;omega)).trans (show _=some (vi vk b2) by simp);have x3:=(hb1.cell (p:=⟨w.heap.size,3,none⟩) (by simp;omega)).trans (show _=some (vi vk b3) by simp);have y0:=(hb1.cell (p:=⟨w.heap.size+1,0,none⟩) (by simp)).trans (show _=some (vi vk a) by simp);have y1:=(hb1.cell (p:=⟨w.heap.size+1,1,none⟩) (by simp)).trans (show _=some (vi vk b) by simp);clear hb1;go_wp2_with fail;(with_reducible refine(K2.out _).mono ?_)
 rintro e w2 ⟨rfl,hb2⟩
 have hb2':=hb1'.trans (hb2.mono hb1'.size);have x0:=(hb2.cell (p:=⟨w.heap.size,0,none⟩) hz1.1).trans x0;have x1:=(hb2.cell (p:=⟨w.heap.size,1,none⟩) hz1.1).trans x1;have x2:=(hb2.cell (p:=⟨w.heap.size,2,none⟩) hz1.1).trans x2;have x3:=(hb2.cell (p:=⟨w.heap.size,3,none⟩) hz1.1).trans x3;have y0:=(hb2.cell (p:=⟨w.heap.size+1,0,none⟩) hz1.2).trans y0;have y1:=(hb2.cell (p:=⟨w.heap.size+1,1,none⟩) hz1.2).trans y1;clear hb2 hb1' K1 K2;by_cases h0:a<b0
 · have hE:Hid (R=false):=hid (by rw[HR.out];simp[inBox];omega)
   go_wp2;go_ret2
   exact⟨by rw[hE.out];rfl,hb2'⟩
 · have d0:decide (a<b0)=false:=decide_eq_false h0
   by_cases h1:b1<a
   · have hE:Hid (R=false):=hid (by rw[HR.out];simp[inBox];omega)
     go_wp2;go_ret2
     exact⟨by rw[hE.out];rfl,hb2'⟩
   · have d1:decide (b1<a)=false:=decide_eq_false h1
     have hin:decide (b0≤a∧a≤b1)=true:=decide_eq_true om_;by_cases h2:a=5400000
     · have hE:Hid (R=true):=hid (by rw[HR.out,inBox,hin];simp[h2])
       subst h2;clear hin;go_wp2;go_ret2
       exact⟨by rw[hE.out];rfl,hb2'⟩
     · have e2:(a==5400000)=false:=by simp[h2]
       by_cases h3:a= -5400000
       · have hE:Hid (R=true):=hid (by rw[HR.out,inBox,hin];simp[h3])
         subst h3;clear hin;go_wp2;go_ret2
         exact⟨by rw[hE.out];rfl,hb2'⟩
       · have e3:(a== -5400000)=false:=by simp[h3]
         have hE:Hid (R=lonIn b2 b3 b):=hid (by rw[HR.out,inBox,hin];simp[h2,h3]);generalize lonIn b2 b3 b=z at K3 hE;clear hin;go_wp2_with (go_at_call 35;(with_reducible refine(K3.out _).mono ?_);rintro e w3 ⟨rfl,hb3⟩);go_ret2
         exact⟨by rw[hE.out];rfl,hb2'.trans (hb3.mono hb2'.size)⟩
section
theorem isAll_iff(a:Sp):isAll a=true↔a.1= -10800000∧a.2=10800000:=by unfold isAll aeq;simp
def VL(a:Sp):Prop:=(a.1= -10800000∧a.2=10800000)∨(-10800000≤a.1∧a.1<10800000∧a.1≤a.2∧a.2-a.1<21600000)
def lonM(a b:Sp):Bool:=decide ((b.1-21600000≤a.2∧a.1≤b.2-21600000)∨(b.1≤a.2∧a.1≤b.2)∨(b.1+21600000≤a.2∧a.1≤b.2+21600000))
theorem com_lonM(a b:Sp)(ha:VL a)(hb:VL b):(comL a b).length=0↔lonM a b=false:=by
 obtain⟨a0,a1⟩:=a;obtain⟨b0,b1⟩:=b;unfold VL at ha hb;simp only[] at ha hb;unfold comL lonM comP;simp only[decide_eq_false_iff_not];by_cases h1:a0= -10800000∧a1=10800000
 · rw[if_pos ((isAll_iff _).2 h1)]
   simp only[List.length_cons];omega
 · by_cases h2:b0= -10800000∧b1=10800000
   · rw[if_neg (fun e=>h1 ((isAll_iff _).1 e)),if_pos ((isAll_iff _).2 h2)]
     simp only[List.length_cons];omega
   · rw[if_neg (fun e=>h1 ((isAll_iff _).1 e)),if_neg (fun e=>h2 ((isAll_iff _).1 e))]
     have ha': -10800000≤a0∧a0<10800000∧a0≤a1∧a1-a0<21600000:=by omega
     have hb': -10800000≤b0∧b0<10800000∧b0≤b1∧b1-b0<21600000:=by omega
     obtain⟨f,hf⟩: ∃f,f=(b0-a0)%21600000:=⟨_,rfl⟩;rw[←hf,List.length_append];have hfc:f=b0-a0∨f=b0-a0+21600000:=by omega
     have hf0:0≤f∧f<21600000:=by omega
     clear hf h1 h2 ha hb;have key: ∀g:Int,(max 0 g≤min (a1-a0) (g+b1-b0))↔(0≤a1-a0∧0≤g+b1-b0∧g≤a1-a0∧g≤g+b1-b0):=fun g=>by omega
     have k1:=key f;have k2:=key (f-21600000);by_cases g1:max 0 f≤min (a1-a0) (f+b1-b0)<;>by_cases g2:max 0 (f-21600000)≤min (a1-a0) (f-21600000+b1-b0)
     all_goals
      simp only[g1,g2,if_true,if_false,List.length_cons,List.length_nil];first|have c1:=k1.1 g1|have c1:=mt k1.2 g1
      first|have c2:=k2.1 g2|have c2:=mt k2.2 g2
      clear k1 k2 key g1 g2;rcases hfc with hfc|hfc<;>subst hfc<;>(try rw[true_iff])<;>omega
theorem com_ok(a b:Sp)(ha:VL a)(hb:VL b):(comL a b).length≤2∧ ∀x∈comL a b,-10800000≤x.1∧x.1≤10800000∧x.1≤x.2∧x.2≤x.1+21600000:=by
 obtain⟨a0,a1⟩:=a;obtain⟨b0,b1⟩:=b;unfold VL at ha hb;simp only[] at ha hb;unfold comL;split
 · refine⟨by simp,fun x hx=>?_⟩
   obtain rfl:x=(b0,b1):=by simpa using hx
   simp only[];omega
 · split
   · refine⟨by simp,fun x hx=>?_⟩
     obtain rfl:x=(a0,a1):=by simpa using hx
     simp only[];omega
   · rename_i h1 h2
     rw[isAll_iff] at h1 h2;simp only[] at h1 h2;have hP: ∀f,(comP (a0,a1) (b0,b1) f).length≤1∧ ∀x∈comP (a0,a1) (b0,b1) f,-10800000≤x.1∧x.1≤10800000∧x.1≤x.2∧x.2≤x.1+21600000:=by
      intro f;unfold comP;split
      · rename_i hle
        refine⟨by simp,fun x hx=>?_⟩;have hs: -10800000≤sgA (a0+max 0 f)∧sgA (a0+max 0 f)<10800000:=by unfold sgA;omega
        simp only[List.mem_cons,List.not_mem_nil,or_false] at hx;subst hx;simp only[] at hle⊢;generalize sgA (a0+max 0 f)=s at*;omega
      · exact⟨by simp,fun x hx=>by simp at hx⟩
     have p1:=hP ((b0-a0)%21600000);have p2:=hP ((b0-a0)%21600000-21600000);refine⟨by simp only[List.length_append];omega,fun x hx=>?_⟩;rcases List.mem_append.1 hx with h|h
     · exact p1.2 x h
     · exact p2.2 x h
structure VP(a:Bx):Prop where
 l1:a.1≤a.2.1
 l2: -5400000≤a.1
 l3:a.2.1≤5400000
 o:VL (a.2.2.1,a.2.2.2)
def meetB(a b:Bx):Bool:=decide (a.1≤b.2.1∧b.1≤a.2.1)&&lonM (a.2.2.1,a.2.2.2) (b.2.2.1,b.2.2.2)
structure K4(W:World)(g:Nat)(a b c d:Int):Prop where
 lt:g<W.heap.size
 c0:W.cell? ⟨g,0,none⟩=some (vi vk a)
 c1:W.cell? ⟨g,1,none⟩=some (vi vk b)
 c2:W.cell? ⟨g,2,none⟩=some (vi vk c)
 c3:W.cell? ⟨g,3,none⟩=some (vi vk d)
 f0:W.frozen? ⟨g,0,none⟩=false
 f1:W.frozen? ⟨g,1,none⟩=false
 f2:W.frozen? ⟨g,2,none⟩=false
 f3:W.frozen? ⟨g,3,none⟩=false
section
variable {W W':World} {g:Nat} {a b c d:Int}
theorem K4.below{B:Nat}(h:K4 W g a b c d)(hb:Below B W W')(hB:g<B):K4 W' g a b c d:=
 ⟨Nat.lt_of_lt_of_le h.lt hb.size,(hb.cell (p:=⟨g,0,none⟩) hB).trans h.c0,(hb.cell (p:=⟨g,1,none⟩) hB).trans h.c1,(hb.cell (p:=⟨g,2,none⟩) hB).trans h.c2,(hb.cell (p:=⟨g,3,none⟩) hB).trans h.c3,
  (hb.frozen (p:=⟨g,0,none⟩) hB).trans h.f0,(hb.frozen (p:=⟨g,1,none⟩) hB).trans h.f1,(hb.frozen (p:=⟨g,2,none⟩) hB).trans h.f2,(hb.frozen (p:=⟨g,3,none⟩) hB).trans h.f3⟩
theorem K4.alloc(h:K4 W g a b c d)(o:Obj):K4 (W.alloc o) g a b c d:=h.below (bl_alloc W o) h.lt
theorem K4.new(W:World)(a b c d:Int)(t:TypeId):K4 (W.alloc (.cells #[vi vk a,vi vk b,vi vk c,vi vk d] t)) W.heap.size a b c d:=⟨by simp,by simp,by simp,by simp,by simp,by simp,by simp,by simp,by simp⟩
end
theorem validLon_vl(x y:Int)(w:World)(h:VL (x,y)):Calls Tryz.prog 25 #[.agg #[vi vk x,vi vk y]] w fun e w'=>e=.returned (.bool true)∧Below w.heap.size w w':=by
 have h':(x= -10800000∧y=10800000)∨(-10800000≤x∧x<10800000∧x≤y∧y-x<21600000):=h;by_cases hc:x= -10800000∧y=10800000
 · obtain⟨rfl,rfl⟩:=hc
   have K:=hid (fun W=>all_any (-10800000) 10800000 W);rw[show aeq (-10800000) 10800000 (-10800000) 10800000=true by decide] at K;clear h h';go_enter func25,ntmps25;go_wp2_with (go_at_call 47;(with_reducible refine(K.out _).mono ?_);rintro e w1 ⟨rfl,hb⟩;have hz:=one_lt hb;have hb1:=one_bl hb);all_goals
    go_ret;exact⟨ret_bool (by first|rfl|(simp_all;done)|(simp_all;omega)),hb1⟩
 · have h2: -10800000≤x∧x<10800000∧x≤y∧y-x<21600000:=h'.resolve_left hc
   exact validLon_yes x y w h2.2.2.1 h2.1 h2.2.1 h2.2.2.2
theorem placeValid_vp(b0 b1 b2 b3:Int)(w:World)(hb:VP (b0,b1,b2,b3)):Calls Tryz.prog 10 #[.agg #[vi vk b0,vi vk b1,vi vk b2,vi vk b3]] w fun e w'=>e=.returned (.bool true)∧Below w.heap.size w w':=by
 have K1:=hid (fun W=>validLat_yes b0 b1 W hb.l1 hb.l2 hb.l3);have K2:=hid (fun W=>validLon_vl b2 b3 W hb.o);clear hb;go_enter func10,ntmps10;go_wp2_with (first|(go_at_call 24;(with_reducible refine(K1.out _).mono ?_);rintro e w1 ⟨rfl,hb⟩;have hz:=one_lt hb;have hb1:=one_bl hb;have y1:=(hb.cell (p:=⟨w.heap.size,2,none⟩) (by simp)).trans (show _=some (vi vk b2) by simp);have y2:=(hb.cell (p:=⟨w.heap.size,3,none⟩) (by simp)).trans (show _=some (vi vk b3) by simp))|(go_at_call 25;(with_reducible refine(K2.out _).mono ?_);rintro e w2 ⟨rfl,hb2⟩));go_ret;exact⟨rfl,hb1.trans (hb2.mono hb1.size)⟩
theorem Meet_any(a0 a1 a2 a3 b0 b1 b2 b3:Int)(w:World)(ha:VP (a0,a1,a2,a3))(hb:VP (b0,b1,b2,b3)):
 Calls Tryz.prog 136 #[.agg #[vi vk a0,vi vk a1,vi vk a2,vi vk a3],.agg #[vi vk b0,vi vk b1,vi vk b2,vi vk b3]] w fun e w'=> ∃r0 r1 r2 r3:Int,e=.returned (.tuple #[.agg #[vi vk r0,vi vk r1,vi vk r2,vi vk r3],vi vk (if meetB (a0,a1,a2,a3) (b0,b1,b2,b3)=true then 0 else 23)])∧Below w.heap.size w w':=by
 have KV1:=hid (fun W=>placeValid_vp a0 a1 a2 a3 W ha);have KV2:=hid (fun W=>placeValid_vp b0 b1 b2 b3 W hb);have oa:(a2= -10800000∧a3=10800000)∨(-10800000≤a2∧a2<10800000∧a2≤a3∧a3-a2<21600000):=ha.o;have ob:(b2= -10800000∧b3=10800000)∨(-10800000≤b2∧b2<10800000∧b2≤b3∧b3-b2<21600000):=hb.o;have KC':=fun W=>common_any a2 a3 b2 b3 W om_ om_;have hlen:=com_lonM (a2,a3) (b2,b3) ha.o hb.o;have hok:=com_ok (a2,a3) (b2,b3) ha.o hb.o;obtain⟨L,hL⟩: ∃L,L=comL (a2,a3) (b2,b3):=⟨_,rfl⟩;rw[←hL] at KC' hlen hok;have KC:=hid KC';have HOK:=hid hok;obtain⟨N,hN⟩: ∃N,N=L.length:=⟨_,rfl⟩;have HLN:=hid hN;obtain⟨R,hR⟩: ∃R:Int,R=if meetB (a0,a1,a2,a3) (b0,b1,b2,b3)=true then 0 else 23:=⟨_,rfl⟩
 rw[←hR];have hRR:Hid (R=if max a0 b0≤min a1 b1∧N≠0 then 0 else 23):=hid (by
  have l1:=ha.l1;have l2:=hb.l1;simp only[] at l1 l2;rw[hR,hN];unfold meetB;simp only[];cases hm:lonM (a2,a3) (b2,b3) with
  |false=>
   have:=hlen.2 hm;simp[this]
  |true=>
   have h0:L.length≠0:=fun e=>by rw[hlen.1 e] at hm;cases hm
   simp only[Bool.and_true,decide_eq_true_eq];by_cases g:a0≤b1∧b0≤a1
   · rw[if_pos g,if_pos ⟨om_,h0⟩]
   · rw[if_neg g,if_neg (fun e=>g om_)])
 clear hR hN hlen hok hL KC' oa ob ha hb;obtain⟨P1,hP1⟩: ∃P,max a0 b0=P:=⟨_,rfl⟩;obtain⟨P2,hP2⟩: ∃P,min a1 b1=P:=⟨_,rfl⟩;rw[hP1,hP2] at hRR;have HA:=hid (((K4.new w a0 a1 a2 a3 40).alloc (.cells #[vi vk b0,vi vk b1,vi vk b2,vi vk b3] 40)).alloc (.cells #[vi vk 0,vi vk 0,vi vk 0,vi vk 0] 40));have HB:Hid (K4 (((w.alloc (.cells #[vi vk a0,vi vk a1,vi vk a2,vi vk a3] 40)).alloc (.cells #[vi vk b0,vi vk b1,vi vk b2,vi vk b3] 40)).alloc (.cells #[vi vk 0,vi vk 0,vi vk 0,vi vk 0] 40)) (w.heap.size+1) b0 b1 b2 b3):=hid (by
  have:=(K4.new (w.alloc (.cells #[vi vk a0,vi vk a1,vi vk a2,vi vk a3] 40)) b0 b1 b2 b3 40).alloc (.cells #[vi vk 0,vi vk 0,vi vk 0,vi vk 0] 40);simpa using this)
 have HZ:Hid (K4 (((w.alloc (.cells #[vi vk a0,vi vk a1,vi vk a2,vi vk a3] 40)).alloc (.cells #[vi vk b0,vi vk b1,vi vk b2,vi vk b3] 40)).alloc (.cells #[vi vk 0,vi vk 0,vi vk 0,vi vk 0] 40)) (w.heap.size+1+1) 0 0 0 0):=hid (by
  have:=K4.new ((w.alloc (.cells #[vi vk a0,vi vk a1,vi vk a2,vi vk a3] 40)).alloc (.cells #[vi vk b0,vi vk b1,vi vk b2,vi vk b3] 40)) 0 0 0 0 40;simpa using this)
 have b0':Below w.heap.size w (((w.alloc (.cells #[vi vk a0,vi vk a1,vi vk a2,vi vk a3] 40)).alloc (.cells #[vi vk b0,vi vk b1,vi vk b2,vi vk b3] 40)).alloc (.cells #[vi vk 0,vi vk 0,vi vk 0,vi vk 0] 40)):=(((Below.refl _ _).alloc (Nat.le_refl _) _).alloc (by simp) _).alloc (by simp;omega) _;go_enter func136,ntmps136;go_wp2_with fail;(with_reducible refine(KV1.out _).mono ?_)
 rintro e w1 ⟨rfl,hb1⟩
 have HA1:=hid (HA.out.below hb1 HA.out.lt);have HB1:=hid (HB.out.below hb1 HB.out.lt);have HZ1:=hid (HZ.out.below hb1 HZ.out.lt);have B1:=hid (b0'.trans (hb1.mono b0'.size));clear HA HB HZ b0' hb1;obtain⟨lt1,c0,c1,c2,c3,-,-,-,-⟩:=HB1.out;go_wp2_with fail;(with_reducible refine(KV2.out _).mono ?_)
 rintro e w2 ⟨rfl,hb2⟩
 clear lt1 c0 c1 c2 c3;have HA2:=hid (HA1.out.below hb2 HA1.out.lt);have HB2:=hid (HB1.out.below hb2 HB1.out.lt);have HZ2:=hid (HZ1.out.below hb2 HZ1.out.lt);have B2:=hid (B1.out.trans (hb2.mono B1.out.size));clear HA1 HB1 HZ1 B1 hb2;obtain⟨at2,a0',a1',a2',a3',-,-,-,-⟩:=HA2.out;obtain⟨bt2,c0,c1,c2,c3,-,-,-,-⟩:=HB2.out;go_wp2_with fail;(with_reducible refine(KC.out _).mono ?_)
 rintro e w3 ⟨v,rfl,hown,hb3⟩
 have HP:=hid ((K2.new w2 P1 P2 31).below hb3 (by simp));have HZ3:=hid ((HZ2.out.alloc (.cells #[vi vk P1,vi vk P2] 31)).below hb3 (by have:=HZ2.out.lt;simp;omega));have B3:=hid ((B2.out.alloc B2.out.size (.cells #[vi vk P1,vi vk P2] 31)).trans (hb3.mono (by have:=B2.out.size;simp;omega)));rw[←HLN.out] at hown;obtain⟨A4,k4,rfl,ra,hcc,hcm⟩:=own_form hown;have RA:=hid ra;have hN2:N≤2:=by have:=HOK.out.1;have:=HLN.out;omega
 clear hown hb3 HZ2 HA2 HB2 B2 ra at2 a0' a1' a2' a3' bt2 c0 c1 c2 c3;obtain⟨pt,p0,p1,-,-⟩:=HP.out;by_cases hc:P1≤P2∧N≠0
 · rw[if_pos hc] at hRR
   obtain rfl:=hRR.out;have d1:decide (P2<P1)=false:=decide_eq_false om_;have d2:decide ((N:Int)=0)=false:=decide_eq_false om_;have d3:((N:Int)==0)=false:=by simp;exact hc.2
   clear hc hRR;have KA:=hid (fun(W:World) (h:Reads W W.heap.size 2 A4 N (spvs L))=>fixArnd_any A4 N k4 L W h om_ HOK.out.2);go_upto_region 7 with (fail)
   have KA3:=hid (KA.out w3.drew RA.out.drew);obtain⟨⟨r0,r1⟩,hr⟩: ∃r,arnd L=r:=⟨_,rfl⟩;rw[hr] at KA3;have HZL:=HZ3.out.lt;go_region_with (go_at_call 185;(with_reducible refine KA3.out.mono ?_);rintro e w4 ⟨rfl,hb4'⟩;have hb4:Below w3.heap.size w3 w4:=(bl_drew (Below.refl _ _)).trans hb4';have q0:=(hb4.cell (p:=⟨w2.heap.size,0,none⟩) pt).trans p0;have q1:=(hb4.cell (p:=⟨w2.heap.size,1,none⟩) pt).trans p1;obtain⟨zt,z0,z1,z2,z3,zf0,zf1,zf2,zf3⟩:=HZ3.out.below hb4 HZL)
   all_goals
    go_wp2;refine bodyPost_ret (v:=.tuple #[.agg #[vi vk P1,vi vk P2,vi vk r0,vi vk r1],vi vk 0]) (by simp[results,results136,go_sem, *];done) rfl ⟨_,_,_,_,rfl,?_⟩;have B4:=B3.out.trans (hb4.mono B3.out.size);exact(((B4.setCell so_ _).setCell so_ _).setCell so_ _).setCell so_ _
 · rw[if_neg hc] at hRR
   obtain rfl:=hRR.out;obtain⟨zt,z0,z1,z2,z3,zf0,zf1,zf2,zf3⟩:=HZ3.out;by_cases g1:P2<P1
   · have d1:decide (P2<P1)=true:=decide_eq_true g1
     go_wp2;refine bodyPost_ret (v:=.tuple #[.agg #[vi vk 0,vi vk 0,vi vk 0,vi vk 0],vi vk 23]) (by simp[results,results136,go_sem, *];done) rfl ⟨_,_,_,_,rfl,?_⟩;exact(((B3.out.setCell so_ _).setCell so_ _).setCell so_ _).setCell so_ _
   · have g2:N=0:=by omega
     subst g2;have d1:decide (P2<P1)=false:=decide_eq_false g1;go_wp2;refine bodyPost_ret (v:=.tuple #[.agg #[vi vk 0,vi vk 0,vi vk 0,vi vk 0],vi vk 23]) (by simp[results,results136,go_sem, *];done) rfl ⟨_,_,_,_,rfl,?_⟩;exact(((B3.out.setCell so_ _).setCell so_ _).setCell so_ _).setCell so_ _
end
end Go.Proofs.YtdeiofgddhbdaaaGreat
