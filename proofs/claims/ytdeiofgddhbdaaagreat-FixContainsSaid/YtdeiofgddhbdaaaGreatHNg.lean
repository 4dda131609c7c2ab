/- The walk of the reference's ValidRegion. -/
import Derived.Test.YtdeiofgddhbdaaaGreatHNh
set_option linter.unusedSimpArgs false
set_option linter.unusedVariables false
set_option maxHeartbeats 4000000
set_option maxRecDepth 100000
open Go.RowKit
open Go.Lib (hid)
open Go.Proofs.Tryz
open Go.Value renaming int→vi
open Go.IntKind renaming i64→vk
namespace Go.Proofs.YtdeiofgddhbdaaaGreat
theorem rAgAll_any(A:Option Addr)(n c:Nat)(L:List Ci)(x:Cl)(w:World)(hr:Reads w w.heap.size 6 A n (civs L))(hn:n≤maxLen)(hL: ∀k∈L,VCi k)(hx:Vl x):
 Calls Tryz.prog 94 #[.slice A n c,.agg #[vi vk x.1,vi vk x.2.1,vi vk x.2.2]] w fun e w'=>e=.returned (.bool (L.all fun k=>agC k x))∧Below w.heap.size w w':=by
 have HL:=hid hr.lenC;have HB0:=hid (bl_alloc w (.cells #[vi vk x.1,vi vk x.2.1,vi vk x.2.2] 55));have HR:=hid (hr.alloc (Nat.le_refl _) (.cells #[vi vk x.1,vi vk x.2.1,vi vk x.2.2] 55));have XX:=hid (Blk.new w 55 #[vi vk x.1,vi vk x.2.1,vi vk x.2.2]);have KA:Hid (∀k∈L,∀W,Calls Tryz.prog 134 #[.agg #[vi vk x.1,vi vk x.2.1,vi vk x.2.2],civ k] W fun e w'=>e=.returned (.bool (agC k x))∧Below W.heap.size W w'):=hid fun k hk W=>rAgrees_any k x W (hL k hk) hx;obtain⟨P,hP⟩: ∃P:Ci→Bool,(fun k=>agC k x)=P:=⟨_,rfl⟩;have hPk: ∀k,agC k x=P k:=fun k=>congrFun hP k;simp only[hPk] at KA⊢;clear hr hL hx hP hPk;obtain⟨l,r,cc⟩:=x;simp only[] at XX HR HB0 KA⊢;unfold maxLen at hn;go_enter func94,ntmps94;go_upto_region 1 with (fail)
 generalize w.alloc (.cells #[vi vk l,vi vk r,vi vk cc] 55)=w1 at HB0 HR XX⊢;go_wp2;go_loopg [5] n (fun gg s5 wr=> ∃kk:Nat,kk≤n∧n-kk≤gg∧s5=vi vk kk∧Below w1.heap.size w1 wr∧(L.take kk).all P=true)
 case atStart=>exact⟨0,Nat.zero_le _,om_,rfl,Below.refl _ w1,rfl⟩
 case round=>
  obtain⟨kk,hkk,hg,rfl,BW,HA⟩:=hrel;have HA:=hid HA;have HBR:=hid (HB0.out.trans (BW.mono HB0.out.size));by_cases hlt:kk<n
  · obtain⟨b,off,rfl,hb,hx⟩:=HR.out.elemC hlt
    have hb1:b<w1.heap.size:=Nat.lt_of_lt_of_le hb HB0.out.size;have YY:=hid (hx.below BW hb1);have XR:=hid (XX.out.below BW XX.out.lt);have hbr:b<wr.heap.size:=Nat.lt_of_lt_of_le hb1 BW.size;have hm:=gci_mem L kk (by rw[HL.out];exact hlt);have hcall:=fun W=>KA.out (gci L kk) hm W;have h1:=hid (allC_take L P kk (by rw[HL.out];exact hlt) HA.out);have h2:=hid (allC_of L P kk (by rw[HL.out];exact hlt));unfold civ at hcall;clear hx hm;generalize gci L kk=k at YY hcall h1 h2;obtain⟨⟨a0,a1,o0,o1⟩,r0,r1⟩:=k;generalize hq:P ((a0,a1,o0,o1),r0,r1)=q at hcall h1 h2;have hcall:=hid hcall;clear hq;go_upto_region 4 with (fail)
    have c0: ∀s:BV wr,s.w.cell? ⟨w.heap.size,0,none⟩=some (vi vk l):=fun s=>(s.hb.cell (p:=⟨w.heap.size,0,none⟩) XR.out.lt).trans (XR.out.cell 0);have c1: ∀s:BV wr,s.w.cell? ⟨w.heap.size,1,none⟩=some (vi vk r):=fun s=>(s.hb.cell (p:=⟨w.heap.size,1,none⟩) XR.out.lt).trans (XR.out.cell 1);have c2: ∀s:BV wr,s.w.cell? ⟨w.heap.size,2,none⟩=some (vi vk cc):=fun s=>(s.hb.cell (p:=⟨w.heap.size,2,none⟩) XR.out.lt).trans (XR.out.cell 2);have d0: ∀s:BV wr,s.w.cell? ⟨b,off+kk*6,none⟩=some (vi vk a0):=fun s=>(YY.out.below s.hb hbr).c0;have d1: ∀s:BV wr,s.w.cell? ⟨b,off+kk*6+1,none⟩=some (vi vk a1):=fun s=>(YY.out.below s.hb hbr).c1;have d2: ∀s:BV wr,s.w.cell? ⟨b,off+kk*6+2,none⟩=some (vi vk o0):=fun s=>(YY.out.below s.hb hbr).c2;have d3: ∀s:BV wr,s.w.cell? ⟨b,off+kk*6+3,none⟩=some (vi vk o1):=fun s=>(YY.out.below s.hb hbr).c3;have d4: ∀s:BV wr,s.w.cell? ⟨b,off+kk*6+4,none⟩=some (vi vk r0):=fun s=>(YY.out.below s.hb hbr).c4;have d5: ∀s:BV wr,s.w.cell? ⟨b,off+kk*6+5,none⟩=some (vi vk r1):=fun s=>(YY.out.below s.hb hbr).c5;refine wp_region_bv wr (by kernel_rfl) (by kernel_rfl) (Below.refl _ _) ?_;(repeat (go_big_quiet_step (first|(go_at_call 134;with_reducible exact quiet_bv (hcall.out _))|fail)))
    refine wpQuiet_nil ?_;intro w9 hb9;have HB9:=hid (HBR.out.trans (hb9.mono HBR.out.size));have HW9:=hid (BW.trans (hb9.mono BW.size));clear c0 c1 c2 d0 d1 d2 d3 d4 d5 hb9 hcall YY XR;cases q with
    |true=>
     have h3:=hid (h1.out rfl);clear h1 h2;go_wp2;go_roundg (n-(kk+1))
     case measure=>omega
     case rel=>exact⟨kk+1,om_,om_,by go_num,HW9.out,h3.out⟩
    |false=>
     have h3:=hid (h2.out rfl);clear h1 h2;go_wp2;go_ret;exact⟨ret_bool h3.out.symm,HB9.out⟩
  · go_wp2
    go_ret;have h:=HA.out;rw[List.take_of_length_le (by rw[HL.out];omega)] at h;exact⟨ret_bool h.symm,HBR.out⟩
theorem rSurely_any(A:Option Addr)(n c:Nat)(L:List Ci)(x:Cl)(w:World)(hr:Reads w w.heap.size 6 A n (civs L))(hn:n≤maxLen)(hL: ∀k∈L,VCi k)(hx:Vl x):
 Calls Tryz.prog 95 #[.slice A n c,.agg #[vi vk x.1,vi vk x.2.1,vi vk x.2.2]] w fun e w'=>e=.returned (.bool (L.all fun k=>suC k x))∧Below w.heap.size w w':=by
 have HL:=hid hr.lenC;have HB0:=hid (bl_alloc w (.cells #[vi vk x.1,vi vk x.2.1,vi vk x.2.2] 55));have HR:=hid (hr.alloc (Nat.le_refl _) (.cells #[vi vk x.1,vi vk x.2.1,vi vk x.2.2] 55));have XX:=hid (Blk.new w 55 #[vi vk x.1,vi vk x.2.1,vi vk x.2.2]);have KA:Hid (∀k∈L,∀W,Calls Tryz.prog 135 #[.agg #[vi vk x.1,vi vk x.2.1,vi vk x.2.2],civ k] W fun e w'=>e=.returned (.bool (suC k x))∧Below W.heap.size W w'):=hid fun k hk W=>rsure_any k x W (hL k hk) hx;obtain⟨P,hP⟩: ∃P:Ci→Bool,(fun k=>suC k x)=P:=⟨_,rfl⟩;have hPk: ∀k,suC k x=P k:=fun k=>congrFun hP k;simp only[hPk] at KA⊢;clear hr hL hx hP hPk;obtain⟨l,r,cc⟩:=x;simp only[] at XX HR HB0 KA⊢;unfold maxLen at hn;go_enter func95,ntmps95;go_upto_region 1 with (fail)
 generalize w.alloc (.cells #[vi vk l,vi vk r,vi vk cc] 55)=w1 at HB0 HR XX⊢;go_wp2;go_loopg [5] n (fun gg s5 wr=> ∃kk:Nat,kk≤n∧n-kk≤gg∧s5=vi vk kk∧Below w1.heap.size w1 wr∧(L.take kk).all P=true)
 case atStart=>exact⟨0,Nat.zero_le _,om_,rfl,Below.refl _ w1,rfl⟩
 case round=>
  obtain⟨kk,hkk,hg,rfl,BW,HA⟩:=hrel;have HA:=hid HA;have HBR:=hid (HB0.out.trans (BW.mono HB0.out.size));by_cases hlt:kk<n
  · obtain⟨b,off,rfl,hb,hx⟩:=HR.out.elemC hlt
    have hb1:b<w1.heap.size:=Nat.lt_of_lt_of_le hb HB0.out.size;have YY:=hid (hx.below BW hb1);have XR:=hid (XX.out.below BW XX.out.lt);have hbr:b<wr.heap.size:=Nat.lt_of_lt_of_le hb1 BW.size;have hm:=gci_mem L kk (by rw[HL.out];exact hlt);have hcall:=fun W=>KA.out (gci L kk) hm W;have h1:=hid (allC_take L P kk (by rw[HL.out];exact hlt) HA.out);have h2:=hid (allC_of L P kk (by rw[HL.out];exact hlt));unfold civ at hcall;clear hx hm;generalize gci L kk=k at YY hcall h1 h2;obtain⟨⟨a0,a1,o0,o1⟩,r0,r1⟩:=k;generalize hq:P ((a0,a1,o0,o1),r0,r1)=q at hcall h1 h2;have hcall:=hid hcall;clear hq;go_upto_region 4 with (fail)
    have c0: ∀s:BV wr,s.w.cell? ⟨w.heap.size,0,none⟩=some (vi vk l):=fun s=>(s.hb.cell (p:=⟨w.heap.size,0,none⟩) XR.out.lt).trans (XR.out.cell 0);have c1: ∀s:BV wr,s.w.cell? ⟨w.heap.size,1,none⟩=some (vi vk r):=fun s=>(s.hb.cell (p:=⟨w.heap.size,1,none⟩) XR.out.lt).trans (XR.out.cell 1);have c2: ∀s:BV wr,s.w.cell? ⟨w.heap.size,2,none⟩=some (vi vk cc):=fun s=>(s.hb.cell (p:=⟨w.heap.size,2,none⟩) XR.out.lt).trans (XR.out.cell 2);have d0: ∀s:BV wr,s.w.cell? ⟨b,off+kk*6,none⟩=some (vi vk a0):=fun s=>(YY.out.below s.hb hbr).c0;have d1: ∀s:BV wr,s.w.cell? ⟨b,off+kk*6+1,none⟩=some (vi vk a1):=fun s=>(YY.out.below s.hb hbr).c1;have d2: ∀s:BV wr,s.w.cell? ⟨b,off+kk*6+2,none⟩=some (vi vk o0):=fun s=>(YY.out.below s.hb hbr).c2;have d3: ∀s:BV wr,s.w.cell? ⟨b,off+kk*6+3,none⟩=some (vi vk o1):=fun s=>(YY.out.below s.hb hbr).c3;have d4: ∀s:BV wr,s.w.cell? ⟨b,off+kk*6+4,none⟩=some (vi vk r0):=fun s=>(YY.out.below s.hb hbr).c4;have d5: ∀s:BV wr,s.w.cell? ⟨b,off+kk*6+5,none⟩=some (vi vk r1):=fun s=>(YY.out.below s.hb hbr).c5;refine wp_region_bv wr (by kernel_rfl) (by kernel_rfl) (Below.refl _ _) ?_;(repeat (go_big_quiet_step (first|(go_at_call 135;with_reducible exact quiet_bv (hcall.out _))|fail)))
    refine wpQuiet_nil ?_;intro w9 hb9;have HB9:=hid (HBR.out.trans (hb9.mono HBR.out.size));have HW9:=hid (BW.trans (hb9.mono BW.size));clear c0 c1 c2 d0 d1 d2 d3 d4 d5 hb9 hcall YY XR;cases q with
    |true=>
     have h3:=hid (h1.out rfl);clear h1 h2;go_wp2;go_roundg (n-(kk+1))
     case measure=>omega
     case rel=>exact⟨kk+1,om_,om_,by go_num,HW9.out,h3.out⟩
    |false=>
     have h3:=hid (h2.out rfl);clear h1 h2;go_wp2;go_ret;exact⟨ret_bool h3.out.symm,HB9.out⟩
  · go_wp2
    go_ret;have h:=HA.out;rw[List.take_of_length_le (by rw[HL.out];omega)] at h;exact⟨ret_bool h.symm,HBR.out⟩
def RptR(K:List Ci)(lev:Int)(f:Nat)(x:Cl)(left:Int)(w:World)(e:Ending)(w':World):Prop:=
 ∃(v:Value) (L:List Cl) (n:Int),e=.returned (.tuple #[v,vi vk n])∧w'.ownsRow w.heap.size 55 3 v L.length (cvs L)∧Below w.heap.size w w'∧(0≤n→L=prt (agP K) (suP K) lev f x∧n=left-(prn (agP K) (suP K) lev f x:Int))∧ -1≤n∧n<left∧(L.length:Int)≤left-n
def RptOk(f:Nat):Prop:= ∀(K:List Ci) (A:Option Addr) (n c:Nat) (l r cc lev left:Int) (w:World),(∀k∈K,VCi k)→n≤1000→Reads w w.heap.size 6 A n (civs K)→Vl (l,r,cc)→l+(f:Int)=16→lev≤16→0≤left→left≤1000→
 Calls Tryz.prog 54 #[.slice A n c,.agg #[vi vk l,vi vk r,vi vk cc],vi vk lev,vi vk left] w (RptR K lev f (l,r,cc) left w)
theorem rpt_step(f:Nat)(ih: ∀f',f=f'+1→RptOk f'):RptOk f:=by
 intro K A n c l r cc lev left w hK hn hrd hx hl h16 l0 l1;have hx0:0≤l:=hx.l0;have hr1:=(hrd.alloc (Nat.le_refl _) (.cells #[vi vk l,vi vk r,vi vk cc] 55)).more (B':=(w.alloc (.cells #[vi vk l,vi vk r,vi vk cc] 55)).heap.size) (by simp);have KA:=rAgAll_any A n c K (l,r,cc) _ hr1 (by simp only[maxLen];omega) hK hx;have KS:=hid (fun(W:World) (hr:Reads W W.heap.size 6 A n (civs K))=>rSurely_any A n c K (l,r,cc) W hr (by simp only[maxLen];omega) hK hx);have hga:(K.all fun k=>agC k (l,r,cc))=agP K (l,r,cc):=rfl;rw[hga] at KA;clear hga;have G1:=hid (Blk.new w 55 #[vi vk l,vi vk r,vi vk cc]);have B0:=hid (bl_alloc w (.cells #[vi vk l,vi vk r,vi vk cc] 55));have RD:=hid hrd;have HK:=hid hK;have HX:=hid hx;have IH:=hid ih;have hw:wrap64 (left-1)=left-1:=IntWalk.wrap64_in _ om_;simp only[] at KA;clear hr1 hrd hK hx ih;by_cases hl0:left=0
 · subst hl0
   clear KA KS;have hw2:wrap64 (-1)= -1:=IntWalk.wrap64_in _ om_;go_enter func54,ntmps54;go_wp2;go_ret2
   exact⟨_,[],-1,by simp,own_nil _ _ _ _,B0.out,fun h=>absurd h om_,om_,om_,by simp⟩
 · have hd0:decide (left-1<0)=false:=decide_eq_false om_
   cases hag:agP K (l,r,cc) with
   |false=>
    rw[hag] at KA;have KA:=hid KA;have HF:Hid (prt (agP K) (suP K) lev f (l,r,cc)=[]∧prn (agP K) (suP K) lev f (l,r,cc)=1):=hid (by cases f<;>(unfold prt prn;rw[hag];simp));clear KS hag;go_enter func54,ntmps54;go_wp2_with fail;(with_reducible refine(KA.out).mono ?_)
    rintro e w2 ⟨rfl,hb2⟩
    have B2:=hid (B0.out.trans (hb2.mono B0.out.size));clear hb2;go_wp2;go_ret2
    exact⟨_,[],left-1,rfl,own_nil _ _ _ _,B2.out,fun _=>⟨HF.out.1.symm,by rw[HF.out.2];rfl⟩,om_,om_,by simp only[List.length_nil];omega⟩
   |true=>
    rw[hag] at KA;have KA:=hid KA;have HGA:=hid hag;clear hag;obtain⟨sv,hsv⟩: ∃b,suP K (l,r,cc)=b:=⟨_,rfl⟩;have hsu:(K.all fun k=>suC k (l,r,cc))=sv:=hsv;rw[hsu] at KS;clear hsu;have HSV:=hid hsv;clear hsv;by_cases hst:lev≤l∨sv=true
    ·
     have hst':decide (lev≤l)=true∨(decide (lev≤l)=false∧sv=true):=by
      by_cases h:lev≤l
      · exact .inl (decide_eq_true h)
      · exact .inr ⟨decide_eq_false h,hst.resolve_left h⟩
     have HF:Hid (prt (agP K) (suP K) lev f (l,r,cc)=[(l,r,cc)]∧prn (agP K) (suP K) lev f (l,r,cc)=1):=hid (by
      have hst2:lev≤l∨suP K (l,r,cc)=true:=by rw[HSV.out];exact hst
      have hga:=HGA.out;cases f with
      |zero=>unfold prn prt;rw[if_pos hga];exact⟨rfl,rfl⟩
      |succ f=>unfold prn prt;rw[if_pos hga,if_pos hga,if_pos hst2,if_pos hst2];exact⟨rfl,rfl⟩)
     clear hst;rcases hst' with hd|⟨hd,rfl⟩
     · clear KS
       go_enter func54,ntmps54;go_wp2_with fail;(with_reducible refine(KA.out).mono ?_)
       rintro e w2 ⟨rfl,hb2⟩
       have B2:=hid (B0.out.trans (hb2.mono B0.out.size));have g2:=G1.out.below hb2 G1.out.lt;have y0:w2.cell? ⟨w.heap.size,0,none⟩=some (vi vk l):=g2.cell 0;have y1:w2.cell? ⟨w.heap.size,1,none⟩=some (vi vk r):=g2.cell 1;have y2:w2.cell? ⟨w.heap.size,2,none⟩=some (vi vk cc):=g2.cell 2;have HO:=hid (own_new w2 w.heap.size 55 3 1 _ #[vi vk l,vi vk r,vi vk cc] rfl B2.out.size rfl dc_);have BB:=hid (B2.out.alloc B2.out.size (.cells #[vi vk l,vi vk r,vi vk cc] 55));clear hb2 g2;go_wp2;go_ret2
       exact⟨_,[(l,r,cc)],left-1,rfl,HO.out,BB.out,fun _=>⟨HF.out.1.symm,by rw[HF.out.2];rfl⟩,om_,om_,by simp only[List.length_cons,List.length_nil];omega⟩
     · go_enter func54,ntmps54
       go_wp2_with fail;(with_reducible refine(KA.out).mono ?_)
       rintro e w2 ⟨rfl,hb2⟩
       have B2:=hid (B0.out.trans (hb2.mono B0.out.size));have G2:=hid (G1.out.below hb2 G1.out.lt);have y0:w2.cell? ⟨w.heap.size,0,none⟩=some (vi vk l):=G2.out.cell 0;have y1:w2.cell? ⟨w.heap.size,1,none⟩=some (vi vk r):=G2.out.cell 1;have y2:w2.cell? ⟨w.heap.size,2,none⟩=some (vi vk cc):=G2.out.cell 2;have KS2:=hid (KS.out w2 ((RD.out.below B2.out).more B2.out.size));clear hb2 KS;go_wp2_with fail;(with_reducible refine(KS2.out).mono ?_)
       rintro e w3 ⟨rfl,hb3⟩
       have B3:=hid (B2.out.trans (hb3.mono B2.out.size));have g3:=G2.out.below hb3 G2.out.lt;clear y0 y1 y2;have y0:w3.cell? ⟨w.heap.size,0,none⟩=some (vi vk l):=g3.cell 0;have y1:w3.cell? ⟨w.heap.size,1,none⟩=some (vi vk r):=g3.cell 1;have y2:w3.cell? ⟨w.heap.size,2,none⟩=some (vi vk cc):=g3.cell 2;have HO:=hid (own_new w3 w.heap.size 55 3 1 _ #[vi vk l,vi vk r,vi vk cc] rfl B3.out.size rfl dc_);have BB:=hid (B3.out.alloc B3.out.size (.cells #[vi vk l,vi vk r,vi vk cc] 55));clear hb3 g3;go_wp2;go_ret2
       exact⟨_,[(l,r,cc)],left-1,rfl,HO.out,BB.out,fun _=>⟨HF.out.1.symm,by rw[HF.out.2];rfl⟩,om_,om_,by simp only[List.length_cons,List.length_nil];omega⟩
    ·
     have hd:decide (lev≤l)=false:=decide_eq_false fun h=>hst (.inl h);have hsf:sv=false:=by
      cases sv with
      |false=>rfl
      |true=>exact absurd (.inr rfl) hst
     subst hsf;have hlt:l<lev:=by
      have: ¬lev≤l:=fun h=>hst (.inl h);omega
     obtain⟨f',rfl⟩: ∃f',f=f'+1:=⟨f-1,om_⟩;have IH2:=hid (IH.out f' rfl);obtain⟨v0,v1,v2,v3,v4,v5⟩:=vldB_true.1 ((vl_iff (l,r,cc)).2 HX.out);have hpw:=pw_bd v1;simp only[] at v0 v1 v2 v3 v4 v5 hpw;have hl16:l<16:=by omega
     have KC:=hid (fun W=>refChildren_any l r cc W v0 v1 v2 om_ v4 om_);rw[show kids l r cc=kidsC (l,r,cc) from rfl] at KC;have HA:Hid (prt (agP K) (suP K) lev (f'+1) (l,r,cc)=(kidsC (l,r,cc)).flatMap (prt (agP K) (suP K) lev f')∧prn (agP K) (suP K) lev (f'+1) (l,r,cc)=1+((kidsC (l,r,cc)).map (prn (agP K) (suP K) lev f')).sum):=hid (by
      have hst2: ¬(lev≤(l,r,cc).1∨suP K (l,r,cc)=true):=by rw[HSV.out];exact hst
      conv=>lhs;lhs;unfold prt
      conv=>rhs;lhs;unfold prn
      rw[if_pos HGA.out,if_neg hst2,if_pos HGA.out,if_neg hst2];exact⟨rfl,rfl⟩)
     have HKV:Hid (AllV (kidsC (l,r,cc))):=hid (kids_vl HX.out hl16);have HKL:Hid (∀x∈kidsC (l,r,cc),x.1+(f':Int)=16):=hid (fun x hx=>(kid_one (by simpa using hl) x hx).1);have hkn:(kidsC (l,r,cc)).length=4:=rfl;obtain⟨i0,hi0,hz0,hz1,hzb⟩:=info_parts Tryz.infoCell;generalize kidsC (l,r,cc)=KK at KC HA HKV HKL hkn;clear v0 v1 v2 v3 v4 v5 hpw hl hlt hst IH HGA HSV;go_enter func54,ntmps54;go_wp2_with fail;(with_reducible refine(KA.out).mono ?_)
     rintro e w2 ⟨rfl,hb2⟩
     have B2:=hid (B0.out.trans (hb2.mono B0.out.size));have G2:=hid (G1.out.below hb2 G1.out.lt);have y0:w2.cell? ⟨w.heap.size,0,none⟩=some (vi vk l):=G2.out.cell 0;have y1:w2.cell? ⟨w.heap.size,1,none⟩=some (vi vk r):=G2.out.cell 1;have y2:w2.cell? ⟨w.heap.size,2,none⟩=some (vi vk cc):=G2.out.cell 2;have KS2:=hid (KS.out w2 ((RD.out.below B2.out).more B2.out.size));clear hb2 KS KA;go_wp2_with fail;(with_reducible refine(KS2.out).mono ?_)
     rintro e w3 ⟨rfl,hb3⟩
     have B3:=hid (B2.out.trans (hb3.mono B2.out.size));have g3:=G2.out.below hb3 G2.out.lt;clear y0 y1 y2;have y0:w3.cell? ⟨w.heap.size,0,none⟩=some (vi vk l):=g3.cell 0;have y1:w3.cell? ⟨w.heap.size,1,none⟩=some (vi vk r):=g3.cell 1;have y2:w3.cell? ⟨w.heap.size,2,none⟩=some (vi vk cc):=g3.cell 2;clear hb3 g3 G2 KS2;go_wp2_with fail;(with_reducible refine(KC.out _).mono ?_)
     rintro e w4 ⟨vk,rfl,hownk,hb4⟩
     rw[hkn] at hownk;obtain⟨Ak,ck,rfl,hrk,-,-⟩:=own_form hownk;have RK:=hid hrk;have B4:=hid (B3.out.trans (hb4.mono B3.out.size));clear hownk hrk hb4 y0 y1 y2 KC;go_wp2;go_loopg [3,11,12,13,14] 4 (fun gz s3 s11 s12 s13 s14 wr=> ∃(k:Nat) (L:List Cl) (u:Value) (m:Int),k≤4∧k+gz=4∧s12=vi vk k∧s3=vi vk m∧s11=u∧wr.ownsRow w4.heap.size 55 3 u L.length (cvs L)∧Below w4.heap.size w4 wr∧(0≤m→L=otT (prt (agP K) (suP K) lev f') KK k∧m=left-1-(lkT (prn (agP K) (suP K) lev f') KK k:Int))∧ -1≤m∧m≤left-1∧(L.length:Int)≤left-1-m)
     case atStart=>exact⟨0,[],_,left-1,om_,om_,rfl,rfl,rfl,own_nil _ _ _ _,Below.refl _ _,fun _=>⟨rfl,by simp[lkT]⟩,om_,om_,by simp⟩
     case round=>
      obtain⟨k,L,u,m,hk4,hkg,rfl,rfl,rfl,hown,hbr,hall,hm1,hm2,hm3⟩:=hrel;have hLlen:L.length≤2000:=by omega
      have HOW:=hid hown;have HAL:=hid hall;have HBR:=hid hbr;clear hown hall hbr;by_cases hk:k<4
      · have d0:decide ((k:Int)<4)=true:=decide_eq_true om_
        by_cases hm0:0≤m
        · have d1:decide (0≤m)=true:=decide_eq_true hm0
          obtain⟨b,off,rfl,hb,x0,x1,x2⟩:=RK.out.elem hk;have hmem:gt KK k∈KK:=by simp[gt,show k<KK.length by omega]
          have hxv:=HKV.out _ hmem;have hxl:=HKL.out _ hmem;obtain⟨x,hx'⟩: ∃x,gt KK k=x:=⟨_,rfl⟩;have hgk:Hid (gt KK k=x):=hid hx';rw[hx'] at x0 x1 x2 hxv hxl;clear hx' hmem;have y0:=(HBR.out.cell (p:=⟨b,off+k*3,none⟩) hb).trans x0;have y1:=(HBR.out.cell (p:=⟨b,off+k*3+1,none⟩) hb).trans x1;have y2:=(HBR.out.cell (p:=⟨b,off+k*3+2,none⟩) hb).trans x2;have BR:=B4.out.trans (HBR.out.mono B4.out.size);have IH3:=IH2.out K A n c x.1 x.2.1 x.2.2 lev m wr HK.out hn ((RD.out.below BR).more BR.size) hxv hxl h16 hm0 om_;obtain⟨x_0,x_1,x_2⟩:=x;simp only[] at y0 y1 y2 IH3 hxl;have IH3:=hid IH3;clear x0 x1 x2 hxv hxl BR;go_wp2_with fail;(with_reducible refine(IH3.out).mono ?_)
          rintro e w9 ⟨v9,L9,n9,rfl,ho9,hT,ha9,hn9a,hn9b,hl9⟩
          have B9:=hid (HBR.out.trans (hT.mono HBR.out.size));have hHA:0≤n9→L++L9=otT (prt (agP K) (suP K) lev f') KK (k+1)∧n9=left-1-(lkT (prn (agP K) (suP K) lev f') KK (k+1):Int):=fun h=>by
           obtain⟨e1,e2⟩:=ha9 h;obtain⟨e3,e4⟩:=HAL.out hm0;rw[otT_succ _ _ _ om_,lkT_succ _ _ _ om_,hgk.out,←e1,←e3];exact⟨rfl,om_⟩
          have HHA:=hid hHA;have hlen9:L9.length≤2000:=by omega
          obtain⟨A9,c9,rfl,hr9,-,-⟩:=own_form ho9;have R9:=hid hr9;have OU:=hid (own_bl HOW.out hT (Nat.le_refl _));have hbz:w4.heap.size≤w9.heap.size:=B9.out.size;clear hT hHA ha9 ho9 hr9 HOW HAL y0 y1 y2;go_wp2_with (at_builtin;(refine wpList_append_any _ rfl (.tmp 59) (.tmp 60) _ rfl w4.heap.size 55 i0 _ 3 24 underlying44 hi0 hz0 hz1 hzb rfl dc_ u11 L.length (cvs L) rfl OU.out w9.heap.size A9 L9.length c9 (cvs L9) rfl R9.out (cvs_one _) (by simp only[maxLen];omega) om_ hbz ?_);intro v2 w2' hown2 hg2 hat2;rw[←cvs_append,←List.length_append] at hown2);go_roundg (4-(k+1))
          case measure=>omega
          case rel=>exact⟨k+1,L++L9,v2,n9,om_,om_,by go_num,rfl,rfl,hown2,B9.out.grown hg2 hbz (own_base OU.out),HHA.out,hn9a,om_,by rw[List.length_append];omega⟩
        · have d1:decide (0≤m)=false:=decide_eq_false hm0
          have B9:=hid (B4.out.trans (HBR.out.mono B4.out.size));have OW:=hid (own_mono HOW.out B4.out.size);clear HOW HAL HBR;go_wp2;go_ret2
          exact⟨u11,L,m,rfl,OW.out,B9.out,fun h=>absurd h om_,hm1,om_,om_⟩
      · have hk4':k=4:=by omega
        subst hk4';have HAF:Hid (0≤m→L=prt (agP K) (suP K) lev (f'+1) (l,r,cc)∧m=left-(prn (agP K) (suP K) lev (f'+1) (l,r,cc):Int)):=hid (fun h=>by
         obtain⟨e3,e4⟩:=HAL.out h;rw[HA.out.1,HA.out.2,←lkT_all,←otT_all,hkn];exact⟨e3,om_⟩)
        have B9:=hid (B4.out.trans (HBR.out.mono B4.out.size));have OW:=hid (own_mono HOW.out B4.out.size);clear HOW HAL HBR;go_wp2;go_ret2
        exact⟨u11,L,m,rfl,OW.out,B9.out,HAF.out,hm1,om_,om_⟩
theorem rpt_ok(f:Nat):RptOk f:=by
 induction f with
 |zero=>exact rpt_step 0 (fun f' h=>absurd h om_)
 |succ f ih=>exact rpt_step (f+1) (fun f' h=>by cases h;exact ih)
section
def VTo(L:List Cl)(k:Nat):Prop:= ∀i,i<k→vldB (gt L i).1 (gt L i).2.1 (gt L i).2.2=true
theorem VTo.zero(L:List Cl):VTo L 0:=fun i h=>by omega
theorem VTo.succ{L:List Cl}{k:Nat}(h:VTo L k)(hk:vldB (gt L k).1 (gt L k).2.1 (gt L k).2.2=true):VTo L (k+1):=fun i hi=>by
 by_cases e:i=k
 · subst e;exact hk
 · exact h i om_
theorem VTo.good{L:List Cl}(h:VTo L L.length):badL L=false:=by
 unfold badL;rw[List.any_eq_false];intro x hx;obtain⟨i,hi,rfl⟩:=List.mem_iff_getElem.1 hx;have:=h i hi;simp only[gt,List.getD_eq_getElem?_getD,hi,getElem?_pos,Option.getD_some] at this;rw[this];simp
theorem bad_at{L:List Cl}{k:Nat}(hk:k<L.length)(h:vldB (gt L k).1 (gt L k).2.1 (gt L k).2.2=false):rvrB L=false:=by
 have:badL L=true:=by
  unfold badL;rw[List.any_eq_true];exact⟨gt L k,gt_mem L k hk,by rw[h];rfl⟩
 unfold rvrB;rw[this];simp
theorem PairsTo.one(L:List Cl):PairsTo L 1:=fun i h=>by omega
theorem PairsTo.succ{L:List Cl}{j:Nat}(h:PairsTo L (j+1))(hk:pairOk (gt L j) (gt L (j+1))=true):PairsTo L (j+2):=fun i hi=>by
 by_cases e:i=j
 · subst e;exact hk
 · exact h i om_
theorem FoursTo.three(L:List Cl):FoursTo L 3:=fun i h=>by omega
theorem FoursTo.succ{L:List Cl}{j:Nat}(h:FoursTo L (j+3))(hk:fourOk (gt L j) (gt L (j+1)) (gt L (j+2)) (gt L (j+3))=true):FoursTo L (j+4):=fun i hi=>by
 by_cases e:i=j
 · subst e;exact hk
 · exact h i om_
theorem pairs_no{L:List Cl}{j:Nat}(hj:j+1<L.length)(h:pairOk (gt L j) (gt L (j+1))=false):rvrB L=false:=by
 have: ¬PairsTo L L.length:=fun hp=>by
  have:=hp j hj;rw[h] at this;exact Bool.noConfusion this
 unfold rvrB;simp[this]
theorem fours_no{L:List Cl}{j:Nat}(hj:j+3<L.length)(h:fourOk (gt L j) (gt L (j+1)) (gt L (j+2)) (gt L (j+3))=false):rvrB L=false:=by
 have: ¬FoursTo L L.length:=fun hp=>by
  have:=hp j hj;rw[h] at this;exact Bool.noConfusion this
 unfold rvrB;simp[this]
theorem rvr_long{L:List Cl}(h:4000<L.length):rvrB L=false:=by
 unfold rvrB;have: ¬L.length≤4000:=by omega
 simp[this]
theorem rvr_yes{L:List Cl}(h:L.length≤4000)(h1:VTo L L.length)(h2:PairsTo L L.length)(h3:FoursTo L L.length):rvrB L=true:=by
 unfold rvrB;simp[h,h1.good,h2,h3]
theorem PairsTo.less{L:List Cl}{k j:Nat}(h:PairsTo L k)(hj:j≤k):PairsTo L j:=fun i hi=>h i om_
theorem FoursTo.less{L:List Cl}{k j:Nat}(h:FoursTo L k)(hj:j≤k):FoursTo L j:=fun i hi=>h i om_
structure BW(w0:World) where
 w:World
 hb:Below w0.heap.size w0 w
instance bwSome (w0:World):Nonempty (BW w0):=⟨⟨w0,Below.refl _ _⟩⟩
theorem wp_region_bw{P:Program}{id:Nat}{Q:Exit→Act→World→Prop}{a:Act}{w:World}{l:List Oper}(w0:World)(hm:P.follows .mixedOrders=true)(hB:Region.lexB .any l.toArray=true)(h0:Below w0.heap.size w0 w)
 (h:wpQuiet P l.toArray (fun w'=> ∃s:BW w0,w'=s.w) (fun a'=> ∀w9,Below w0.heap.size w0 w9→Q .normal a' w9) l a):(Code.region id l.toArray true).wp P Q a w:=by
 have e:(fun a'=> ∀w9,Below w0.heap.size w0 w9→Q .normal a' w9)=(fun a':Act=> ∀w',(∃s:BW w0,w'=s.w)→Q .normal a' w'):=
  funext fun a'=>propext ⟨fun h w' ⟨s,hs⟩=>hs▸h s.w s.hb,fun h w9 hb=>h w9 ⟨⟨w9,hb⟩,rfl⟩⟩
 rw[e] at h;exact wp_region_quiet (C:=fun w'=> ∃s:BW w0,w'=s.w) hm hB ⟨⟨_,bl_drew h0⟩,rfl⟩ (by simpa using h)
theorem quiet_bw{P:Program}{f:FuncId}{args:Array Value}{w0:World}{s:BW w0}{v:Value}(h:Calls P f args s.w fun e w'=>e=.returned v∧Below s.w.heap.size s.w w'):
 Calls P f args s.w fun e w''=>e=.returned v∧ ∃s':BW w0,w''=s'.w:=
 h.mono fun _ w' ⟨he,hb⟩=>⟨he,⟨w',s.hb.trans (hb.mono s.hb.size)⟩,rfl⟩
theorem pw_le{l:Int}(h:l≤16):pw l≤65536:=by
 unfold pw;have h1:l.toNat≤16:=by omega
 have h2:=Nat.pow_le_pow_right (show 0<2 by omega) h1;have h3:((2^l.toNat:Nat):Int)≤((2^16:Nat):Int):=Int.ofNat_le.2 h2;simpa using h3
theorem reads_four{w:World}{B b off n j:Nat}{L:List Cl}(h:Reads w B 3 (some ⟨b,off,none⟩) n (cvs L))(hj:j+3<n):
 Reads w B 3 (some ⟨b,off+j*3,none⟩) 4 (cvs [gt L j,gt L (j+1),gt L (j+2),gt L (j+3)]):=by
 obtain⟨_,_,e,hb,a0,a1,a2⟩:=h.elem (k:=j) om_;cases e
 obtain⟨_,_,e,_,b0,b1,b2⟩:=h.elem (k:=j+1) om_;cases e
 obtain⟨_,_,e,_,c0,c1,c2⟩:=h.elem (k:=j+2) om_;cases e
 obtain⟨_,_,e,_,d0,d1,d2⟩:=h.elem (k:=j+3) om_;cases e
 have e1:off+(j+1)*3=off+j*3+3:=by omega
 have e2:off+(j+2)*3=off+j*3+6:=by omega
 have e3:off+(j+3)*3=off+j*3+9:=by omega
 rw[e1] at b0 b1 b2;rw[e2] at c0 c1 c2;rw[e3] at d0 d1 d2;generalize gt L j=x at*;generalize gt L (j+1)=y at*;generalize gt L (j+2)=z at*;generalize gt L (j+3)=u at*;refine⟨rfl,fun _=>⟨_,rfl,hb,fun i v hv=>?_⟩⟩;rw[Go.WideShapes.add_plain];match i,hv with
 |0,hv=>cases hv;exact a0
 |1,hv=>cases hv;exact a1
 |2,hv=>cases hv;exact a2
 |3,hv=>cases hv;exact b0
 |4,hv=>cases hv;exact b1
 |5,hv=>cases hv;exact b2
 |6,hv=>cases hv;exact c0
 |7,hv=>cases hv;exact c1
 |8,hv=>cases hv;exact c2
 |9,hv=>cases hv;exact d0
 |10,hv=>cases hv;exact d1
 |11,hv=>cases hv;exact d2
 |i+12,hv=>cases hv
theorem refVR_any(A:Option Addr)(n ca:Nat)(L:List Cl)(w:World)(hr:Reads w w.heap.size 3 A n (cvs L))(hn:n≤ca)(hca:ca≤maxLen):
 Calls Tryz.prog 53 #[.slice A n ca] w fun e w'=>e=.returned (.bool (rvrB L))∧Below w.heap.size w w':=by
 have hl:=hr.len;unfold maxLen at hca;obtain⟨R,hR⟩: ∃R,R=rvrB L:=⟨_,rfl⟩;rw[←hR];have HR:=hid hR;have HL:=hid hl;have RD:=hid hr;clear hR hl hr;by_cases hbig:4000<n
 · have e1:=hid (rvr_long (L:=L) (by rw[HL.out];exact hbig))
   go_enter func53,ntmps53;go_wp2;go_ret;exact⟨ret_bool (by rw[HR.out,e1.out]),Below.refl _ _⟩
 · go_enter func53,ntmps53
   go_wp2;go_loopw [3] (fun i wr=> ∃k:Nat,k≤n∧i=vi vk k∧VTo L k∧Below w.heap.size w wr) (fun i _=>n-(intOf i).toNat)
   case atStart=>exact⟨0,Nat.zero_le _,rfl,VTo.zero L,Below.refl _ _⟩
   case round=>
    obtain⟨k,hk,rfl,hV,hbr⟩:=hrel;have zr:=hbr.size;by_cases hlt:k<n
    · have hR2:=RD.out.below hbr
      obtain⟨b,off,rfl,hb,x1,x2,x3⟩:=hR2.elem hlt;have hkl:k<L.length:=by rw[HL.out];exact hlt
      have y1:=hid (fun h=>VTo.succ hV h);have y2:=hid (bad_at hkl);clear hR2;generalize gt L k=y at x1 x2 x3 y1 y2;obtain⟨ya,yb,yc⟩:=y;simp only[] at x1 x2 x3 y1 y2;have V:=hid (fun W=>refValid_any ya yb yc W);cases hv:vldB ya yb yc with
      |true=>
       have h3:=hid (y1.out hv);rw[hv] at V;clear y1 y2 hv;go_wp2_with (go_at_call 90;(with_reducible refine(V.out _).mono ?_);rintro e w1 ⟨rfl,hb1⟩);go_roundw
       case rel=>exact⟨k+1,om_,by go_num,h3.out,hbr.trans (hb1.mono zr)⟩
       case measure=>simp[intOf];omega
      |false=>
       have h3:=hid (y2.out hv);rw[hv] at V;clear y1 y2 hv;go_wp2_with (go_at_call 90;(with_reducible refine(V.out _).mono ?_);rintro e w1 ⟨rfl,hb1⟩);go_ret;exact⟨ret_bool (by rw[HR.out,h3.out]),hbr.trans (hb1.mono zr)⟩
    · have hkn:k=n:=by omega
      have hV':VTo L L.length:=by rw[HL.out];exact hkn▸hV
      have HV:=hid hV';have HBr:=hid hbr;clear hV hV' hbr hkn hk;go_wp2;go_loopw [4] (fun i wr2=> ∃k j:Nat,k=j+1∧i=vi vk k∧PairsTo L k∧Below w.heap.size w wr2) (fun i _=>n+1-(intOf i).toNat)
      case atStart=>exact⟨1,0,rfl,rfl,PairsTo.one L,HBr.out⟩
      case round=>
       clear HBr hlt zr;obtain⟨k,j,hkj,rfl,hP,hbr⟩:=hrel;have zr:=hbr.size;by_cases hlt:k<n
       · have hj:j<n:=by omega
         obtain⟨b,off,rfl,hb,x1,x2,x3⟩:=RD.out.elem hj;obtain⟨b',off',e',_,y1,y2,y3⟩:=RD.out.elem hlt;cases e'
         have hvx:=HV.out j (by rw[HL.out];omega);have hvy:=HV.out k (by rw[HL.out];omega);have p1:Hid (pairOk (gt L j) (gt L k)=true→PairsTo L (k+1)):=hid (by subst hkj;exact fun h=>PairsTo.succ hP h);have p2:Hid (pairOk (gt L j) (gt L k)=false→rvrB L=false):=hid (by subst hkj;exact pairs_no (by rw[HL.out];omega));clear hP;generalize gt L j=x at x1 x2 x3 hvx p1 p2;generalize gt L k=y at y1 y2 y3 hvy p1 p2;obtain⟨xa,xb,xc⟩:=x;obtain⟨ya,yb,yc⟩:=y;simp only[] at x1 x2 x3 y1 y2 y3 hvx hvy;obtain⟨vx0,vx1,-⟩:=vldB_true.1 hvx;obtain⟨vy0,vy1,-⟩:=vldB_true.1 hvy;have W1:=hid (fun W=>Within_any ya yb yc xa xb xc W vy0 vy1 vx0 vx1);have W2:=hid (fun W=>Within_any xa xb xc ya yb yc W vx0 vx1 vy0 vy1);have W3:=hid (fun W=>before_any xa xb xc ya yb yc W vx0 vx1 vy0 vy1);clear hvx hvy vx0 vx1 vy0 vy1;have SJ:Hid (IntKind.i64.wrap ((k:Int)-1)=(j:Int)):=hid ((IntWalk.i64_in _ om_).trans om_);clear hkj;have cx1: ∀s:BW w,s.w.cell? ⟨b,off+j*3,none⟩=some (vi vk xa):=fun s=>(s.hb.cell (p:=⟨b,off+j*3,none⟩) hb).trans x1;have cx2: ∀s:BW w,s.w.cell? ⟨b,off+j*3+1,none⟩=some (vi vk xb):=fun s=>(s.hb.cell (p:=⟨b,off+j*3+1,none⟩) hb).trans x2;have cx3: ∀s:BW w,s.w.cell? ⟨b,off+j*3+2,none⟩=some (vi vk xc):=fun s=>(s.hb.cell (p:=⟨b,off+j*3+2,none⟩) hb).trans x3;have cy1: ∀s:BW w,s.w.cell? ⟨b,off+k*3,none⟩=some (vi vk ya):=fun s=>(s.hb.cell (p:=⟨b,off+k*3,none⟩) hb).trans y1;have cy2: ∀s:BW w,s.w.cell? ⟨b,off+k*3+1,none⟩=some (vi vk yb):=fun s=>(s.hb.cell (p:=⟨b,off+k*3+1,none⟩) hb).trans y2;have cy3: ∀s:BW w,s.w.cell? ⟨b,off+k*3+2,none⟩=some (vi vk yc):=fun s=>(s.hb.cell (p:=⟨b,off+k*3+2,none⟩) hb).trans y3;clear x1 x2 x3 y1 y2 y3;go_upto_region 11 with (fail)
         have sj:=SJ.out;cases c1:wiB (ya,yb,yc) (xa,xb,xc) with
         |true=>
          have h3:=hid (p2.out (by simp[pairOk,c1]));rw[c1] at W1;clear p1 p2 c1;refine wp_region_bw w (by kernel_rfl) (by kernel_rfl) hbr ?_;(repeat (go_big_quiet_step (first|(go_at_call 91;with_reducible exact quiet_bw (W1.out _))|(go_at_call 91;with_reducible exact quiet_bw (W2.out _))|(go_at_call 92;with_reducible exact quiet_bw (W3.out _))|fail)))
          refine wpQuiet_nil ?_;intro w9 hb9;clear sj cx1 cx2 cx3 cy1 cy2 cy3 SJ W1 W2 W3 hbr zr;go_wp2;go_ret;exact⟨ret_bool (by rw[HR.out,h3.out]),hb9⟩
         |false=>
          rw[c1] at W1;cases c2:wiB (xa,xb,xc) (ya,yb,yc) with
          |true=>
           have h3:=hid (p2.out (by simp[pairOk,c2]));rw[c2] at W2;clear p1 p2 c1 c2;refine wp_region_bw w (by kernel_rfl) (by kernel_rfl) hbr ?_;(repeat (go_big_quiet_step (first|(go_at_call 91;with_reducible exact quiet_bw (W1.out _))|(go_at_call 91;with_reducible exact quiet_bw (W2.out _))|(go_at_call 92;with_reducible exact quiet_bw (W3.out _))|fail)))
           refine wpQuiet_nil ?_;intro w9 hb9;clear sj cx1 cx2 cx3 cy1 cy2 cy3 SJ W1 W2 W3 hbr zr;go_wp2;go_ret;exact⟨ret_bool (by rw[HR.out,h3.out]),hb9⟩
          |false=>
           rw[c2] at W2;cases c3:befB (xa,xb,xc) (ya,yb,yc) with
           |false=>
            have h3:=hid (p2.out (by simp[pairOk,c3]));rw[c3] at W3;clear p1 p2 c1 c2 c3;refine wp_region_bw w (by kernel_rfl) (by kernel_rfl) hbr ?_;(repeat (go_big_quiet_step (first|(go_at_call 91;with_reducible exact quiet_bw (W1.out _))|(go_at_call 91;with_reducible exact quiet_bw (W2.out _))|(go_at_call 92;with_reducible exact quiet_bw (W3.out _))|fail)))
            refine wpQuiet_nil ?_;intro w9 hb9;clear sj cx1 cx2 cx3 cy1 cy2 cy3 SJ W1 W2 W3 hbr zr;go_wp2;go_ret;exact⟨ret_bool (by rw[HR.out,h3.out]),hb9⟩
           |true=>
            have h3:=hid (p1.out (by simp[pairOk,c1,c2,c3]));rw[c3] at W3;clear p1 p2 c1 c2 c3;refine wp_region_bw w (by kernel_rfl) (by kernel_rfl) hbr ?_;(repeat (go_big_quiet_step (first|(go_at_call 91;with_reducible exact quiet_bw (W1.out _))|(go_at_call 91;with_reducible exact quiet_bw (W2.out _))|(go_at_call 92;with_reducible exact quiet_bw (W3.out _))|fail)))
            refine wpQuiet_nil ?_;intro w9 hb9;clear sj cx1 cx2 cx3 cy1 cy2 cy3 SJ W1 W2 W3 hbr zr;go_wp2;go_roundw
            case rel=>exact⟨k+1,k,rfl,by go_num,h3.out,hb9⟩
            case measure=>simp[intOf];omega
       · have hP':PairsTo L L.length:=by rw[HL.out];exact hP.less om_
         have HP:=hid hP';have HBr:=hid hbr;clear hP hP' hbr hkj;go_wp2;go_loopw [5] (fun i wr2=> ∃k j:Nat,k=j+3∧i=vi vk k∧FoursTo L k∧Below w.heap.size w wr2) (fun i _=>n+3-(intOf i).toNat)
         case atStart=>exact⟨3,0,rfl,rfl,FoursTo.three L,HBr.out⟩
         case round=>
          clear HBr hlt zr;obtain⟨k,j,hkj,rfl,hF,hbr⟩:=hrel;have zr:=hbr.size;by_cases hlt:k<n
          · have hR2:=RD.out.below hbr
            have hj:j+3<n:=by omega
            obtain⟨b,off,rfl,hb,u1,u2,u3⟩:=hR2.elem hlt;have R4:=hid (fun(W:World) (hW:Below w.heap.size w W)=>((reads_four (RD.out.below hW) hj).more hW.size));have hvx:=HV.out j (by rw[HL.out];omega);have f1:Hid (fourOk (gt L j) (gt L (j+1)) (gt L (j+2)) (gt L k)=true→FoursTo L (k+1)):=hid (by subst hkj;exact fun h=>FoursTo.succ hF h);have f2:Hid (fourOk (gt L j) (gt L (j+1)) (gt L (j+2)) (gt L k)=false→rvrB L=false):=hid (by subst hkj;exact fours_no (by rw[HL.out];omega));rw[←hkj] at R4;clear hR2 hF;generalize gt L k=u at u1 u2 u3 R4 f1 f2;generalize gt L j=x at hvx R4 f1 f2;generalize gt L (j+1)=y at R4 f1 f2;generalize gt L (j+2)=z at R4 f1 f2;obtain⟨ua,ub,uc⟩:=u;obtain⟨xa,xb,xc⟩:=x;simp only[] at u1 u2 u3 hvx;have blt:=Nat.lt_of_lt_of_le hb zr;have B4:=hid (fun(W:World) (hW:Below w.heap.size w W) (c:Nat)=>by
             obtain⟨g0,g1,g2,g3,g4,g5⟩:=vldB_true.1 hvx;have gp:=pw_le g1;exact brothers_any (some ⟨b,off+j*3,none⟩) c xa xb xc y z (ua,ub,uc) W (R4.out W hW) g0 g1 g2 om_ g4 om_)
            clear R4 hvx;have hlo:(k:Int)-3=(j:Int):=by omega
            have hl4:k+1-j=4:=by omega
            have hjk:(j:Int)≤(k:Int)+1:=by omega
            have hkc:(k:Int)+1≤(ca:Int):=by omega
            have HKJ:=hid hkj;clear hkj;by_cases hpos:0<ua
            · cases hb4:broB (xa,xb,xc) y z (ua,ub,uc) with
              |true=>
               have h3:=hid (f2.out (by simp[fourOk,hpos,hb4]));rw[hb4] at B4;clear f1 f2;go_wp2_with fail;(with_reducible refine(B4.out _ hbr _).mono ?_)
               rintro e w9 ⟨rfl,hb9⟩
               go_wp2;go_ret;exact⟨ret_bool (by rw[HR.out,h3.out]),hbr.trans (hb9.mono zr)⟩
              |false=>
               have h3:=hid (f1.out (by simp[fourOk,hb4]));rw[hb4] at B4;clear f1 f2;go_wp2_with fail;(with_reducible refine(B4.out _ hbr _).mono ?_)
               rintro e w9 ⟨rfl,hb9⟩
               clear hlo hl4 hjk hkc;go_wp2;go_roundw
               case rel=>exact⟨k+1,j+1,by have:=HKJ.out;omega,by go_num,h3.out,hbr.trans (hb9.mono zr)⟩
               case measure=>simp[intOf];omega
            · have h3:=hid (f1.out (by simp[fourOk,hpos]))
              clear f1 f2 hlo hl4 hjk hkc;go_wp2;go_roundw
              case rel=>exact⟨k+1,j+1,by have:=HKJ.out;omega,by go_num,h3.out,hbr⟩
              case measure=>simp[intOf];omega
          · have h3:R=true:=by
             rw[HR.out];exact rvr_yes (by rw[HL.out];omega) HV.out HP.out (by rw[HL.out];exact hF.less om_)
            have H3:=hid h3;clear h3 hF hkj;go_wp2;go_ret;exact⟨ret_bool (by rw[H3.out]),hbr⟩
end
end Go.Proofs.YtdeiofgddhbdaaaGreat
