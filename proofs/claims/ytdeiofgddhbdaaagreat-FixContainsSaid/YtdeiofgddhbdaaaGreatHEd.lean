/- The walks of fixed.Neg, and of cosine's chain: neg and sub, where nothing fails. -/
import Derived.Test.YtdeiofgddhbdaaaGreatHNl
import Derived.Test.YtdeiofgddhbdaaaGreatHEc
set_option linter.unusedSimpArgs false
set_option linter.unusedVariables false
set_option maxHeartbeats 4000000
set_option maxRecDepth 100000
open Go.RowKit
open Go.Lib (hid)
open Go.Proofs.Tryz
open Go.Value renaming int→vi
open Go.IntKind renaming i64→vk
namespace Go.Proofs.YtdeiofgddhbdaaaGreat
def ROfS(K:List Ci)(lev:Int)(L:List Cl)(most:Int)(w:World)(e:Ending)(w':World):Prop:=
 ∃(Av:Option Addr) (nv cv:Nat) (E:Int),e=.returned (.tuple #[.slice Av nv cv,vi vk E])∧Below w.heap.size w w'∧(E≠6→(prN (agP K) (suP K) lev L:Int)≤most)
theorem rOf2_any(K:List Ci)(A:Option Addr)(n c:Nat)(L:List Cl)(Al:Option Addr)(nl cl:Nat)(lev most:Int)(w:World)(hK: ∀k∈K,VCi k)(hn:n≤40)(hrd:Reads w w.heap.size 6 A n (civs K))(hrl:Reads w w.heap.size 3 Al nl (cvs L))(hnc:nl≤cl)(hcm:cl≤maxLen)(hv:vrB L=true)(h0:0≤lev)(h16:lev≤16)(m0:0≤most)(m1:most≤900):
 Calls Tryz.prog 29 #[.slice A n c,.slice Al nl cl,vi vk lev,vi vk most] w (ROfS K lev L most w):=by
 have hLn:=hrl.len;have hvl:=(vrB_iff L).1 hv;have hLV:AllV L:=hvl.2.1;have KV:=rValid39_any A n c K w hrd (by simp only[maxLen];omega);rw[all_vci hK] at KV;have KV:=hid KV;have KR:=hid (fun(W:World) (h:Below w.heap.size w W)=>refVR_any Al nl cl L W ((hrl.below h).more h.size) hnc hcm);rw[rvrB_eq,hv] at KR;have d0:decide ((40:Int)<(n:Int))=false:=decide_eq_false om_;have d1:decide (lev<0)=false:=decide_eq_false om_;have d2:decide (16<lev)=false:=decide_eq_false om_;have hn4:nl≤4000:=by have:=hvl.1;omega
 obtain⟨i0,hi0,hz0,hz1,hzb⟩:=info_parts Tryz.infoCell;have HK:=hid hK;have RD:=hid hrd;have RL:=hid hrl;have HLV:=hid hLV;have HLN:=hid hLn;clear hK hrd hrl hLV hvl hv hLn hnc hcm;go_enter func29,ntmps29;go_wp2_with fail;(with_reducible refine(KV.out).mono ?_)
 rintro e w1 ⟨rfl,hb1⟩
 have B1:=hid hb1;have KR2:=hid (KR.out w1 hb1);clear hb1 KV KR;go_wp2_with fail;(with_reducible refine(KR2.out).mono ?_)
 rintro e w2 ⟨rfl,hb2⟩
 have B2:=hid (B1.out.trans (hb2.mono B1.out.size));have RD2:=hid ((RD.out.below B2.out).more B2.out.size);have RL2:=hid ((RL.out.below B2.out).more B2.out.size);clear hb2 KR2 B1 RD RL;go_wp2;go_loopg [10,11,12,13,14] nl (fun gz s10 s11 s12 s13 s14 wr=> ∃(k:Nat) (M:List Cl) (u:Value) (m:Int),k≤nl∧k+gz=nl∧s12=vi vk k∧s10=vi vk m∧s11=u∧wr.ownsRow w2.heap.size 55 3 u M.length (cvs M)∧Below w2.heap.size w2 wr∧(0≤m→M=otT (ptP39 K lev) L k∧m=most-(lkT (ptQ39 K lev) L k:Int))∧ -1≤m∧m≤most∧(M.length:Int)≤most-m)
 case atStart=>exact⟨0,[],_,most,om_,om_,rfl,rfl,rfl,own_nil _ _ _ _,Below.refl _ _,fun _=>⟨rfl,by simp[lkT]⟩,om_,om_,by simp⟩
 case round=>
  obtain⟨k,M,u,m,hk4,hkg,rfl,rfl,rfl,hown,hbr,hall,hm1,hm2,hm3⟩:=hrel;have hMlen:M.length≤2000:=by omega
  have HOW:=hid hown;have HAL:=hid hall;have HBR:=hid hbr;clear hown hall hbr;by_cases hstop:k<nl∧0≤m
  · obtain⟨hk,hm0⟩:=hstop
    have e0:decide ((k:Int)<(nl:Int))=true:=decide_eq_true om_;have e1:decide (0≤m)=true:=decide_eq_true hm0;obtain⟨b,off,rfl,hb,x0,x1,x2⟩:=RL2.out.elem hk;have hmem:gt L k∈L:=by simp[gt,show k<L.length by have:=HLN.out;omega]
    have hxv:=HLV.out _ hmem;have hxl:=fuC_eq hxv;obtain⟨x,hx'⟩: ∃x,gt L k=x:=⟨_,rfl⟩;have hgk:Hid (gt L k=x):=hid hx';rw[hx'] at x0 x1 x2 hxv hxl;clear hx' hmem;have y0:=(HBR.out.cell (p:=⟨b,off+k*3,none⟩) hb).trans x0;have y1:=(HBR.out.cell (p:=⟨b,off+k*3+1,none⟩) hb).trans x1;have y2:=(HBR.out.cell (p:=⟨b,off+k*3+2,none⟩) hb).trans x2;have IH3:=rpt_ok (fuC x) K A n c x.1 x.2.1 x.2.2 lev m wr HK.out om_ ((RD2.out.below HBR.out).more HBR.out.size) hxv hxl h16 hm0 om_;have hpp:prt (agP K) (suP K) lev (fuC x) (x.1,x.2.1,x.2.2)=ptP39 K lev x:=rfl;have hpq:prn (agP K) (suP K) lev (fuC x) (x.1,x.2.1,x.2.2)=ptQ39 K lev x:=rfl;unfold RptR at IH3;rw[hpp,hpq] at IH3;have HGK:=hid (show ptP39 K lev (gt L k)=ptP39 K lev x∧ptQ39 K lev (gt L k)=ptQ39 K lev x by rw[hgk.out];exact⟨rfl,rfl⟩);clear hpp hpq hgk;generalize ptP39 K lev x=px at IH3 HGK;generalize ptQ39 K lev x=qx at IH3 HGK;obtain⟨x_0,x_1,x_2⟩:=x;simp only[] at y0 y1 y2 IH3;have IH3:=hid IH3;clear x0 x1 x2 hxv hxl;go_wp2_with fail;(with_reducible refine(IH3.out).mono ?_)
    rintro e w9 ⟨v9,L9,n9,rfl,ho9,hT,ha9,hn9a,hn9b,hl9⟩
    have B9:=hid (HBR.out.trans (hT.mono HBR.out.size));have hHA:0≤n9→M++L9=otT (ptP39 K lev) L (k+1)∧n9=most-(lkT (ptQ39 K lev) L (k+1):Int):=fun h=>by
     obtain⟨e1,e2⟩:=ha9 h;obtain⟨e3,e4⟩:=HAL.out hm0;have hl:=HLN.out;rw[otT_succ _ _ _ om_,lkT_succ _ _ _ om_,HGK.out.1,HGK.out.2,e1,←e3];exact⟨rfl,om_⟩
    have HHA:=hid hHA;have hlen9:L9.length≤2000:=by omega
    obtain⟨A9,c9,rfl,hr9,-,-⟩:=own_form ho9;have R9:=hid hr9;have OU:=hid (own_bl HOW.out hT (Nat.le_refl _));have hbz:w2.heap.size≤w9.heap.size:=B9.out.size;clear hT hHA ha9 ho9 hr9 HOW HAL y0 y1 y2;go_wp2_with (at_builtin;(refine wpList_append_any _ rfl (.tmp 54) (.tmp 55) _ rfl w2.heap.size 55 i0 _ 3 24 underlying44 hi0 hz0 hz1 hzb rfl dc_ u11 M.length (cvs M) rfl OU.out w9.heap.size A9 L9.length c9 (cvs L9) rfl R9.out (cvs_one _) (by simp only[maxLen];omega) om_ hbz ?_);intro v2 w2' hown2 hg2 hat2;rw[←cvs_append,←List.length_append] at hown2);go_roundg (nl-(k+1))
    case measure=>omega
    case rel=>exact⟨k+1,M++L9,v2,n9,om_,om_,by go_num,rfl,rfl,hown2,B9.out.grown hg2 hbz (own_base OU.out),HHA.out,hn9a,om_,by rw[List.length_append];omega⟩
  · by_cases hm0:0≤m
    · have hk':k=nl:=by
       have: ¬k<nl:=fun h=>hstop ⟨h,hm0⟩;omega
      subst hk';obtain⟨e3,e4⟩:=HAL.out hm0;have hl:=HLN.out;have e5:otT (ptP39 K lev) L k=prA (agP K) (suP K) lev L:=by rw[←hl,otT_all];rfl
      have e6:lkT (ptQ39 K lev) L k=prN (agP K) (suP K) lev L:=by rw[←hl,lkT_all];rfl
      rw[e5] at e3;rw[e6] at e4;have hMv:AllV M:=by rw[e3];exact(prA_v h16 HLV.out).1
      have hle:(prN (agP K) (suP K) lev L:Int)≤most:=by omega
      have HLE:=hid hle;obtain⟨A5,c5,rfl,hr5,-,-⟩:=own_form HOW.out;have hML:madeL 1 M []=canonC (covL M):=made_or _ hMv;have hcl:=canonC_len _ hMv;have hc4:(canonC (covL M)).length≤4000:=by omega
      have KMD:=hid (Made_any 1 A5 none M.length 0 c5 0 M [] wr hr5 Reads.none_ om_ om_ (lv_of hMv) (fun y hy=>by cases hy) (.inl rfl));rw[hML] at KMD;have HC4:=hid hc4;have B9:=hid (B2.out.trans (HBR.out.mono B2.out.size));have g0:decide (m<0)=false:=decide_eq_false om_;have g1:decide ((k:Int)<(k:Int))=false:=decide_eq_false om_;clear e3 e4 e5 e6 hMv hle hr5 hML hcl hc4 HOW HAL hstop hl;go_wp2_with fail;(with_reducible refine(KMD.out).mono ?_)
      rintro e w6 ⟨v6,rfl,hown6,hb6⟩
      have B6:=hid (B9.out.trans (hb6.mono B9.out.size));obtain⟨A6,c6,rfl,-,-⟩:=own_form hown6;have hd4:decide (4000<((canonC (covL M)).length:Int))=false:=decide_eq_false (by have:=HC4.out;omega);clear hown6 hb6;go_wp2;go_ret2
      exact⟨_,_,_,0,rfl,B6.out,fun _=>HLE.out⟩
    · have g0:decide (m<0)=true:=decide_eq_true om_
      have g1:decide (0≤m)=false:=decide_eq_false hm0;have B9:=hid (B2.out.trans (HBR.out.mono B2.out.size));clear HOW HAL;by_cases hk:k<nl
      · have g2:decide ((k:Int)<(nl:Int))=true:=decide_eq_true om_
        clear hstop;go_wp2;go_ret2
        exact⟨_,_,_,6,rfl,B9.out,fun h=>absurd rfl h⟩
      · have g2:decide ((k:Int)<(nl:Int))=false:=decide_eq_false om_
        clear hstop;go_wp2;go_ret2
        exact⟨_,_,_,6,rfl,B9.out,fun h=>absurd rfl h⟩
noncomputable def stF (p:Bx) (lev:Int):List Cl:=canonC (covL (arnA (mtP p) (min 4 lev)))
theorem stF_vr{p:Bx}{lev:Int}(h0:0≤lev):vrB (stF p lev)=true:=
 can_vr (arnA_v (mt:=mtP p) (lev:=min 4 lev) om_ om_) (by have:=arnA_cnt (mt:=mtP p) (lev:=min 4 lev) om_;omega)
noncomputable def fxF (K:List Ci) (p:Bx) (lev:Int):List Cl:=canonC (covL (prA (agP K) (suP K) lev (stF p lev)))
theorem fx_con{K:List Ci}{a b lev:Int}(hK: ∀k∈K,VCi k∧sdV (sinPt k a b) (Trig.csP k.2)=0)(h0:0≤lev)(h16:lev≤16)(hv:vptB a b=true):conB (fxF K (a,a,b,b) lev) a b=true:=
 prA_ptP (fun k hk=>(hK k hk).1) h16 (vr_td (stF_vr h0)).1 hv (arn_con1 om_ om_ hv) (fun k hk=>(hK k hk).2)
theorem con_ne{L:List Cl}{a b:Int}(h:conB L a b=true):0<L.length:=by
 cases L with
 |nil=>cases h
 |cons=>simp
theorem fx_vr{K:List Ci}{p:Bx}{lev:Int}(h0:0≤lev)(h16:lev≤16)(hc:prN (agP K) (suP K) lev (stF p lev)≤4000):vrB (fxF K p lev)=true∧(fxF K p lev).length≤4000:=by
 have hLV:=(vr_td (stF_vr (p:=p) h0)).1;refine⟨can_vr (prA_v (ag:=agP K) (su:=suP K) h16 hLV).1 (by have:=(prA_v (ag:=agP K) (su:=suP K) h16 hLV).2.2.1;omega),Nat.le_trans (can_pr hLV h16) hc⟩
theorem ag_take{K:List Ci}{n:Nat}{x:Cl}(h:agP (K.take (n+1)) x=true):agP (K.take n) x=true:=by
 unfold agP at h⊢;rw[List.all_eq_true] at h⊢;exact fun k hk=>h k (List.take_subset_take_left K (Nat.le_succ n) hk)
theorem su_take{K:List Ci}{n:Nat}{x:Cl}(h:suP (K.take (n+1)) x=true):suP (K.take n) x=true:=by
 unfold suP at h⊢;rw[List.all_eq_true] at h⊢;exact fun k hk=>h k (List.take_subset_take_left K (Nat.le_succ n) hk)
theorem fx_less(K:List Ci)(n:Nat)(p:Bx){lev:Int}(h0:0≤lev)(h16:lev≤16):insL (fxF (K.take (n+1)) p lev) (fxF (K.take n) p lev)=true:=by
 have hLV:=(vr_td (stF_vr (p:=p) h0)).1;exact(ins_can (prA_v (ag:=agP (K.take (n+1))) (su:=suP (K.take (n+1))) h16 hLV).1 (prA_v (ag:=agP (K.take n)) (su:=suP (K.take n)) h16 hLV).1).2 fun q hq=>prA_less h16 (Int.le_refl _) (fun x=>ag_take) (fun x=>su_take) hLV hq
theorem readsC_take{w:World}{B n:Nat}{A:Option Addr}{K:List Ci}(h:Reads w B 6 A n (civs K)){k:Nat}(hk:k≤n):Reads w B 6 A k (civs (K.take k)):=by
 have hl:=h.lenC;refine⟨by rw[civs_length,List.length_take,hl];congr 1;omega,fun h0=>?_⟩;obtain⟨ad,rfl,hb,hc⟩:=h.2 om_;refine⟨ad,rfl,hb,fun i u hu=>hc i u ?_⟩;have e:civs K=civs (K.take k)++civs (K.drop k):=by rw[←civs_append,List.take_append_drop]
 have hi:i<(civs (K.take k)).length:=(List.getElem?_eq_some_iff.1 hu).1;rw[e,List.getElem?_append_left hi];exact hu
def RFxR(K:List Ci)(p:Bx)(lev most:Int)(w:World)(e:Ending)(w':World):Prop:=
 ∃(v:Value) (E:Int),e=.returned (.tuple #[v,vi vk E])∧Below w.heap.size w w'∧(E≠6→(prN (agP K) (suP K) lev (stF p lev):Int)≤most)
theorem rFixOf_any(K:List Ci)(A:Option Addr)(n c:Nat)(p0 p1 p2 p3 lev most:Int)(w:World)(hK: ∀k∈K,VCi k)(hn:n≤40)(hrd:Reads w w.heap.size 6 A n (civs K))(hp:VP (p0,p1,p2,p3))(h0:0≤lev)(h16:lev≤16)(m0:0≤most)(m1:most≤900):
 Calls Tryz.prog 11 #[.slice A n c,.agg #[vi vk p0,vi vk p1,vi vk p2,vi vk p3],vi vk lev,vi vk most] w (RFxR K (p0,p1,p2,p3) lev most w):=by
 have RD:Hid (∀W,Below w.heap.size w W→Reads W W.heap.size 6 A n (civs K)):=hid fun W h=>(hrd.below h).more h.size;have KV:=fun(W:World) (h:Below w.heap.size w W)=>rValid39_any A n c K W (RD.out W h) (by simp only[maxLen];omega);simp only[all_vci hK] at KV;have KV:=hid KV;have KP:=hid (fun W=>rValid08_vp p0 p1 p2 p3 W hp);have hcn:=arnA_cnt (mt:=mtP (p0,p1,p2,p3)) (lev:=min 4 lev) om_;have HCN:=hid hcn;have HST:=hid (stF_vr (p:=(p0,p1,p2,p3)) h0);have KA:=hid (fun(fl:Int) (hfl:fl=min 4 lev) W=>rAround2_any p0 p1 p2 p3 fl 1000 W hp om_ om_ om_ om_);have KO:=hid (fun(W:World) (h:Below w.heap.size w W) (Al:Option Addr) (nl cl:Nat) (hr:Reads W W.heap.size 3 Al nl (cvs (stF (p0,p1,p2,p3) lev))) (hnc:nl≤cl) (hcm:cl≤maxLen)=>rOf2_any K A n c (stF (p0,p1,p2,p3) lev) Al nl cl lev most W hK hn (RD.out W h) hr hnc hcm HST.out h0 h16 m0 m1);have d0:decide ((40:Int)<(n:Int))=false:=decide_eq_false om_;have d1:decide (lev<0)=false:=decide_eq_false om_;have d2:decide (16<lev)=false:=decide_eq_false om_;have G0:=hid (Blk.new w 40 #[vi vk p0,vi vk p1,vi vk p2,vi vk p3]);have B0:=hid (bl_alloc w (.cells #[vi vk p0,vi vk p1,vi vk p2,vi vk p3] 40));unfold RFxR;obtain⟨S,hS⟩: ∃S,stF (p0,p1,p2,p3) lev=S:=⟨_,rfl⟩;rw[hS] at KO HST⊢;have HS:=hid hS;clear hrd hK hp hcn hS;rcases Int.lt_or_le 4 lev with h4|h4
 all_goals first|(have d4:decide (4<lev)=true:=decide_eq_true h4)|(have d4:decide (4<lev)=false:=decide_eq_false om_)
 all_goals
  go_enter func11,ntmps11;have KV2:=hid (KV.out _ B0.out);go_wp2_with fail;(with_reducible refine(KV2.out).mono ?_)
  rintro e w1 ⟨rfl,hb1⟩
  have B1:=hid (B0.out.trans (hb1.mono B0.out.size));have G1:=hid (G0.out.below hb1 G0.out.lt);clear hb1 KV KV2 G0 B0;have y0:w1.cell? ⟨w.heap.size,0,none⟩=some (vi vk p0):=G1.out.cell 0;have y1:w1.cell? ⟨w.heap.size,1,none⟩=some (vi vk p1):=G1.out.cell 1;have y2:w1.cell? ⟨w.heap.size,2,none⟩=some (vi vk p2):=G1.out.cell 2;have y3:w1.cell? ⟨w.heap.size,3,none⟩=some (vi vk p3):=G1.out.cell 3;go_wp2_with fail;(with_reducible refine(KP.out _).mono ?_)
  rintro e w2 ⟨rfl,hb2⟩
  have B2:=hid (B1.out.trans (hb2.mono B1.out.size));have G2:=hid (G1.out.below hb2 G1.out.lt);clear hb2 KP y0 y1 y2 y3 G1 B1;have y0:w2.cell? ⟨w.heap.size,0,none⟩=some (vi vk p0):=G2.out.cell 0;have y1:w2.cell? ⟨w.heap.size,1,none⟩=some (vi vk p1):=G2.out.cell 1;have y2:w2.cell? ⟨w.heap.size,2,none⟩=some (vi vk p2):=G2.out.cell 2;have y3:w2.cell? ⟨w.heap.size,3,none⟩=some (vi vk p3):=G2.out.cell 3;go_wp2_with fail;(with_reducible refine(KA.out _ om_ _).mono ?_)
  rintro e w3 ⟨va,La,E,rfl,hoa,hb3,hE⟩
  obtain⟨rfl,rfl,-⟩:E=0∧La=S∧True:=by
   rcases hE with ⟨h1,h2,-⟩|⟨-,h2⟩
   · refine⟨h1,?_,trivial⟩
     rw[h2,←HS.out];unfold stF;first|rw[show min 4 lev=4 by omega]|rw[show min 4 lev=lev by omega]
   · have:=HCN.out
     first|rw[show min 4 lev=4 by omega] at this|rw[show min 4 lev=lev by omega] at this
     exact absurd h2 om_
  have B3:=hid (B2.out.trans (hb3.mono B2.out.size));obtain⟨Aa,ca,rfl,hra,hna,hma⟩:=own_form hoa;have KO2:=hid (KO.out w3 B3.out Aa _ ca hra hna hma);clear hoa hra hb3 hE KO KA y0 y1 y2 y3 B2 G2 HCN;go_wp2_with fail;(with_reducible refine(KO2.out).mono ?_)
  rintro e w4 ⟨Av,nv,cv,E,rfl,hb4,hE⟩
  have B4:=hid (B3.out.trans (hb4.mono B3.out.size));have HE:=hid hE;clear hb4 hE KO2 B3;by_cases hE0:E=0
  · subst hE0
    by_cases hnv:nv=0
    · subst hnv
      go_wp2;go_ret2
      exact⟨_,_,rfl,B4.out,fun _=>HE.out dc_⟩
    · have hbn:((nv:Int)==0)=false:=by simpa using hnv
      go_wp2;go_ret2
      exact⟨_,_,rfl,B4.out,fun _=>HE.out dc_⟩
  · have hbe:(E==0)=false:=by simpa using hE0
    have hbe2:(E != 0)=true:=by simpa using hE0
    go_wp2;go_ret2
    exact⟨_,_,rfl,B4.out,HE.out⟩
theorem fcheckClos_any(k:Ci)(W:World)(hk:VCi k):Calls Tryz.prog 56 #[civ k] W fun e w'=>e=.returned (.bool false)∧Below W.heap.size W w':=by
 obtain⟨⟨a0,a1,o0,o1⟩,r0,r1⟩:=k;have KV:=hid (fun W=>cirValid_yes a0 a1 o0 o1 r0 r1 W hk.vc);have B0:=hid (bl_alloc W (.cells #[vi vk a0,vi vk a1,vi vk o0,vi vk o1,vi vk r0,vi vk r1] 33));clear hk;unfold civ;simp only[];go_enter func56,ntmps56;go_wp2_with fail;(with_reducible refine(KV.out _).mono ?_)
 rintro e w1 ⟨rfl,hb1⟩
 have B1:=hid (B0.out.trans (hb1.mono B0.out.size));clear hb1;go_wp2;go_ret;exact⟨rfl,B1.out⟩
theorem fcheck_yes(K:List Ci)(A:Option Addr)(n c:Nat)(p0 p1 p2 p3 lev:Int)(w:World)(hK: ∀k∈K,VCi k)(hn:n≤40)(hrd:Reads w w.heap.size 6 A n (civs K))(hp:VP (p0,p1,p2,p3))(h0:0≤lev)(h16:lev≤16):
 Calls Tryz.prog 30 #[.slice A n c,.agg #[vi vk p0,vi vk p1,vi vk p2,vi vk p3],vi vk lev] w fun e w'=>e=.returned (vi vk 0)∧Below w.heap.size w w':=by
 have KC:=fun(W:World) (h:Below w.heap.size w W)=>contC_any 56 #[] (fun _=>false) (enters_of func56 (by kernel_rfl) rfl) A n c K W ((hrd.below h).more h.size) (by simp only[maxLen];omega) (fun W k hk _=>fcheckClos_any k W (hK k hk));simp only[show(K.any fun _=>false)=false by simp] at KC;have KC:=hid KC;have KP:=hid (fun W=>placeValid_vp p0 p1 p2 p3 W hp);have d0:decide ((40:Int)<(n:Int))=false:=decide_eq_false om_;have d1:decide (lev<0)=false:=decide_eq_false om_;have d2:decide (16<lev)=false:=decide_eq_false om_;have G0:=hid (Blk.new w 40 #[vi vk p0,vi vk p1,vi vk p2,vi vk p3]);have B0:=hid (bl_alloc w (.cells #[vi vk p0,vi vk p1,vi vk p2,vi vk p3] 40));have KC2:=hid (KC.out _ B0.out);clear hrd hK hp KC;go_enter func30,ntmps30;go_wp2_with fail;(with_reducible refine(KC2.out).mono ?_)
 rintro e w1 ⟨rfl,hb1⟩
 have B1:=hid (B0.out.trans (hb1.mono B0.out.size));have G1:=hid (G0.out.below hb1 G0.out.lt);clear hb1 KC2 G0 B0;have y0:w1.cell? ⟨w.heap.size,0,none⟩=some (vi vk p0):=G1.out.cell 0;have y1:w1.cell? ⟨w.heap.size,1,none⟩=some (vi vk p1):=G1.out.cell 1;have y2:w1.cell? ⟨w.heap.size,2,none⟩=some (vi vk p2):=G1.out.cell 2;have y3:w1.cell? ⟨w.heap.size,3,none⟩=some (vi vk p3):=G1.out.cell 3;go_wp2_with fail;(with_reducible refine(KP.out _).mono ?_)
 rintro e w2 ⟨rfl,hb2⟩
 have B2:=hid (B1.out.trans (hb2.mono B1.out.size));clear hb2 KP y0 y1 y2 y3 G1 B1;go_wp2;go_ret;exact⟨rfl,B2.out⟩
theorem own_four{W:World}{base g n:Nat}{e:TypeId}{v:Value}{xs:List Value}(h:W.ownsRow base e 3 v n xs)(hg:g<base)(u0 u1 u2 u3:Value):((((W.setCell ⟨g,0,none⟩ u0).setCell ⟨g,1,none⟩ u1).setCell ⟨g,2,none⟩ u2).setCell ⟨g,3,none⟩ u3).ownsRow base e 3 v n xs:=
 ownsRow_setCell_below (ownsRow_setCell_below (ownsRow_setCell_below (ownsRow_setCell_below h (a:=⟨g,0,none⟩) hg u0) (a:=⟨g,1,none⟩) hg u1) (a:=⟨g,2,none⟩) hg u2) (a:=⟨g,3,none⟩) hg u3
def FxR(R:List Cl)(w:World)(e:Ending)(w':World):Prop:=
 ∃v,e=.returned (.tuple #[v,.agg #[vi vk (bndV R).1,vi vk (bndV R).2.1,vi vk (bndV R).2.2.1,vi vk (bndV R).2.2.2],vi vk 0])∧w'.ownsRow w.heap.size 55 3 v R.length (cvs R)∧Below w.heap.size w w'
theorem fixOf_yes(K:List Ci)(A:Option Addr)(n c:Nat)(p0 p1 p2 p3 lev:Int)(w:World)(hK: ∀k∈K,VCi k)(hn:n≤40)(hrd:Reads w w.heap.size 6 A n (civs K))(hp:VP (p0,p1,p2,p3))(h0:0≤lev)(h16:lev≤16)
 (hcnt:prN (agP K) (suP K) lev (stF (p0,p1,p2,p3) lev)≤4000) (hne:0<(canonC (covL (prA (agP K) (suP K) lev (stF (p0,p1,p2,p3) lev)))).length):
 Calls Tryz.prog 12 #[.slice A n c,.agg #[vi vk p0,vi vk p1,vi vk p2,vi vk p3],vi vk lev] w (FxR (canonC (covL (prA (agP K) (suP K) lev (stF (p0,p1,p2,p3) lev)))) w):=by
 have RD:Hid (∀W,Below w.heap.size w W→Reads W W.heap.size 6 A n (civs K)):=hid fun W h=>(hrd.below h).more h.size;have hst:=stF_vr (p:=(p0,p1,p2,p3)) h0;have HST:=hid hst;have hcn:=arnA_cnt (mt:=mtP (p0,p1,p2,p3)) (lev:=min 4 lev) om_;have KC:=hid (fun(W:World) (h:Below w.heap.size w W)=>fcheck_yes K A n c p0 p1 p2 p3 lev W hK hn (RD.out W h) hp h0 h16);have KA:=hid (fun W=>Around_yes p0 p1 p2 p3 (min 4 lev) W hp om_ om_ om_);have KO:=hid (fun(W:World) (h:Below w.heap.size w W) (Al:Option Addr) (nl cl:Nat) (hr:Reads W W.heap.size 3 Al nl (cvs (stF (p0,p1,p2,p3) lev)))=>Of39_yes K A n c (stF (p0,p1,p2,p3) lev) Al nl cl lev W hK hn (RD.out W h) hr HST.out h0 h16 hcnt);have hLV:=(vr_td hst).1;have hrl:(canonC (covL (prA (agP K) (suP K) lev (stF (p0,p1,p2,p3) lev)))).length≤4000:=Nat.le_trans (can_pr hLV h16) hcnt;have hrv:vrB (canonC (covL (prA (agP K) (suP K) lev (stF (p0,p1,p2,p3) lev))))=true:=can_vr (prA_v (ag:=agP K) (su:=suP K) h16 hLV).1 (by have:=(prA_v (ag:=agP K) (su:=suP K) h16 hLV).2.2.1;omega);rw[show canonC (covL (arnA (mtP (p0,p1,p2,p3)) (min 4 lev)))=stF (p0,p1,p2,p3) lev from rfl] at KA;have hss:(stF (p0,p1,p2,p3) lev).length≤4000:=((vrB_iff _).1 hst).1;generalize canonC (covL (prA (agP K) (suP K) lev (stF (p0,p1,p2,p3) lev)))=R at KO hne hrl hrv⊢;generalize stF (p0,p1,p2,p3) lev=S at KO KA HST hss;have KB:=fun(W:World) (Al:Option Addr) (cl:Nat) (hr:Reads W W.heap.size 3 Al R.length (cvs R))=>fBounds_yes Al R.length cl R W hr (by simp only[maxLen];omega) hrv hne;unfold FxR;obtain⟨⟨e0,e1,e2,e3⟩,hbe⟩: ∃x,bndV R=x:=⟨_,rfl⟩;rw[hbe] at KB⊢;simp only[] at KB⊢;have KB:=hid KB;have d0:((R.length:Int)==0)=false:=by simp;intro h;rw[h] at hne;exact absurd hne (by simp)
 have G0:=hid ((Blk.new w 40 #[vi vk p0,vi vk p1,vi vk p2,vi vk p3]).alloc (.cells #[vi vk 0,vi vk 0,vi vk 0,vi vk 0] 40));have hz0:=K4.new (w.alloc (.cells #[vi vk p0,vi vk p1,vi vk p2,vi vk p3] 40)) 0 0 0 0 40;rw[World.size_alloc] at hz0;have Z0:=hid hz0;have B0:=hid ((bl_alloc w (.cells #[vi vk p0,vi vk p1,vi vk p2,vi vk p3] 40)).alloc (by simp) (.cells #[vi vk 0,vi vk 0,vi vk 0,vi vk 0] 40));have KC2:=hid (KC.out _ B0.out);clear hrd hK hp KC hst hcn hLV hcnt hz0 hbe;go_enter func12,ntmps12;go_upto_region 1 with (fail)
 generalize (w.alloc (.cells #[vi vk p0,vi vk p1,vi vk p2,vi vk p3] 40)).alloc (.cells #[vi vk 0,vi vk 0,vi vk 0,vi vk 0] 40)=w0 at G0 Z0 B0 KC2⊢;have y0:w0.cell? ⟨w.heap.size,0,none⟩=some (vi vk p0):=G0.out.cell 0;have y1:w0.cell? ⟨w.heap.size,1,none⟩=some (vi vk p1):=G0.out.cell 1;have y2:w0.cell? ⟨w.heap.size,2,none⟩=some (vi vk p2):=G0.out.cell 2;have y3:w0.cell? ⟨w.heap.size,3,none⟩=some (vi vk p3):=G0.out.cell 3;go_wp2_with fail;(with_reducible refine(KC2.out).mono ?_)
 rintro e w1 ⟨rfl,hb1⟩
 have B1:=hid (B0.out.trans (hb1.mono B0.out.size));have G1:=hid (G0.out.below hb1 G0.out.lt);have Z1:=hid (Z0.out.below hb1 Z0.out.lt);clear hb1 KC2 G0 B0 Z0 y0 y1 y2 y3;have y0:w1.cell? ⟨w.heap.size,0,none⟩=some (vi vk p0):=G1.out.cell 0;have y1:w1.cell? ⟨w.heap.size,1,none⟩=some (vi vk p1):=G1.out.cell 1;have y2:w1.cell? ⟨w.heap.size,2,none⟩=some (vi vk p2):=G1.out.cell 2;have y3:w1.cell? ⟨w.heap.size,3,none⟩=some (vi vk p3):=G1.out.cell 3;go_wp2_with fail;(with_reducible refine(KA.out _).mono ?_)
 rintro e w2 ⟨v2,rfl,ho2,hb2⟩
 have B2:=hid (B1.out.trans (hb2.mono B1.out.size));have Z2:=hid (Z1.out.below hb2 Z1.out.lt);obtain⟨Aa,ca,rfl,hra,-,-⟩:=own_form ho2;have KO2:=hid (KO.out w2 B2.out Aa _ ca hra);clear ho2 hb2 hra y0 y1 y2 y3 G1 B1 Z1 KO KA;go_wp2_with fail;(with_reducible refine(KO2.out).mono ?_)
 rintro e w3 ⟨v3,rfl,ho3,hb3⟩
 have B3:=hid (B2.out.trans (hb3.mono B2.out.size));have Z3:=hid (Z2.out.below hb3 Z2.out.lt);have O3:=hid ho3;obtain⟨Ab,cb,rfl,hrb,-,-⟩:=own_form ho3;have KB2:=hid (KB.out w3 Ab cb hrb);have hz2:=Z2.out.lt;clear ho3 hb3 hrb KO2 KB Z2;go_wp2_with fail;(with_reducible refine(KB2.out).mono ?_)
 rintro e w4 ⟨rfl,hb4⟩
 have hb4a:=hb4.alloc hb4.size (.cells #[vi vk e0,vi vk e1,vi vk e2,vi vk e3] 40);have G5:=hid (Blk.new w4 40 #[vi vk e0,vi vk e1,vi vk e2,vi vk e3]);have O5:=hid (own_bl O3.out hb4a (Nat.le_refl _));have Z5:=hid (Z3.out.below hb4a Z3.out.lt);have B5:=hid (B3.out.trans (hb4a.mono B3.out.size));clear hb4 hb4a KB2 O3 Z3 B3;go_upto_region 13 with (fail)
 generalize hw5:w4.alloc (.cells #[vi vk e0,vi vk e1,vi vk e2,vi vk e3] 40)=w5 at G5 O5 Z5 B5⊢;clear hw5;generalize w4.heap.size=g4 at G5⊢;go_upto_region 15 with (fail)
 have HQ:Hid ((((((w5.setCell ⟨w.heap.size+1,0,none⟩ (vi vk e0)).setCell ⟨w.heap.size+1,1,none⟩ (vi vk e1)).setCell ⟨w.heap.size+1,2,none⟩ (vi vk e2)).setCell ⟨w.heap.size+1,3,none⟩ (vi vk e3))).ownsRow w.heap.size 55 3 (.slice Ab R.length cb) R.length (cvs R)):=hid (own_mono (own_four O5.out om_ _ _ _ _) om_);have c0:w5.cell? ⟨g4,0,none⟩=some (vi vk e0):=G5.out.cell 0;have c1:w5.cell? ⟨g4,1,none⟩=some (vi vk e1):=G5.out.cell 1;have c2:w5.cell? ⟨g4,2,none⟩=some (vi vk e2):=G5.out.cell 2;have c3:w5.cell? ⟨g4,3,none⟩=some (vi vk e3):=G5.out.cell 3;obtain⟨zt,z0,z1,z2,z3,zf0,zf1,zf2,zf3⟩:=Z5.out;go_region
 all_goals
  go_wp2;refine bodyPost_ret (v:=.tuple #[.slice Ab R.length cb,.agg #[vi vk e0,vi vk e1,vi vk e2,vi vk e3],vi vk 0]) (by simp[results,results12,go_sem, *];done) rfl ⟨_,rfl,?_,?_⟩
  · exact HQ.out
  · exact bl_drew (bl_put4 B5.out (Nat.le_succ _))
def negP(x:Int×Int):Int×Int:=(-x.2,-x.1)
theorem negP_small{x:Int×Int}(h:Trig.Small x):Trig.Small (negP x):=by
 have:=h.lo;have:=h.le;have:=h.hi;constructor<;>(simp only[negP];omega)
theorem subP_fv{x y:Int×Int}(hx:Trig.Small x)(hy:Trig.Small y):fvB (subP x y).1 (subP x y).2=true:=by
 rw[fv_iff];have:=hx.lo;have:=hx.le;have:=hx.hi;have:=hy.lo;have:=hy.le;have:=hy.hi;simp only[subP];omega
theorem neg_yes(a:Int×Int)(ha:Trig.Small a)(w:World):Calls Tryz.prog 174 #[.agg #[vi vk a.1,vi vk a.2]] w fun e w'=>e=.returned (.tuple #[.agg #[vi vk (negP a).1,vi vk (negP a).2],vi vk 0])∧Below w.heap.size w w':=by
 have KV:=fun W=>fValid_any a.1 a.2 W;rw[small_fv ha] at KV;have KV:=hid KV;have h0:=ha.lo;have h1:=ha.le;have h2:=ha.hi;unfold negP;obtain⟨x,y⟩:=a;simp only[] at KV h0 h1 h2⊢;have n0:wrap64 (-x)= -x:=IntWalk.wrap64_in _ om_;have n1:wrap64 (-y)= -y:=IntWalk.wrap64_in _ om_;have T1:=hid ((D2.new w x y 158).below (bl_alloc _ (.cells #[vi vk 0,vi vk 0] 158)) (by simp));have TR:Hid (D2 ((w.alloc (.cells #[vi vk x,vi vk y] 158)).alloc (.cells #[vi vk 0,vi vk 0] 158)) (w.heap.size+1) 0 0):=hid (by
  have:=D2.new (w.alloc (.cells #[vi vk x,vi vk y] 158)) 0 0 158;rwa [World.size_alloc] at this)
 have B0:=hid ((bl_alloc w (.cells #[vi vk x,vi vk y] 158)).alloc (by simp) (.cells #[vi vk 0,vi vk 0] 158));clear ha;go_enter func174,ntmps174;go_wp2_with fail;(with_reducible refine(KV.out _).mono ?_)
 rintro e w1 ⟨rfl,hb1⟩
 have B1:=hid (B0.out.trans (hb1.mono B0.out.size));obtain⟨tl,x0,x1,xf0,xf1⟩:=T1.out.below hb1 T1.out.lt;obtain⟨rt,ra,rb,rf0,rf1⟩:=TR.out.below hb1 TR.out.lt;clear hb1 T1 TR B0;go_wp2;refine bodyPost_ret (v:=.tuple #[.agg #[vi vk (-y),vi vk (-x)],vi vk 0]) (by simp[results,results174,go_sem,ra,rb];done) rfl ⟨rfl,?_⟩;exact(B1.out.setCell so_ _).setCell so_ _
theorem cneg_any(g:Nat)(a:Int×Int)(w:World)(ha:Trig.Small a)(h:Blk w g 157 #[vi vk 0]):
 Calls Tryz.prog 121 #[.pointer (some ⟨g,0,none⟩),.agg #[vi vk a.1,vi vk a.2]] w fun e w'=>e=.returned (.agg #[vi vk (negP a).1,vi vk (negP a).2])∧Below w.heap.size w w':=by
 have KS:=hid (fun W=>neg_yes a ha W);have KK:=hid (fun(lo hi:Int) (W:World) (h:Blk W g 157 #[vi vk 0])=>keep_any g lo hi W h);obtain⟨⟨s0,s1⟩,hs⟩: ∃z,(negP a)=z:=⟨_,rfl⟩;rw[hs] at KS⊢;simp only[] at KS⊢;clear hs;have hg:=h.lt;have H0:=hid ((h.alloc (.cells #[vi vk a.1,vi vk a.2] 158)).alloc (.cells #[vi vk 0,vi vk 0] 158));have T0:Hid (D2 ((w.alloc (.cells #[vi vk a.1,vi vk a.2] 158)).alloc (.cells #[vi vk 0,vi vk 0] 158)) (w.heap.size+1) 0 0):=hid (by
  have:=D2.new (w.alloc (.cells #[vi vk a.1,vi vk a.2] 158)) 0 0 158;rwa [World.size_alloc] at this)
 have B0:=hid ((bl_alloc w (.cells #[vi vk a.1,vi vk a.2] 158)).alloc (by simp) (.cells #[vi vk 0,vi vk 0] 158));clear h;go_enter func121,ntmps121;go_wp2_with fail;(with_reducible refine(KS.out _).mono ?_)
 rintro e w1 ⟨rfl,hb1⟩
 have H1:=hid (H0.out.below hb1 H0.out.lt);have T1:=hid (T0.out.below hb1 T0.out.lt);have B1:=hid (B0.out.trans (hb1.mono B0.out.size));clear hb1 H0 T0 B0;go_wp2_with fail;(with_reducible refine(KK.out _ _ _ H1.out).mono ?_)
 rintro e w2 ⟨rfl,hb2⟩
 have T2:=hid (T1.out.below hb2 T1.out.lt);have B2:=hid (B1.out.trans (hb2.mono B1.out.size));obtain⟨zt,z0,z1,zf0,zf1⟩:=T2.out;go_wp2;refine bodyPost_ret (v:=.agg #[vi vk s0,vi vk s1]) (by simp[results,results121,go_sem, *];done) rfl ⟨rfl,?_⟩;exact(B2.out.setCell so_ _).setCell so_ _
theorem csub_any(g:Nat)(x y:Int×Int)(w:World)(hx:Trig.Small x)(hy:Trig.Small y)(h:Blk w g 157 #[vi vk 0]):
 Calls Tryz.prog 122 #[.pointer (some ⟨g,0,none⟩),.agg #[vi vk x.1,vi vk x.2],.agg #[vi vk y.1,vi vk y.2]] w fun e w'=>e=.returned (.agg #[vi vk (subP x y).1,vi vk (subP x y).2])∧Below w.heap.size w w':=by
 have KS:=hid (fun W=>sub_yes x y hx hy W);have KK:=hid (fun(lo hi:Int) (W:World) (h:Blk W g 157 #[vi vk 0])=>keep_any g lo hi W h);obtain⟨⟨s0,s1⟩,hs⟩: ∃z,(subP x y)=z:=⟨_,rfl⟩;rw[hs] at KS⊢;simp only[] at KS⊢;clear hs;have hg:=h.lt;have H0:=hid (((h.alloc (.cells #[vi vk x.1,vi vk x.2] 158)).alloc (.cells #[vi vk y.1,vi vk y.2] 158)).alloc (.cells #[vi vk 0,vi vk 0] 158));have T0:Hid (D2 (((w.alloc (.cells #[vi vk x.1,vi vk x.2] 158)).alloc (.cells #[vi vk y.1,vi vk y.2] 158)).alloc (.cells #[vi vk 0,vi vk 0] 158)) (w.heap.size+1+1) 0 0):=hid (by
  have:=D2.new ((w.alloc (.cells #[vi vk x.1,vi vk x.2] 158)).alloc (.cells #[vi vk y.1,vi vk y.2] 158)) 0 0 158;rwa [World.size_alloc,World.size_alloc] at this)
 have B0:=hid (((bl_alloc w (.cells #[vi vk x.1,vi vk x.2] 158)).alloc (by simp) (.cells #[vi vk y.1,vi vk y.2] 158)).alloc (by simp;omega) (.cells #[vi vk 0,vi vk 0] 158));clear h;go_enter func122,ntmps122;go_wp2_with fail;(with_reducible refine(KS.out _).mono ?_)
 rintro e w1 ⟨rfl,hb1⟩
 have H1:=hid (H0.out.below hb1 H0.out.lt);have T1:=hid (T0.out.below hb1 T0.out.lt);have B1:=hid (B0.out.trans (hb1.mono B0.out.size));clear hb1 H0 T0 B0;go_wp2_with fail;(with_reducible refine(KK.out _ _ _ H1.out).mono ?_)
 rintro e w2 ⟨rfl,hb2⟩
 have T2:=hid (T1.out.below hb2 T1.out.lt);have B2:=hid (B1.out.trans (hb2.mono B1.out.size));obtain⟨zt,z0,z1,zf0,zf1⟩:=T2.out;go_wp2;refine bodyPost_ret (v:=.agg #[vi vk s0,vi vk s1]) (by simp[results,results122,go_sem, *];done) rfl ⟨rfl,?_⟩;exact(B2.out.setCell so_ _).setCell so_ _
end Go.Proofs.YtdeiofgddhbdaaaGreat
