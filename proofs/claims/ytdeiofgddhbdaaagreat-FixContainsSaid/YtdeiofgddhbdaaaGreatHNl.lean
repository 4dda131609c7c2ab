/- The plain law of FixContains: the circle that is made of a centre, the cells around a point. -/
import Derived.Test.YtdeiofgddhbdaaaGreatHNg
import Derived.Test.YtdeiofgddhbdaaaGreatHNj
set_option linter.unusedSimpArgs false
set_option linter.unusedVariables false
set_option maxHeartbeats 4000000
set_option maxRecDepth 100000
open Go.RowKit
open Go.Lib (hid)
open Go.Proofs.Tryz
open Go.Value renaming int→vi
open Go.IntKind renaming i64→vk
namespace Go.Proofs.YtdeiofgddhbdaaaGreat
def ptP39(K:List Ci)(lev:Int)(c:Cl):List Cl:=prt (agP K) (suP K) lev (fuC c) c
def ptQ39(K:List Ci)(lev:Int)(c:Cl):Nat:=prn (agP K) (suP K) lev (fuC c) c
theorem all_vci{L:List Ci}(h: ∀k∈L,VCi k):L.all vciB=true:=List.all_eq_true.2 fun k hk=>(vciB_iff k).2 (h k hk)
theorem tidied_any(A:Option Addr)(n c:Nat)(X:List Cl)(w:World)(hr:Reads w w.heap.size 3 A n (cvs X))(hX:AllV X)(hs:Srt X)(hn:n≤90000)(hlen:(canonC (covL X)).length≤4000):
 Calls Tryz.prog 105 #[.slice A n c] w (RetCells w (canonC (covL X)) 0):=by
 have hl:=hr.len;have bB:=Boxed.new w 44 (.slice none 0 0);have ba:=bl_alloc w (.cells #[.slice none 0 0] 44);have hsz:(w.alloc (.cells #[.slice none 0 0] 44)).heap.size=w.heap.size+1:=by simp
 have HR:=hid hr;have TS:Hid (∀k,k<n→mgF ((tdP X k).length+1) (tdP X k++[gt X k])=tdP X (k+1)):=hid fun k hk=>tdP_succ hX hs om_;have TV:=hid (tdP_v hX);have TL:=hid (tdP_len hX);have HXV:Hid (∀k,k<n→Vl (gt X k)):=hid fun k hk=>hX _ (by simp[gt,show k<X.length by omega]);have TA:Hid (tdP X n=canonC (covL X)):=hid (by rw[←hl];exact tdP_all X);have T0:Hid (tdP X 0=[]):=hid (tdP_zero X);have hle:(tdP X n).length≤4000:=by rw[TA.out];exact hlen
 have HLE:=hid hle;obtain⟨i0,hi0,hz0,hz1,hzb⟩:=info_parts Tryz.infoCell;rw[←TA.out];clear hr hX hs hlen hle hl;go_enter func105,ntmps105;go_upto_region 2 with (fail)
 generalize w.alloc (.cells #[.slice none 0 0] 44)=w1 at bB ba hsz⊢;have BB:=hid bB;have B1:=hid ba;have S1:Hid (St w.heap.size w.heap.size w1 (.slice none 0 0) (tdP X 0)):=hid (by rw[T0.out];exact⟨BB.out,own_nil _ _ _ _⟩);clear bB ba;go_wp2;go_loopg [9] n (fun gz s9 wr=> ∃(k:Nat) (u:Value),k≤n∧k+gz=n∧s9=vi vk k∧St w.heap.size w.heap.size wr u (tdP X k)∧XK w.heap.size (.slice none 0 0) w1 wr∧Nx w1 (.slice none 0 0) u)
 case atStart=>exact⟨0,_,om_,om_,rfl,S1.out,XK.refl _ _ _,Nx.refl _ _⟩
 case round=>
  obtain⟨k,u,hk,hkg,rfl,hSt,hX,hN⟩:=hrel;obtain⟨wo,rfl⟩: ∃wo,wo=wr:=⟨wr,rfl⟩;have hss:=hX.size;have HSt:=hid hSt;have HX:=hid hX;have HN:=hid hN;have hxb:=hX.below (n₀:=w.heap.size) (Nat.le_refl _) (by simp[Value.ownBlock]) om_;have hbw:=B1.out.trans hxb;by_cases hlt:k<n
  · obtain⟨b,off,rfl,hb,x0,x1,x2⟩:=HR.out.elem hlt
    have y0:=(hbw.cell (p:=⟨b,off+k*3,none⟩) hb).trans x0;have y1:=(hbw.cell (p:=⟨b,off+k*3+1,none⟩) hb).trans x1;have y2:=(hbw.cell (p:=⟨b,off+k*3+2,none⟩) hb).trans x2;have hxv:=HXV.out k hlt;have hts:=TS.out k hlt;have htv:=TV.out k;have htl:=TL.out k;obtain⟨O,hO⟩: ∃O,tdP X k=O:=⟨_,rfl⟩;obtain⟨R,hR⟩: ∃R,tdP X (k+1)=R:=⟨_,rfl⟩;obtain⟨x,hx⟩: ∃x,gt X k=x:=⟨_,rfl⟩;rw[hO] at hSt hts htv htl;rw[hR,hx] at hts;rw[hx] at y0 y1 y2 hxv;have HRR:=hid hR;clear x0 x1 x2 hx hO hR HSt;obtain⟨x_0,x_1,x_2⟩:=x;simp only[] at y0 y1 y2;have hvb:=own_ltK hSt.row;have bc:=bl_alloc wo (.cells #[vi vk x_0,vi vk x_1,vi vk x_2] 55);have S2:=hSt.below bc;have hc2:=S2.box.cell;have hs2:(wo.alloc (.cells #[vi vk x_0,vi vk x_1,vi vk x_2] 55)).heap.size=wo.heap.size+1:=by simp
    have n2:=Blk.new wo 55 #[vi vk x_0,vi vk x_1,vi vk x_2];go_upto_region 5 with (fail)
    generalize wo.alloc (.cells #[vi vk x_0,vi vk x_1,vi vk x_2] 55)=w2 at bc S2 hc2 hs2 n2⊢;have hle2:w.heap.size+1≤w2.heap.size:=by omega
    clear hs2;have SS2:=hid S2;have BC:=hid bc;have NB2:=hid n2;have z0:w2.cell? ⟨wo.heap.size,0,none⟩=some (vi vk x_0):=n2.cell 0;have z1:w2.cell? ⟨wo.heap.size,1,none⟩=some (vi vk x_1):=n2.cell 1;have z2:w2.cell? ⟨wo.heap.size,2,none⟩=some (vi vk x_2):=n2.cell 2;have hol:O.length≤90000:=by omega
    have HTS:=hid hts;have HTV:=hid htv;have HXX:=hid hxv;clear S2 bc n2 hts htv hxv hSt hX hN hxb hbw y0 y1 y2;go_wp2_with (at_builtin;(refine wpList_append_any _ rfl (.tmp 13) (.tmp 15) _ rfl w.heap.size 55 i0 _ 3 24 underlying44 hi0 hz0 hz1 hzb rfl dc_ u O.length (cvs O) rfl (SS2.out.row.alloc _) (w2.heap.size+1) (some ⟨w2.heap.size,0,none⟩) 1 1 (cvs [(x_0,x_1,x_2)]) rfl (by exact reads_new w2 x_0 x_1 x_2 55) (cvs_one _) (by simp only[maxLen];omega) om_ (by simp;omega) ?_);intro v3 w3 hown3 hg3 hat3;rw[←cvs_append,show O.length+1=(O++[(x_0,x_1,x_2)]).length by simp] at hown3;have hbx3:=(SS2.out.box.alloc (.cells #[vi vk x_0,vi vk x_1,vi vk x_2] 55)).kept hg3 ((SS2.out.box.alloc (.cells #[vi vk x_0,vi vk x_1,vi vk x_2] 55)).not_row dc_ (SS2.out.row.alloc (.cells #[vi vk x_0,vi vk x_1,vi vk x_2] 55)));obtain⟨N1,hN1⟩: ∃N1,List.length (O++[(x_0,x_1,x_2)])=N1:=⟨_,rfl⟩;rw[hN1] at hown3;obtain⟨A3,c3,rfl,-,-⟩:=own_form hown3;have hc3:=hbx3.cell;have hf3:=hbx3.frozen;have HO3:=hid hown3;have HB3:=hid hbx3;have HG3:=hid hg3;have HA3:=hid hat3;have HN1:=hid hN1;clear hown3 hg3 hat3 hbx3 hN1);have XS:=hid (((XK.of_below (B:=w.heap.size) (v:=u) (bl_alloc w2 (.cells #[vi vk x_0,vi vk x_1,vi vk x_2] 55))).grown HG3.out).set (.slice A3 N1 c3));have NS:Hid (Nx w2 u (.slice A3 N1 c3)):=hid (HA3.out.elim .inl fun q=>.inr fun k hk=>(by rw[q] at hk;cases hk;simp));have SS3:Hid (St w.heap.size w.heap.size (w3.setCell ⟨w.heap.size,0,none⟩ (.slice A3 N1 c3)) (.slice A3 N1 c3) (O++[(x_0,x_1,x_2)])):=hid ⟨HB3.out.set _,by rw[HN1.out];exact HO3.out.kept (grownBy_setCell' w3 w.heap.size _) (.inr (HB3.out.not_row dc_ HO3.out).symm)⟩;have hn1:(O++[(x_0,x_1,x_2)]).length=O.length+1:=by simp
    clear hc3 hf3 z0 z1 z2 hc2 HO3 HB3 HG3 HA3 HN1;go_loopg [] (O.length+1) (fun gz wr=> ∃(gg:Nat) (Lk:List Cl) (u3:Value),gg=gz∧St w.heap.size w.heap.size wr u3 Lk∧XK w.heap.size u w2 wr∧Nx w2 u u3∧mgF gg Lk=R∧Lk.length≤gg∧AllV Lk∧gg≤90001)
    case atStart=>exact⟨_,_,_,rfl,SS3.out,XS.out,NS.out,HTS.out,om_,one_app HTV.out HXX.out,om_⟩
    case round=>
     obtain⟨gg,Lk,u3,hgz,hSt,hXk,hNx,hmg,hle,hLv,hg4⟩:=hrel;have ST:=hid hSt;have XX:=hid hXk;have NN:=hid hNx;obtain⟨s1,s2⟩:=mgF_step hmg hle;have KG:=merge_any w.heap.size w.heap.size u3 Lk wr hSt (by have:=hXk.size;omega) hLv om_;clear hSt hXk hNx;cases h4:four4 Lk with
     |true=>
      rw[h4] at KG;simp only[if_true] at KG;obtain⟨t1,t2,t3⟩:=s2 h4;have T1:=hid t1;have LV:=hid (mg1_v hLv h4);have KG:=hid KG;clear s1 s2 h4 t1 hmg hLv;go_wp2_with fail;(with_reducible refine(KG.out).mono ?_)
      rintro e w9 ⟨rfl,hG9⟩
      obtain⟨u9,hS9,hX9,hN9⟩:=hG9;go_wp2;go_roundg (gg-1)
      case measure=>omega
      case rel=>exact⟨_,_,u9,rfl,hS9,XX.out.trans NN.out hX9,NN.out.trans XX.out.size hN9,T1.out,t3,LV.out,om_⟩
     |false=>
      rw[h4] at KG;simp only[Bool.false_eq_true,if_false] at KG;have hLR:=s1 h4;have HLR:=hid hLR;have KG:=hid KG;clear s1 s2 h4 hmg hLv hLR;go_wp2_with fail;(with_reducible refine(KG.out).mono ?_)
      rintro e w9 ⟨rfl,hG9⟩
      obtain⟨u9,hS9,hX9,hN9⟩:=hG9;have XF:=hid ((HX.out.trans HN.out ((XK.of_below BC.out).trans (Nx.refl _ _) (XX.out.trans NN.out hX9))));have NF:=hid (HN.out.trans hss ((Nx.refl _ _).trans BC.out.size (NN.out.trans XX.out.size hN9)));have SF:Hid (St w.heap.size w.heap.size w9 u9 (tdP X (k+1))):=hid (by rw[HRR.out,←HLR.out];exact hS9);clear hS9 hX9 hN9 ST XX NN;go_wp2;go_roundg (n-(k+1))
      case measure=>omega
      case rel=>exact⟨k+1,u9,om_,om_,by go_num,SF.out,XF.out,NF.out⟩
  · have hkn:k=n:=by omega
    subst hkn;obtain⟨A9,c9,rfl,-,-⟩:=own_form hSt.row;have hcc:=hSt.box.cell;have hd:decide (4000<((tdP X k).length:Int))=false:=decide_eq_false (by have:=HLE.out;omega);have OW:=hid hSt.row;have BW:=hid hbw;clear hSt hX hN HSt HX HN hxb hbw;go_wp2;go_ret2
    exact⟨_,rfl,OW.out,BW.out⟩
theorem of39_any(K:List Ci)(A:Option Addr)(n c:Nat)(L:List Cl)(Al:Option Addr)(nl cl:Nat)(lev:Int)(w:World)(hK: ∀k∈K,VCi k)(hn:n≤40)(hrd:Reads w w.heap.size 6 A n (civs K))(hrl:Reads w w.heap.size 3 Al nl (cvs L))(hLV:AllV L)(hT:canonC (covL L)=L)(h16:lev≤16)(hcnt:prN (agP K) (suP K) lev L≤90000)(hlen:(canonC (covL (prA (agP K) (suP K) lev L))).length≤4000):
 Calls Tryz.prog 59 #[.slice A n c,.slice Al nl cl,vi vk lev] w (RetCells w (canonC (covL (prA (agP K) (suP K) lev L))) 0):=by
 have hl:=hrl.len;have hpv:=prA_v (ag:=agP K) (su:=suP K) h16 hLV;have hps:=prA_srt (ag:=agP K) (su:=suP K) h16 hLV hT;have hnl9:nl≤90000:=by have:=hpv.2.2.2.1;omega
 have KTD:Hid (∀(A9:Option Addr) (c9:Nat) (W:World),Reads W W.heap.size 3 A9 (prA (agP K) (suP K) lev L).length (cvs (prA (agP K) (suP K) lev L))→Calls Tryz.prog 105 #[.slice A9 (prA (agP K) (suP K) lev L).length c9] W (RetCells W (canonC (covL (prA (agP K) (suP K) lev L))) 0)):=hid fun A9 c9 W hr=>tidied_any A9 _ c9 _ W hr hpv.1 hps om_ hlen;have hA:otT (ptP39 K lev) L nl=prA (agP K) (suP K) lev L:=by rw[←hl,otT_all];rfl
 have hsum: ∀k,k<nl→lkT (ptQ39 K lev) L k+ptQ39 K lev (gt L k)≤90000:=fun k hk=>Nat.le_trans (lkT_le (ptQ39 K lev) L k om_) hcnt;have hot: ∀k,k≤nl→(otT (ptP39 K lev) L k).length≤lkT (ptQ39 K lev) L k:=fun k hk=>otT_len (fun x hx=>(prt_v h16 _ x (hLV x hx) (fuC_eq (hLV x hx))).2.2.1) k om_;have hav: ∀k,AllV (otT (ptP39 K lev) L k):=fun k y hy=>by
  obtain⟨z,hz,hyz⟩:=List.mem_flatMap.1 hy;have hz':=List.mem_of_mem_take hz;exact(prt_v h16 _ z (hLV z hz') (fuC_eq (hLV z hz'))).1 y hyz
 have bB:=Blk.new w 143 #[.slice A n c,vi vk lev,vi vk 0,.slice none 0 0];have ba:=bl_alloc w (.cells #[.slice A n c,vi vk lev,vi vk 0,.slice none 0 0] 143);have hsz:(w.alloc (.cells #[.slice A n c,vi vk lev,vi vk 0,.slice none 0 0] 143)).heap.size=w.heap.size+1:=by simp
 rw[←hA] at KTD⊢;have HK:=hid hK;have RD:=hid hrd;have RL:=hid hrl;have HLV:=hid hLV;have HLN:=hid hl;have HSUM:=hid hsum;have HOT:=hid hot;have HAV:=hid hav;clear hK hrd hrl hLV hl hsum hot hav hA hpv hps hT hcnt hlen;go_enter func59,ntmps59;go_upto_region 2 with (fail)
 generalize w.alloc (.cells #[.slice A n c,vi vk lev,vi vk 0,.slice none 0 0] 143)=w1 at bB ba hsz⊢;have S1:Hid (SS w.heap.size w.heap.size w1 (.slice A n c) lev 0 (.slice none 0 0) []):=hid ⟨bB,own_nil _ _ _ _⟩;have B1:=hid ba;clear bB ba;go_wp2;go_loopg [17] nl (fun gz s17 wr=> ∃(k:Nat) (u:Value),k≤nl∧k+gz=nl∧s17=vi vk k∧SS w.heap.size w.heap.size wr (.slice A n c) lev (lkT (ptQ39 K lev) L k:Int) u (otT (ptP39 K lev) L k)∧XK w.heap.size (.slice none 0 0) w1 wr∧Nx w1 (.slice none 0 0) u)
 case atStart=>exact⟨0,_,om_,om_,rfl,by simpa [lkT,otT] using S1.out,XK.refl _ _ _,Nx.refl _ _⟩
 case round=>
  obtain⟨k,u,hk,hkg,rfl,hSt,hX,hN⟩:=hrel;have hss:=hX.size;have HX:=hid hX;have HN:=hid hN;have hxb:=hX.below (n₀:=w.heap.size) (Nat.le_refl _) (by simp[Value.ownBlock]) om_;have hbw:=B1.out.trans hxb;by_cases hlt:k<nl
  · obtain⟨b,off,rfl,hb,x0,x1,x2⟩:=RL.out.elem hlt
    have y0:=(hbw.cell (p:=⟨b,off+k*3,none⟩) hb).trans x0;have y1:=(hbw.cell (p:=⟨b,off+k*3+1,none⟩) hb).trans x1;have y2:=(hbw.cell (p:=⟨b,off+k*3+2,none⟩) hb).trans x2;have hmem:gt L k∈L:=by simp[gt,show k<L.length by have:=HLN.out;omega]
    have hxv:=HLV.out _ hmem;have hxl:=fuC_eq hxv;have hsk:=HSUM.out k hlt;have hok:=HOT.out k hk;have hvk:=HAV.out k;have e1:=lkT_succ (ptQ39 K lev) L k (by have:=HLN.out;omega);have e2:=otT_succ (ptP39 K lev) L k (by have:=HLN.out;omega);obtain⟨x,hx⟩: ∃x,gt L k=x:=⟨_,rfl⟩;rw[hx] at y0 y1 y2 hxv hxl hsk e1 e2;have bc:=bl_alloc wr (.cells #[vi vk x.1,vi vk x.2.1,vi vk x.2.2] 55);have KC:=look_ok (fuC x) K A n c x.1 x.2.1 x.2.2 lev (lkT (ptQ39 K lev) L k:Int) w.heap.size w.heap.size u (otT (ptP39 K lev) L k) (wr.alloc (.cells #[vi vk x.1,vi vk x.2.1,vi vk x.2.2] 55)) HK.out om_ ((RD.out.below hbw).alloc om_ _) hxv hxl h16 (Nat.le_refl _) (hSt.below bc) hvk om_ (by show((lkT (ptQ39 K lev) L k:Nat):Int)+((ptQ39 K lev x:Nat):Int)≤100000;omega) om_;have hpp:prt (agP K) (suP K) lev (fuC x) (x.1,x.2.1,x.2.2)=ptP39 K lev x:=rfl;have hpq:prn (agP K) (suP K) lev (fuC x) (x.1,x.2.1,x.2.2)=ptQ39 K lev x:=rfl;rw[hpp,hpq,←e2,show(lkT (ptQ39 K lev) L k:Int)+(ptQ39 K lev x:Int)=(lkT (ptQ39 K lev) L (k+1):Int) by omega] at KC;have BC:=hid bc;have KC:=hid KC;clear hpp hpq e1 e2 hsk hok hvk hxv hxl hmem x0 x1 x2 hSt hX hN hx bc hxb hbw;obtain⟨x_0,x_1,x_2⟩:=x;simp only[] at y0 y1 y2 KC BC;have hlw:w.heap.size<wr.heap.size:=by omega
    go_wp2_with fail;(with_reducible refine(KC.out).mono ?_)
    rintro e w9 ⟨rfl,hG⟩
    obtain⟨u9,s1,s2,s3⟩:=hG.after (XK.of_below BC.out);have SF:=hid s1;have XF:=hid (HX.out.trans HN.out s2);have NF:=hid (HN.out.trans hss s3);clear s1 s2 s3 hG;go_wp2;go_roundg (nl-(k+1))
    case measure=>omega
    case rel=>exact⟨k+1,u9,om_,om_,by go_num,SF.out,XF.out,NF.out⟩
  · have hkn:k=nl:=by omega
    subst hkn;obtain⟨A9,c9,rfl,hr9,-,-⟩:=own_form hSt.row;have hcc:=hSt.box.cell 3;simp only[List.getElem?_toArray,List.getElem?_cons_zero,List.getElem?_cons_succ] at hcc;have KT:=hid (KTD.out A9 c9 wr hr9);have BW:=hid hbw;have hlw:w.heap.size<wr.heap.size:=by omega
    clear hSt hX hN HX HN hxb hbw KTD hr9;go_wp2_with fail;(with_reducible refine(KT.out).mono ?_)
    rintro e w9 ⟨v9,rfl,ho9,hb9⟩
    have B9:=hid (BW.out.trans (hb9.mono BW.out.size));have O9:=hid (own_mono ho9 BW.out.size);clear ho9 hb9;go_wp2;go_ret2
    exact⟨_,rfl,O9.out,B9.out⟩
theorem given_yes(K:List Ci)(A:Option Addr)(n c:Nat)(w:World)(hK: ∀k∈K,VCi k)(hn:n≤40)(hrd:Reads w w.heap.size 6 A n (civs K)):
 Calls Tryz.prog 103 #[.slice A n c] w fun e w'=>e=.returned (vi vk 0)∧Below w.heap.size w w':=by
 have KC:=contC_any 139 #[] (fun _=>false) (enters_of func139 (by kernel_rfl) rfl) A n c K w hrd (by simp only[maxLen];omega) (fun W k hk _=>givenClos_any k W (hK k hk));rw[show(K.any fun _=>false)=false by simp] at KC;have KC:=hid KC;have d0:decide ((40:Int)<(n:Int))=false:=decide_eq_false om_;clear hrd hK;go_enter func103,ntmps103;go_wp2_with fail;(with_reducible refine(KC.out).mono ?_)
 rintro e w1 ⟨rfl,hb1⟩
 have B1:=hid hb1;clear hb1;go_wp2;go_ret;exact⟨rfl,B1.out⟩
theorem check_yes(K:List Ci)(A:Option Addr)(n c:Nat)(L:List Cl)(Al:Option Addr)(nl cl:Nat)(lev:Int)(w:World)(hK: ∀k∈K,VCi k)(hn:n≤40)(hrd:Reads w w.heap.size 6 A n (civs K))(hrl:Reads w w.heap.size 3 Al nl (cvs L))(hv:vrB L=true)(h0:0≤lev)(h16:lev≤16):
 Calls Tryz.prog 58 #[.slice A n c,.slice Al nl cl,vi vk lev] w fun e w'=>e=.returned (vi vk 0)∧Below w.heap.size w w':=by
 have hl:=hrl.len;have hvl:=(vrB_iff L).1 hv;have KG:=hid (given_yes K A n c w hK hn hrd);have KR:=hid (fun(W:World) (h:Below w.heap.size w W)=>ValidRegion_any Al nl cl L W ((hrl.below h).more h.size) (by have:=hvl.1;simp only[maxLen];omega));rw[hv] at KR;have d0:decide (lev<0)=false:=decide_eq_false om_;have d1:decide (16<lev)=false:=decide_eq_false om_;clear hK hrd hrl hvl hv hl;go_enter func58,ntmps58;go_wp2_with fail;(with_reducible refine(KG.out).mono ?_)
 rintro e w1 ⟨rfl,hb1⟩
 have B1:=hid hb1;have KR2:=hid (KR.out w1 hb1);clear hb1 KR KG;go_wp2_with fail;(with_reducible refine(KR2.out).mono ?_)
 rintro e w2 ⟨rfl,hb2⟩
 have B2:=hid (B1.out.trans (hb2.mono B1.out.size));clear hb2;go_wp2;go_ret;exact⟨rfl,B2.out⟩
theorem vr_td{L:List Cl}(hv:vrB L=true):AllV L∧canonC (covL L)=L:=⟨((vrB_iff L).1 hv).2.1,((vrB_iff L).1 hv).2.2⟩
theorem can_pr{K:List Ci}{L:List Cl}{lev:Int}(hLV:AllV L)(h16:lev≤16):(canonC (covL (prA (agP K) (suP K) lev L))).length≤prN (agP K) (suP K) lev L:=by
 have h:=prA_v (ag:=agP K) (su:=suP K) h16 hLV;exact Nat.le_trans (canonC_len _ h.1) h.2.2.1
theorem Of39_yes(K:List Ci)(A:Option Addr)(n c:Nat)(L:List Cl)(Al:Option Addr)(nl cl:Nat)(lev:Int)(w:World)(hK: ∀k∈K,VCi k)(hn:n≤40)(hrd:Reads w w.heap.size 6 A n (civs K))(hrl:Reads w w.heap.size 3 Al nl (cvs L))(hv:vrB L=true)(h0:0≤lev)(h16:lev≤16)(hcnt:prN (agP K) (suP K) lev L≤4000):
 Calls Tryz.prog 32 #[.slice A n c,.slice Al nl cl,vi vk lev] w (RetCells w (canonC (covL (prA (agP K) (suP K) lev L))) 0):=by
 obtain⟨hLV,hT⟩:=vr_td hv;have hlen:(canonC (covL (prA (agP K) (suP K) lev L))).length≤4000:=Nat.le_trans (can_pr hLV h16) hcnt;have KC:=hid (check_yes K A n c L Al nl cl lev w hK hn hrd hrl hv h0 h16);have KO:=hid (fun(W:World) (h:Below w.heap.size w W)=>of39_any K A n c L Al nl cl lev W hK hn ((hrd.below h).more h.size) ((hrl.below h).more h.size) hLV hT h16 om_ hlen);clear hK hrd hrl hv hLV hT hcnt hlen;generalize canonC (covL (prA (agP K) (suP K) lev L))=R at KO⊢;go_enter func32,ntmps32;go_wp2_with fail;(with_reducible refine(KC.out).mono ?_)
 rintro e w1 ⟨rfl,hb1⟩
 have B1:=hid hb1;have KO2:=hid (KO.out w1 hb1);clear hb1 KC KO;go_wp2_with fail;(with_reducible refine(KO2.out).mono ?_)
 rintro e w2 ⟨v2,rfl,ho2,hb2⟩
 have B2:=hid (B1.out.trans (hb2.mono B1.out.size));have O2:=hid (own_mono ho2 B1.out.size);clear ho2 hb2;go_wp2;go_ret2
 exact⟨_,rfl,O2.out,B2.out⟩
def t39:List Cl:=[(1,0,1),(1,1,1),(1,0,2),(1,1,2)]
noncomputable def arO (p:Bx) (lev:Int) (k:Nat):List Cl:=if k=0 then[] else if k=1 then canonC (covL (arnL (mtP p) lev lev.toNat (0,0,0))) else canonC (covL (arnA (mtP p) lev))
theorem arO_step{p:Bx}{lev:Int}(hp:VP p)(h0:0≤lev)(h16:lev≤16)(hlen:(arnA (mtP p) lev).length≤4000)(k:Nat)(hk:k<2):
 covP (mtP p) (inP p) lev lev.toNat (0,0,(k:Int)) (arO p lev k)=arO p lev (k+1)∧AllV (arO p lev k)∧(arO p lev k).length+(arnL (mtP p) lev lev.toNat (0,0,(k:Int))).length≤4064:=by
 obtain⟨c0,c1⟩:=cov_around (mt:=mtP p) (ins:=inP p) h0 h16 (inP_kids hp h16);have hv:=arnA_v (mt:=mtP p) h0 h16;have hsplit:(arnA (mtP p) lev).length=(arnL (mtP p) lev lev.toNat (0,0,0)).length+(arnL (mtP p) lev lev.toNat (0,0,1)).length:=by unfold arnA;rw[List.length_append]
 have v0:AllV (arnL (mtP p) lev lev.toNat (0,0,0)):=fun x hx=>hv x (List.mem_append_left _ hx);match k,hk with
 |0,_=>
  refine⟨?_,fun x hx=>by simp[arO] at hx,?_⟩
  · unfold arO;rw[if_pos rfl,if_neg om_,if_pos rfl];exact c0
  · have e:arO p lev 0=[]:=by unfold arO;rw[if_pos rfl]
    rw[e];simp only[List.length_nil];have e2:(((0:Nat):Int))=0:=rfl;rw[e2];omega
 |1,_=>
  have hl:=canonC_len _ v0;refine⟨?_,?_,?_⟩
  · unfold arO;rw[if_neg om_,if_pos rfl,if_neg om_,if_neg om_];exact c1
  · unfold arO;rw[if_neg om_,if_pos rfl];exact can_v _ v0
  · unfold arO;rw[if_neg om_,if_pos rfl];simp only[Int.natCast_one];omega
theorem arO_end(p:Bx)(lev:Int):arO p lev 2=canonC (covL (arnA (mtP p) lev)):=by unfold arO;rw[if_neg om_,if_neg om_]
theorem Around_yes(p0 p1 p2 p3 lev:Int)(w:World)(hp:VP (p0,p1,p2,p3))(h0:0≤lev)(h16:lev≤16)(hlen:(arnA (mtP (p0,p1,p2,p3)) lev).length≤4000):
 Calls Tryz.prog 31 #[.agg #[vi vk p0,vi vk p1,vi vk p2,vi vk p3],vi vk lev] w (RetCells w (canonC (covL (arnA (mtP (p0,p1,p2,p3)) lev))) 0):=by
 have KV:=hid (fun W=>placeValid_vp p0 p1 p2 p3 W hp);have ST:=hid (arO_step hp h0 h16 hlen);have HE:=hid (arO_end (p0,p1,p2,p3) lev);have HP:=hid hp;have hEL:(arO (p0,p1,p2,p3) lev 2).length≤4000:=by rw[arO_end];exact Nat.le_trans (canonC_len _ (arnA_v h0 h16)) hlen
 have HEL:=hid hEL;have G2:=hid (Blk.new w 40 #[vi vk p0,vi vk p1,vi vk p2,vi vk p3]);have d0:decide (lev<0)=false:=decide_eq_false om_;have d1:decide (16<lev)=false:=decide_eq_false om_;clear hp hlen hEL;rw[←HE.out];go_enter func31,ntmps31;go_wp2_with fail;(with_reducible refine(KV.out _).mono ?_)
 rintro e w1 ⟨rfl,hb1⟩
 have B1:=hid ((bl_alloc w (.cells #[vi vk p0,vi vk p1,vi vk p2,vi vk p3] 40)).trans (hb1.mono (by simp)));have G3:=hid (((G2.out.below hb1 G2.out.lt).alloc (.cells #[.slice none 0 0] 44)).alloc (.cells #[vi vk 0,vi vk 0,vi vk 0,vi vk 0,vi vk 0,vi vk 1] 55));have bB:=(Boxed.new w1 44 (.slice none 0 0)).alloc (.cells #[vi vk 0,vi vk 0,vi vk 0,vi vk 0,vi vk 0,vi vk 1] 55);have gC:=Blk.new (w1.alloc (.cells #[.slice none 0 0] 44)) 55 #[vi vk 0,vi vk 0,vi vk 0,vi vk 0,vi vk 0,vi vk 1];simp only[World.size_alloc] at gC;have B2:=(B1.out.alloc B1.out.size (.cells #[.slice none 0 0] 44)).alloc (by have:=B1.out.size;simp;omega) (.cells #[vi vk 0,vi vk 0,vi vk 0,vi vk 0,vi vk 0,vi vk 1] 55);have hs1:=B1.out.size;have hg3:=(G2.out.below hb1 G2.out.lt).lt;have hs2:((w1.alloc (.cells #[.slice none 0 0] 44)).alloc (.cells #[vi vk 0,vi vk 0,vi vk 0,vi vk 0,vi vk 0,vi vk 1] 55)).heap.size=w1.heap.size+2:=by simp
 clear hb1 KV G2;go_wp2;generalize (w1.alloc (.cells #[.slice none 0 0] 44)).alloc (.cells #[vi vk 0,vi vk 0,vi vk 0,vi vk 0,vi vk 0,vi vk 1] 55)=w2 at bB gC B2 G3 hs2⊢;have GC:=hid gC;have BB:=hid bB;have B2:=hid B2;have hsl: ∀u,u∈([]:List Cl)→Vl u:=fun u hu=>by cases hu
 have S2:Hid (St w1.heap.size w1.heap.size w2 (.slice none 0 0) (arO (p0,p1,p2,p3) lev 0)):=hid (by
  have e:arO (p0,p1,p2,p3) lev 0=[]:=by unfold arO;rw[if_pos rfl]
  rw[e];exact⟨BB.out,own_nil _ _ _ _⟩)
 clear gC bB hsl;go_loopg [24] 2 (fun gz s24 wr=> ∃(k:Nat) (u:Value),k+gz=2∧s24=vi vk k∧St w1.heap.size w1.heap.size wr u (arO (p0,p1,p2,p3) lev k)∧XK w1.heap.size (.slice none 0 0) w2 wr∧Nx w2 (.slice none 0 0) u)
 case atStart=>exact⟨0,_,om_,rfl,S2.out,XK.refl _ _ _,Nx.refl _ _⟩
 case round=>
  obtain⟨k,u,hk,rfl,hSt,hX,hN⟩:=hrel;have hss:=hX.size;have HSt:=hid hSt;have HX:=hid hX;have HN:=hid hN;by_cases hlt:k<2
  · obtain⟨t1,t2,t3⟩:=ST.out k hlt
    have gc:=hX.blk GC.out om_ (by simp[Value.ownBlock]);have g3:=hX.blk G3.out om_ (by simp[Value.ownBlock]);have x0:=g3.cell 0;have x1:=g3.cell 1;have x2:=g3.cell 2;have x3:=g3.cell 3;have c0:wr.cell? ⟨w1.heap.size+1,k*3,none⟩=some (vi vk 0):=by
     rw[gc.cell];match k,hlt with
     |0,_=>rfl
     |1,_=>rfl
    have c1:wr.cell? ⟨w1.heap.size+1,k*3+1,none⟩=some (vi vk 0):=by
     rw[gc.cell];match k,hlt with
     |0,_=>rfl
     |1,_=>rfl
    have c2:wr.cell? ⟨w1.heap.size+1,k*3+2,none⟩=some (vi vk (k:Int)):=by
     rw[gc.cell];match k,hlt with
     |0,_=>rfl
     |1,_=>rfl
    simp only[List.getElem?_toArray,List.getElem?_cons_zero,List.getElem?_cons_succ] at x0 x1 x2 x3;have hba:=bl_alloc wr (.cells #[vi vk 0,vi vk 0,vi vk (k:Int)] 55);have hlt2:w.heap.size<wr.heap.size:=by omega
    have KC:=cover_ok lev.toNat p0 p1 p2 p3 0 0 (k:Int) lev w1.heap.size w1.heap.size u (arO (p0,p1,p2,p3) lev k) (wr.alloc (.cells #[vi vk 0,vi vk 0,vi vk (k:Int)] 55)) HP.out (top_vl (k:Int) om_ om_) om_ h16 (hSt.below hba) (by simp;omega) t2 t3;rw[t1] at KC;have KC:=hid KC;have HBA:=hid hba;clear hSt hX hN gc g3 hba t1 t2 t3;go_wp2_with fail;(with_reducible refine(KC.out).mono ?_)
    rintro e w9 ⟨rfl,hG⟩
    obtain⟨u9,s1,s2,s3⟩:=hG.after HBA.out;go_wp2;go_roundg (2-(k+1))
    case measure=>omega
    case rel=>exact⟨k+1,u9,om_,by go_num,s1,HX.out.trans HN.out s2,HN.out.trans hss s3⟩
  · have hk2:k=2:=by omega
    subst hk2;obtain⟨A9,c9,rfl,-,-⟩:=own_form hSt.row;have hcc:=hSt.box.cell;have hd:decide (4000<((arO (p0,p1,p2,p3) lev 2).length:Int))=false:=decide_eq_false (by have:=HEL.out;omega);have OW:=hid (own_mono hSt.row hs1);have BW:=hid (B2.out.trans ((hX.below (n₀:=w.heap.size) hs1 (by simp[Value.ownBlock]) om_)));clear hSt hX hN HSt HX HN;go_wp2;go_ret2
    exact⟨_,rfl,OW.out,BW.out⟩
theorem has_vp(x y n:Int)(w:World)(h:VL (x,y))(h0: -100000000≤n)(h1:n≤100000000):Calls Tryz.prog 35 #[.agg #[vi vk x,vi vk y],vi vk n] w fun e w'=>e=.returned (.bool (lonIn x y n))∧Below w.heap.size w w':=by
 have h':(x= -10800000∧y=10800000)∨(-10800000≤x∧x<10800000∧x≤y∧y-x<21600000):=h;rcases h' with ⟨rfl,rfl⟩|⟨q1,q2,q3,q4⟩
 · have K:=fun W=>all_any (-10800000) 10800000 W
   rw[show aeq (-10800000) 10800000 (-10800000) 10800000=true by decide] at K;have K:=hid K;have hl:lonIn (-10800000) 10800000 n=true:=by unfold lonIn;rw[decide_eq_true_eq];omega
   rw[hl];have b0:=bl_alloc w (.cells #[vi vk (-10800000),vi vk 10800000] 31);have D0:=hid (D2.new w (-10800000) 10800000 31);have B0:=hid b0;clear b0 h hl;go_enter func35,ntmps35;go_upto_region 1 with (fail)
   generalize w.alloc (.cells #[vi vk (-10800000),vi vk 10800000] 31)=w1 at B0 D0⊢;have c0: ∀s:BV w1,s.w.cell? ⟨w.heap.size,0,none⟩=some (vi vk (-10800000)):=fun s=>(s.hb.cell (p:=⟨w.heap.size,0,none⟩) D0.out.lt).trans D0.out.c0;have c1: ∀s:BV w1,s.w.cell? ⟨w.heap.size,1,none⟩=some (vi vk 10800000):=fun s=>(s.hb.cell (p:=⟨w.heap.size,1,none⟩) D0.out.lt).trans D0.out.c1;refine wp_region_bv w1 (by kernel_rfl) (by kernel_rfl) (Below.refl _ _) ?_;(repeat (go_big_quiet_step (first|(go_at_call 47;with_reducible exact quiet_bv (K.out _))|fail)))
   refine wpQuiet_nil ?_;intro w9 hb9;clear c0 c1;go_wp2;go_ret;exact⟨ret_bool (by simp),B0.out.trans (hb9.mono B0.out.size)⟩
 · exact has_place x y n w h0 h1 om_ om_ q3 q4
theorem placeContains_vp(b0 b1 b2 b3 a b:Int)(w:World)(hb:VP (b0,b1,b2,b3))(hp:vptB a b=true):
 Calls Tryz.prog 14 #[.agg #[vi vk b0,vi vk b1,vi vk b2,vi vk b3],.agg #[vi vk a,vi vk b]] w fun e w'=>e=.returned (.tuple #[.bool (inBox b0 b1 b2 b3 a b),vi vk 0])∧Below w.heap.size w w':=by
 have K1:=hid (fun W=>placeValid_vp b0 b1 b2 b3 W hb);have K2:=hid (vpt_yes a b hp);obtain⟨p1,p2,p3,p4⟩:=vptB_true.1 hp;have K3:=hid (fun W=>has_vp b2 b3 b W hb.o om_ om_);clear hb hp;obtain⟨R,hR⟩: ∃R,R=inBox b0 b1 b2 b3 a b:=⟨_,rfl⟩;rw[←hR];have HR:=hid hR;clear hR;go_enter func14,ntmps14;go_wp2_with fail;(with_reducible refine(K1.out _).mono ?_)
 rintro e w1 ⟨rfl,hb1⟩
 have hb1':=two_bl hb1;have hz1:=two_lt hb1;have x0:=(hb1.cell (p:=⟨w.heap.size,0,none⟩) (by simp;omega)).trans (show _=some (vi vk b0) by simp);have x1:=(hb1.cell (p:=⟨w.heap.size,1,none⟩) (by simp;omega)).trans (show _=some (vi vk b1) by simp);have x2:=(hb1.cell (p:=⟨w.heap.size,2,none⟩) (by simp;omega)).trans (show _=some (vi vk b2) by simp);have x3:=(hb1.cell (p:=⟨w.heap.size,3,none⟩) (by simp;omega)).trans (show _=some (vi vk b3) by simp);have y0:=(hb1.cell (p:=⟨w.heap.size+1,0,none⟩) (by simp)).trans (show _=some (vi vk a) by simp);have y1:=(hb1.cell (p:=⟨w.heap.size+1,1,none⟩) (by simp)).trans (show _=some (vi vk b) by simp);clear hb1;go_wp2_with fail;(with_reducible refine(K2.out _).mono ?_)
 rintro e w2 ⟨rfl,hb2⟩
 have hb2':=hb1'.trans (hb2.mono hb1'.size);have x0:=(hb2.cell (p:=⟨w.heap.size,0,none⟩) hz1.1).trans x0;have x1:=(hb2.cell (p:=⟨w.heap.size,1,none⟩) hz1.1).trans x1;have x2:=(hb2.cell (p:=⟨w.heap.size,2,none⟩) hz1.1).trans x2;have x3:=(hb2.cell (p:=⟨w.heap.size,3,none⟩) hz1.1).trans x3;have y0:=(hb2.cell (p:=⟨w.heap.size+1,0,none⟩) hz1.2).trans y0;have y1:=(hb2.cell (p:=⟨w.heap.size+1,1,none⟩) hz1.2).trans y1;clear hb2 hb1' K1 K2;by_cases h0:a<b0
 · have hE:Hid (R=false):=hid (by rw[HR.out];simp[inBox];omega)
   go_wp2;go_ret2
   exact⟨by rw[hE.out];rfl,hb2'⟩
 · have d0:decide (a<b0)=false:=decide_eq_false h0
   by_cases h1:b1<a
   · have hE:Hid (R=false):=hid (by rw[HR.out];simp[inBox];omega)
     go_wp2;go_ret2
     exact⟨by rw[hE.out];rfl,hb2'⟩
   · have d1:decide (b1<a)=false:=decide_eq_false h1
     have hin:decide (b0≤a∧a≤b1)=true:=decide_eq_true om_;by_cases h2:a=5400000
     · have hE:Hid (R=true):=hid (by rw[HR.out,inBox,hin];simp[h2])
       subst h2;clear hin;go_wp2;go_ret2
       exact⟨by rw[hE.out];rfl,hb2'⟩
     · have e2:(a==5400000)=false:=by simp[h2]
       by_cases h3:a= -5400000
       · have hE:Hid (R=true):=hid (by rw[HR.out,inBox,hin];simp[h3])
         subst h3;clear hin;go_wp2;go_ret2
         exact⟨by rw[hE.out];rfl,hb2'⟩
       · have e3:(a== -5400000)=false:=by simp[h3]
         have hE:Hid (R=lonIn b2 b3 b):=hid (by rw[HR.out,inBox,hin];simp[h2,h3]);generalize lonIn b2 b3 b=z at K3 hE;clear hin;go_wp2_with (go_at_call 35;(with_reducible refine(K3.out _).mono ?_);rintro e w3 ⟨rfl,hb3⟩);go_ret2
         exact⟨by rw[hE.out];rfl,hb2'.trans (hb3.mono hb2'.size)⟩
theorem vp_pt2{a b:Int}(h:vptB a b=true):VP (a,a,b,b):=by
 have:=vptB_true.1 h;exact⟨Int.le_refl _,so_,so_,.inr ⟨so_,so_,Int.le_refl _,so_⟩⟩
theorem latF_in(D:List Bx): ∀(k:Nat),k≤D.length→ ∀i,i<k→(latF D k).1≤(gb D i).1∧(gb D i).2.1≤(latF D k).2:=by
 intro k;induction k with
 |zero=>intro _ i hi;omega
 |succ k ih=>
  intro hk i hi;rw[latF_succ D k om_];simp only[];by_cases h:i<k
  · have:=ih om_ i h
    omega
  · have:i=k:=by omega
    subst this;omega
theorem mem_gb{L:List Cl}{x:Cl}(hx:x∈L): ∃i,i<L.length∧gb (L.map bxI) i=bxI x:=by
 obtain⟨i,hi,he⟩:=List.getElem_of_mem hx;exact⟨i,hi,by simp[gb,hi,he]⟩
theorem bst_rarn{L:List Cl}(hv: ∀x∈L,Vl x):Bst (Beg (lons (L.map bxI)) (lons (L.map bxI)).length) (fun x=>wdt (lons (L.map bxI)) x (lons (L.map bxI)).length) (rarn (lons (L.map bxI))):=
 rarn_bst (okC_bx hv) _ (Nat.le_refl _)
theorem rarn_vl{L:List Cl}(hv: ∀x∈L,Vl x):VL (rarn (lons (L.map bxI))):=by
 have h:=bst_rarn hv;have hC:=okC_bx hv;generalize lons (L.map bxI)=D at*;generalize rarn D=s at*;rcases h with ⟨-,h2⟩|⟨⟨i,hi,h1⟩,h2,h3,-⟩
 · subst h2;exact .inl ⟨rfl,rfl⟩
 · have:=hC _ (gs_mem hi)
   have hw:=((wdt_all D s.1 (wdt D s.1 D.length)).1 (Int.le_refl _)).1;simp only[] at h2 h3;exact .inr ⟨om_,om_,om_,om_⟩
theorem bnd_vp{L:List Cl}(hv: ∀x∈L,Vl x)(h0:0<L.length):VP (bndV L):=by
 have hb:=bnd_bd hv h0;have h1:=latF_in (L.map bxI) L.length (by simp) 0 h0;have h2:=okB_gb hv (k:=0) (by simpa using h0);obtain⟨a0,a1,a2,-,-,-⟩:=h2;have hle:(bndV L).1≤(bndV L).2.1:=by
  unfold bndV;simp only[];omega
 exact⟨hle,hb.1,hb.2.2.2.1,rarn_vl hv⟩
theorem lonIn_mod(lo hi n:Int)(h:lonIn lo hi n=true)(s:Int×Int)(hs:((lo-s.1)%21600000+hi-lo≤s.2-s.1)):lonIn s.1 s.2 n=true:=by
 unfold lonIn at*;rw[decide_eq_true_eq] at*;omega
theorem bnd_in{L:List Cl}(hv: ∀x∈L,Vl x){a b:Int}(h:conB L a b=true):inBox (bndV L).1 (bndV L).2.1 (bndV L).2.2.1 (bndV L).2.2.2 a b=true:=by
 unfold conB at h;rw[List.any_eq_true] at h;obtain⟨x,hx,hp⟩:=h;obtain⟨i,hi,he⟩:=mem_gb hx;have h1:=latF_in (L.map bxI) L.length (by simp) i hi;rw[he] at h1;have hp':(decide ((bxI x).1≤a∧a≤(bxI x).2.1)&&(decide (a=5400000)||decide (a= -5400000)||lonIn (bxI x).2.2.1 (bxI x).2.2.2 b))=true:=hp;rw[Bool.and_eq_true,decide_eq_true_eq,Bool.or_eq_true] at hp';unfold inBox;rw[Bool.and_eq_true,decide_eq_true_eq,Bool.or_eq_true];refine⟨by unfold bndV;simp only[];omega,hp'.2.imp id fun hl=>?_⟩;have hB:=bst_rarn hv;have hmem:(bxI x).2.2∈lons (L.map bxI):=List.mem_map.2 ⟨bxI x,List.mem_map.2 ⟨x,hx,rfl⟩,rfl⟩;refine lonIn_mod _ _ _ hl (rarn (lons (L.map bxI))) ?_;generalize lons (L.map bxI)=D at*;generalize rarn D=s at*;have hC:=bx_facts (hv x hx);generalize bxI x=q at*;rcases hB with ⟨-,h2⟩|⟨-,h2,h3,-⟩
 · subst h2
   have hb:=hC;simp only[];have hd:(q.2.2.1- -10800000)%21600000+q.2.2.2-q.2.2.1≤21600000:=by omega
   omega
 · have hw:=((wdt_all D s.1 (wdt D s.1 D.length)).1 (Int.le_refl _)).2 q.2.2 hmem
   simp only[] at h2;omega
def FcI(a b c0 c1 i0 i1:Int):Prop:=
 i0=5400000+Trig.asnV (-(min (Trig.sinT (a,a) (c0,c0) (b-c1,b-c1)).2 1073741824))-0∧i1=5400000-Trig.asnV (max (Trig.sinT (a,a) (c0,c0) (b-c1,b-c1)).1 (-1073741824))-0
theorem FcI.bd{a b c0 c1 i0 i1:Int}(h:FcI a b c0 c1 i0 i1):0≤i0∧i0≤10800000∧0≤i1∧i1≤10800000:=by
 obtain⟨rfl,rfl⟩:=h;have r1:=Trig.asn_bd (max (Trig.sinT (a,a) (c0,c0) (b-c1,b-c1)).1 (-1073741824));have r2:=Trig.asn_bd (-(min (Trig.sinT (a,a) (c0,c0) (b-c1,b-c1)).2 1073741824));omega
def fcC(c0 c1 i0 i1 wide:Int):Ci:=((c0,c0,c1,c1),max 0 (i0-wide),min 10800000 (i1+wide))
theorem FcI.ok{a b c0 c1 i0 i1 wide:Int}(h:FcI a b c0 c1 i0 i1)(hc:vptB c0 c1=true)(hw:0≤wide):VCi (fcC c0 c1 i0 i1 wide)∧sdV (sinPt (fcC c0 c1 i0 i1 wide) a b) (Trig.csP (fcC c0 c1 i0 i1 wide).2)=0:=by
 have hs:=Trig.sinT_fv (a,a) (c0,c0) (b-c1,b-c1);have hm:=Trig.sinT_meets (a,a) (c0,c0) (b-c1,b-c1);have hord:=Trig.asn_arc (s:=Trig.sinT (a,a) (c0,c0) (b-c1,b-c1)) hs.2.1 hm.1 hm.2;have r1:=Trig.asn_bd (max (Trig.sinT (a,a) (c0,c0) (b-c1,b-c1)).1 (-1073741824));have r2:=Trig.asn_bd (-(min (Trig.sinT (a,a) (c0,c0) (b-c1,b-c1)).2 1073741824));obtain⟨h0,h1⟩:=h;have e2:sinPt (fcC c0 c1 i0 i1 wide) a b=Trig.sinT (a,a) (c0,c0) (b-c1,b-c1):=rfl;rw[e2];generalize Trig.sinT (a,a) (c0,c0) (b-c1,b-c1)=s at*;unfold fcC;refine⟨⟨vp_pt2 hc,so_,so_,so_⟩,?_⟩;have hw2:=Trig.worked_meets (s:=s) (lo:=5400000-min 10800000 (i1+wide)) (hi:=5400000-max 0 (i0-wide)) hs.2.1 hm.1 hm.2 om_ om_ om_ om_ om_;rw[show(5400000:Int)-(5400000-max 0 (i0-wide))=max 0 (i0-wide) by omega,show(5400000:Int)-(5400000-min 10800000 (i1+wide))=min 10800000 (i1+wide) by omega] at hw2;unfold sdV;rw[if_neg (by have:=hw2.2;simp only[];omega),if_neg (by have:=hw2.1;simp only[];omega)]
theorem arnL_cnt{mt:Cl→Bool}{lev:Int}: ∀(f:Nat) (c:Cl),(arnL mt lev f c).length≤4^f
 |0,c=>by
  unfold arnL;split
  · split<;>simp
  · simp
 |f+1,c=>by
  have hp:1≤4^f:=Nat.one_le_pow _ _ dc_;have e:4^(f+1)=4^f*4:=Nat.pow_succ ..;unfold arnL;split
  · split
    · simp;omega
    · have ih:=arnL_cnt (mt:=mt) (lev:=lev) f
      have: ∀l:List Cl,(l.flatMap (arnL mt lev f)).length≤l.length*4^f:=by
       intro l;induction l with
       |nil=>simp
       |cons x r ihl=>
        rw[List.flatMap_cons,List.length_append,List.length_cons,Nat.add_mul];have:=ih x;omega
      have h4:=this (kidsC c);have hk:(kidsC c).length=4:=rfl;rw[hk] at h4;omega
  · simp
theorem arnA_cnt{mt:Cl→Bool}{lev:Int}(h:lev≤4):(arnA mt lev).length≤512:=by
 unfold arnA;rw[List.length_append];have h1:=arnL_cnt (mt:=mt) (lev:=lev) lev.toNat (0,0,0);have h2:=arnL_cnt (mt:=mt) (lev:=lev) lev.toNat (0,0,1);have h3:4^lev.toNat≤4^4:=Nat.pow_le_pow_right dc_ om_;omega
theorem arn_con1{lev:Int}(h0:0≤lev)(h16:lev≤16){a b:Int}(hv:vptB a b=true):conB (canonC (covL (arnA (mtP (a,a,b,b)) lev))) a b=true:=by
 have hp:VP (a,a,b,b):=vp_pt2 hv;have hi:inX (a,a,b,b) a b:=by
  unfold inX lonP;simp
 have hX:=arnA_v (mt:=mtP (a,a,b,b)) h0 h16;rw[con_iff (can_v _ hX) a b hv];obtain⟨o1,-⟩:=of_in hv (show(0:Int)≤16 by omega) om_;have ho:=of_pt hv (show(0:Int)≤16 by omega) om_;obtain⟨g1,g2,g3,g4⟩:=(of_in hv (show(0:Int)≤16 by omega) om_).2;obtain⟨c,hc⟩: ∃c,ofC a b 16=c:=⟨_,rfl⟩;have hcl:c.1=16:=by rw[←hc];rfl
 rw[hc] at ho o1 g1 g2 g3 g4;have hbk:(blkOf c).1=0:=by show 16-c.1.toNat=0;omega
 have hce:cellB (0,(blkOf c).2)=c:=by
  have:=cellB_blkOf c o1;rw[show blkOf c=(0,(blkOf c).2) from Prod.ext hbk rfl] at this;exact this
 have hq:=(blk_lt c o1).2;rw[hbk] at hq;have hbx:=bx_facts o1;refine⟨(blkOf c).2,?_,?_⟩
 · rw[cov_blk,can_cov hX]
   refine arn_pt hp h0 h16 (by simpa using hq) hi ?_;rw[hce];unfold inX lonP bxI at*;rw[hcl] at*;simp only[] at*;generalize edg c.2.1 16=r0 at*;generalize edg (c.2.1+1) 16=r1 at*;generalize edg c.2.2 16=c0 at*;generalize edg (c.2.2+1) 16=c1 at*;omega
 · unfold fin
   rw[hce];exact ho
end Go.Proofs.YtdeiofgddhbdaaaGreat
