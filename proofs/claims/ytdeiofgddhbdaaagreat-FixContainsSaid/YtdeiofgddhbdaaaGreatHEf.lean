/- The walk of the law FixContains. -/
import Derived.Test.YtdeiofgddhbdaaaGreatHCi
set_option linter.unusedSimpArgs false
set_option linter.unusedVariables false
set_option maxHeartbeats 4000000
set_option maxRecDepth 100000
open Go.RowKit
open Go.Lib (hid)
open Go.Proofs.Tryz
open Go.Value renaming int→vi
open Go.IntKind renaming i64→vk
namespace Go.Proofs.YtdeiofgddhbdaaaGreat
theorem puEf{p:Prop}(h:p:=by simp only[Act.put,List.setIfInBounds_toArray,List.set_cons_zero,List.set_cons_succ]):p:=h
def FcI23(N9:Nat)(W2:World)(x0 x1 x2 x3 x4:Value)(a:Act)(M:Nat→Bool)(a':Act)(w':World):Prop:=
 ∃(v114 v115 v116 v117 v118 v119 v113 v120 v121 v19 v20:Value) (u9:Value) (n9:Int),a'=(((((((((((a.put (some 114) v114).put (some 115) v115).put (some 116) v116).put (some 117) v117).put (some 118) v118).put (some 119) v119).put (some 113) v113).put (some 120) v120).put (some 121) v121).put (some 19) v19).put (some 20) v20)∧Below W2.heap.size W2 w'∧
  (M 5=true→v119=.tuple #[u9,vi vk n9]∧(n9≠6→(N9:Int)≤150))∧
  (M 6=true→M 5=true∧v113=.tuple #[u9,vi vk n9])∧
  (M 7=true→M 5=true∧v120=u9)∧
  (M 8=true→M 5=true∧v121=vi vk n9)∧
  (M 9=true→M 5=true∧v19=u9)∧
  (M 10=true→M 5=true∧v20=vi vk n9)∧
  (M 0=true→v114=x0)∧
  (M 1=true→v115=x1)∧
  (M 2=true→v116=x2)∧
  (M 3=true→v117=x3)∧
  (M 4=true→v118=x4)
theorem FcI23.start{N9:Nat}{W2:World}{x0 x1 x2 x3 x4:Value}(a:Act):FcI23 N9 W2 x0 x1 x2 x3 x4 a (fun _=>false) a W2.drew:=
 ⟨_,_,_,_,_,_,_,_,_,_,_,undef,0,by rw[putQ_self a 114,putQ_self a 115,putQ_self a 116,putQ_self a 117,putQ_self a 118,putQ_self a 119,putQ_self a 113,putQ_self a 120,putQ_self a 121,putQ_self a 19,putQ_self a 20],bl_drew (Below.refl _ _),nofun,nofun,nofun,nofun,nofun,nofun,nofun,nofun,nofun,nofun,nofun⟩
def FcI31(R:List Cl)(be0:Int)(be1:Int)(be2:Int)(be3:Int)(W2:World)(x0 x1 x2 x3 x4:Value)(a:Act)(M:Nat→Bool)(a':Act)(w':World):Prop:=
 ∃(v132 v133 v134 v135 v136 v137 v131 v138 v139 v140 v24 v23 v25:Value) (u9:Value),a'=(((((((((((((a.put (some 132) v132).put (some 133) v133).put (some 134) v134).put (some 135) v135).put (some 136) v136).put (some 137) v137).put (some 131) v131).put (some 138) v138).put (some 139) v139).put (some 140) v140).put (some 24) v24).put (some 23) v23).put (some 25) v25)∧Below W2.heap.size W2 w'∧
  (M 10=true→ ∃g,v24=.pointer (some ⟨g,0,none⟩)∧W2.heap.size≤g∧(M 12=false→Blk w' g 40 #[vi vk 0,vi vk 0,vi vk 0,vi vk 0])∧(M 12=true→Blk w' g 40 #[vi vk be0,vi vk be1,vi vk be2,vi vk be3]))∧
  (M 12=true→M 10=true)∧
  (M 5=true→v137=.tuple #[u9,.agg #[vi vk be0,vi vk be1,vi vk be2,vi vk be3],vi vk 0]∧w'.ownsRow W2.heap.size 55 3 u9 R.length (cvs R))∧
  (M 6=true→M 5=true∧v131=.tuple #[u9,.agg #[vi vk be0,vi vk be1,vi vk be2,vi vk be3],vi vk 0])∧
  (M 7=true→M 5=true∧v138=u9)∧
  (M 8=true→M 5=true∧v139=.agg #[vi vk be0,vi vk be1,vi vk be2,vi vk be3])∧
  (M 9=true→M 5=true∧v140=vi vk 0)∧
  (M 11=true→M 5=true∧v23=u9)∧
  (M 13=true→M 5=true∧v25=vi vk 0)∧
  (M 0=true→v132=x0)∧
  (M 1=true→v133=x1)∧
  (M 2=true→v134=x2)∧
  (M 3=true→v135=x3)∧
  (M 4=true→v136=x4)
theorem FcI31.start{R:List Cl}{be0:Int}{be1:Int}{be2:Int}{be3:Int}{W2:World}{x0 x1 x2 x3 x4:Value}(a:Act):FcI31 R be0 be1 be2 be3 W2 x0 x1 x2 x3 x4 a (fun _=>false) a W2.drew:=
 ⟨_,_,_,_,_,_,_,_,_,_,_,_,_,undef,by rw[putQ_self a 132,putQ_self a 133,putQ_self a 134,putQ_self a 135,putQ_self a 136,putQ_self a 137,putQ_self a 131,putQ_self a 138,putQ_self a 139,putQ_self a 140,putQ_self a 24,putQ_self a 23,putQ_self a 25],bl_drew (Below.refl _ _),nofun,nofun,nofun,nofun,nofun,nofun,nofun,nofun,nofun,nofun,nofun,nofun,nofun,nofun⟩
def TgF(a b c0 c1:Int)(w:World)(e:Ending)(w':World):Prop:=
 (∃z0 z1 i0 i1:Int,e=.returned (.tuple #[.agg #[vi vk a,vi vk b,vi vk z0,vi vk z1,vi vk i0,vi vk i1],vi vk 0])∧FcI a b c0 c1 i0 i1)∧Below w.heap.size w w'
theorem tangent_flat(a b c0 c1:Int)(w:World)(hc:vptB c0 c1=true)(hv:vptB a b=true):
 Calls Tryz.prog 8 #[.agg #[vi vk c0,vi vk c0,vi vk c1,vi vk c1,vi vk 0,vi vk 0],.agg #[vi vk a,vi vk b]] w (TgF a b c0 c1 w):=
 (Tangent_yes c0 c0 c1 c1 0 0 a b w ⟨vp_pt2 hc,om_,om_,om_⟩ hv).mono fun e w' ⟨⟨z0,z1,he⟩,hb⟩=>⟨⟨z0,z1,_,_,he,rfl,rfl⟩,hb⟩
theorem own_put4{W:World}{base g n:Nat}{v:Value}{xs:List Value}{z0 z1 z2 z3:Value}(h:W.ownsRow base 55 3 v n xs)(hB:Blk W g 40 #[z0,z1,z2,z3])(u0 u1 u2 u3:Value):((((W.setCell ⟨g,0,none⟩ u0).setCell ⟨g,1,none⟩ u1).setCell ⟨g,2,none⟩ u2).setCell ⟨g,3,none⟩ u3).ownsRow base 55 3 v n xs:=
 ownsRow_far (ownsRow_far (ownsRow_far (ownsRow_far h hB dc_) (hB.set_ 0 u0) dc_) ((hB.set_ 0 u0).set_ 1 u1) dc_) (((hB.set_ 0 u0).set_ 1 u1).set_ 2 u2) dc_
theorem gpn_mem{G:List Pn}{k:Nat}(h:k<G.length):gpn G k∈G:=by
 unfold gpn;rw[List.getD_eq_getElem?_getD,List.getElem?_eq_getElem h];exact List.getElem_mem h
theorem fixContains_early(a b:Int)(A:Option Addr)(n c:Nat)(G:List Pn)(wide lv:Int)(w:World)(hrg:Reads w w.heap.size 2 A n (pnls G))(hnc:n≤c)(hcm:c≤maxLen)(h:vptB a b=false∨4<n∨(G.any fun x=> !(vptB x.1 x.2))=true):
 Calls Tryz.prog 3 #[.agg #[vi vk a,vi vk b],.slice A n c,.int .u16 wide,.int .u8 lv] w fun e w'=>e=.returned (.bool true)∧Below w.heap.size w w':=by
 have KA:=hid awake40;have KP:=fun W=>vpt_any a b W;have PB:=hid (Blk.new w 23 #[vi vk a,vi vk b]);have B0:=hid (bl_alloc w (.cells #[vi vk a,vi vk b] 23));have KN:=fun(W:World) (h:Below w.heap.size w W)=>noBadPn_any A n c G W ((hrg.below h).more h.size) (Nat.le_trans hnc hcm);clear hrg;cases hvp:vptB a b with
 |false=>
  rw[hvp] at KP;have KP:=hid KP;clear KN h hvp;go_enter func3,ntmps3;go_upto_region 1 with (fail)
  generalize w.alloc (.cells #[vi vk a,vi vk b] 23)=w9 at PB B0⊢;go_wp2_with fail;(with_reducible refine(KA.out _).mono ?_)
  rintro e w1 ⟨rfl,hb1⟩
  have P1:=hid (PB.out.below hb1 PB.out.lt);have B1:=hid (B0.out.trans (hb1.mono B0.out.size));clear hb1 KA PB B0;have x0:w1.cell? ⟨w.heap.size,0,none⟩=some (vi vk a):=P1.out.cell 0;have x1:w1.cell? ⟨w.heap.size,1,none⟩=some (vi vk b):=P1.out.cell 1;go_wp2_with fail;(with_reducible refine(KP.out _).mono ?_)
  rintro e w2 ⟨rfl,hb2⟩
  have B2:=hid (B1.out.trans (hb2.mono B1.out.size));clear hb2 KP x0 x1 P1 B1;go_wp2;go_ret;exact⟨rfl,B2.out⟩
 |true=>
 rw[hvp] at KP h;have KP:=hid KP;by_cases c1:4<n
 · have dc1:decide ((4:Int)<(n:Int))=true:=decide_eq_true om_
   clear KN h hvp;go_enter func3,ntmps3;go_upto_region 1 with (fail)
   generalize w.alloc (.cells #[vi vk a,vi vk b] 23)=w9 at PB B0⊢;go_wp2_with fail;(with_reducible refine(KA.out _).mono ?_)
   rintro e w1 ⟨rfl,hb1⟩
   have P1:=hid (PB.out.below hb1 PB.out.lt);have B1:=hid (B0.out.trans (hb1.mono B0.out.size));clear hb1 KA PB B0;have x0:w1.cell? ⟨w.heap.size,0,none⟩=some (vi vk a):=P1.out.cell 0;have x1:w1.cell? ⟨w.heap.size,1,none⟩=some (vi vk b):=P1.out.cell 1;go_wp2_with fail;(with_reducible refine(KP.out _).mono ?_)
   rintro e w2 ⟨rfl,hb2⟩
   have B2:=hid (B1.out.trans (hb2.mono B1.out.size));clear hb2 KP x0 x1 P1 B1;go_wp2;go_ret;exact⟨rfl,B2.out⟩
 have hbad:(G.any fun x=> !(vptB x.1 x.2))=true:=by
  rcases h with h|h|h
  · cases h
  · exact absurd h c1
  · exact h
 rw[hbad] at KN;have KN:=hid KN;have dc1:decide ((4:Int)<(n:Int))=false:=decide_eq_false om_;clear h hvp hbad;go_enter func3,ntmps3;go_upto_region 1 with (fail)
 generalize w.alloc (.cells #[vi vk a,vi vk b] 23)=w9 at PB B0⊢;go_wp2_with fail;(with_reducible refine(KA.out _).mono ?_)
 rintro e w1 ⟨rfl,hb1⟩
 have P1:=hid (PB.out.below hb1 PB.out.lt);have B1:=hid (B0.out.trans (hb1.mono B0.out.size));clear hb1 KA PB B0;have x0:w1.cell? ⟨w.heap.size,0,none⟩=some (vi vk a):=P1.out.cell 0;have x1:w1.cell? ⟨w.heap.size,1,none⟩=some (vi vk b):=P1.out.cell 1;go_wp2_with fail;(with_reducible refine(KP.out _).mono ?_)
 rintro e w2 ⟨rfl,hb2⟩
 have B2:=hid (B1.out.trans (hb2.mono B1.out.size));have KN2:=hid (KN.out w2 B2.out);clear hb2 KP KN x0 x1 P1 B1;go_wp2_with fail;(with_reducible refine(KN2.out).mono ?_)
 rintro e w3 ⟨rfl,hb3⟩
 have B3:=hid (B2.out.trans (hb3.mono B2.out.size));clear hb3;go_wp2;go_ret;exact⟨rfl,B3.out⟩
theorem fixContains_any(a b:Int)(A:Option Addr)(n c:Nat)(G:List Pn)(wide:Int)(lv:Int)(w:World)(hrg:Reads w w.heap.size 2 A n (pnls G))(hnc:n≤c)(hcm:c≤maxLen)(hw0:0≤wide)(hw1:wide≤65535)(l0:0≤lv)(l1:lv≤255):
 Calls Tryz.prog 3 #[.agg #[vi vk a,vi vk b],.slice A n c,.int .u16 wide,.int .u8 lv] w fun e w'=>e=.returned (.bool true)∧Below w.heap.size w w':=by
 by_cases hearly:vptB a b=false∨4<n∨(G.any fun x=> !(vptB x.1 x.2))=true
 · exact fixContains_early a b A n c G wide lv w hrg hnc hcm hearly
 have hvp:vptB a b=true:=by cases h:vptB a b with
  |true=>rfl
  |false=>exact absurd (.inl h) hearly
 have c1:n≤4:=by
  rcases Nat.lt_or_ge 4 n with h|h
  · exact absurd (.inr (.inl h)) hearly
  · exact h
 have hgood:(G.any fun x=> !(vptB x.1 x.2))=false:=by cases h:(G.any fun x=> !(vptB x.1 x.2)) with
  |false=>rfl
  |true=>exact absurd (.inr (.inr h)) hearly
 clear hearly;have hln:=hrg.lenP;have KA:=hid awake40;obtain⟨lev,hlev⟩: ∃k:Int,lv%10=k:=⟨_,rfl⟩;have b0:0≤lev∧lev≤9:=by omega
 have t0:lv.tmod 10=lev:=by rw[Int.tmod_eq_emod_of_nonneg l0];exact hlev
 have u0:wrap64 lv=lv:=IntWalk.wrap64_in _ om_;have u2:wrap64 lev=lev:=IntWalk.wrap64_in _ om_;have u3:wrap64 wide=wide:=IntWalk.wrap64_in _ om_;clear hlev;have KP:=fun W=>vpt_any a b W;rw[hvp] at KP;have KP:=hid KP;have PB:=hid (Blk.new w 23 #[vi vk a,vi vk b]);have B0:=hid (bl_alloc w (.cells #[vi vk a,vi vk b] 23));have KN:=fun(W:World) (h:Below w.heap.size w W)=>noBadPn_any A n c G W ((hrg.below h).more h.size) (Nat.le_trans hnc hcm);rw[hgood] at KN;have KN:=hid KN;have RG:Hid (∀W,Below w.heap.size w W→Reads W W.heap.size 2 A n (pnls G)):=hid fun W h=>(hrg.below h).more h.size;have HG:Hid (∀k,k<n→vptB (gpn G k).1 (gpn G k).2=true):=hid fun k hk=>by
  have h:=List.any_eq_false.1 hgood (gpn G k) (gpn_mem om_);simpa using h
 have HVP:=hid hvp;have KPO:=hid (fun W=>placeOf_yes a b W hvp);have KPV:=hid (fun W=>placeValid_vp a a b b W (vp_pt2 hvp));have dc1:decide ((4:Int)<(n:Int))=false:=decide_eq_false om_;obtain⟨i0,hi0,hz0,hz1,hzb⟩:=info_parts Tryz.infoCircle;clear hrg hvp hgood;go_enter func3,ntmps3;go_upto_region 1 with (fail)
 generalize w.alloc (.cells #[vi vk a,vi vk b] 23)=w9 at PB B0⊢;go_wp2_with fail;(with_reducible refine(KA.out _).mono ?_)
 rintro e w1 ⟨rfl,hb1⟩
 have P1:=hid (PB.out.below hb1 PB.out.lt);have B1:=hid (B0.out.trans (hb1.mono B0.out.size));clear hb1 KA PB B0;have x0:w1.cell? ⟨w.heap.size,0,none⟩=some (vi vk a):=P1.out.cell 0;have x1:w1.cell? ⟨w.heap.size,1,none⟩=some (vi vk b):=P1.out.cell 1;go_wp2_with fail;(with_reducible refine(KP.out _).mono ?_)
 rintro e w2 ⟨rfl,hb2⟩
 have P2:=hid (P1.out.below hb2 P1.out.lt);have B2:=hid (B1.out.trans (hb2.mono B1.out.size));have KN2:=hid (KN.out w2 B2.out);clear hb2 KP KN x0 x1 P1 B1;go_wp2_with fail;(with_reducible refine(KN2.out).mono ?_)
 rintro e w4 ⟨rfl,hb3⟩
 have P4:=hid (P2.out.below hb3 P2.out.lt);have B4:=hid (B2.out.trans (hb3.mono B2.out.size));clear hb3 KN2 B2 P2;have hz4:w.heap.size<w4.heap.size:=P4.out.lt;go_wp2;go_loopg [9,48] n (fun gz s9 s48 wr=> ∃(k:Nat) (Mc:List Ci),k≤n∧n-k≤gz∧s48=vi vk k∧Mc.length=k∧(∀x∈Mc,VCi x∧sdV (sinPt x a b) (Trig.csP x.2)=0)∧wr.ownsRow w4.heap.size 33 6 s9 Mc.length (civs Mc)∧Below w4.heap.size w4 wr)
 case atStart=>exact⟨0,[],Nat.zero_le _,om_,rfl,rfl,fun x hx=>(by cases hx),own_nil _ _ _ _,Below.refl _ _⟩
 case round=>
  obtain⟨k,Mc,hk,hg,rfl,hMk,hM,hown,hbr⟩:=hrel;have HM:=hid hM;have HMK:=hid hMk;have hMk1:Mc.length≤k:=by omega
  clear hMk;have HBR:=hid hbr;have BR:=hid (B4.out.trans (hbr.mono B4.out.size));have PR:=hid (P4.out.below hbr P4.out.lt);have hzr:=hbr.size;obtain⟨A5,c5,hv5,hown5,hnc5,hcm5⟩:=own_form hown;subst hv5;have OW:=hid hown;clear hM hbr hown P4 B4;by_cases hlt:k<n
  · obtain⟨bb,off,rfl,hbb,y0,y1⟩:=(RG.out wr BR.out).elemP hlt
    have hvx:=HG.out k hlt;generalize gpn G k=x at y0 y1 hvx;obtain⟨c0,c1'⟩:=x;simp only[] at y0 y1 hvx;have hba:=(bl_alloc wr (.cells #[vi vk c0,vi vk c1'] 23)).mono hzr;have GB:=hid (Blk.new wr 23 #[vi vk c0,vi vk c1']);have H5:=hid (HBR.out.trans (hba.mono (Nat.le_refl _)));have O5:=hid (OW.out.alloc (.cells #[vi vk c0,vi vk c1'] 23));have P5:=hid (PR.out.below hba (by have:=hz4;omega));have HVX:=hid hvx;have OW0:=OW;clear hba HBR OW PR BR hown5 hnc5 hcm5 hvx;go_upto_region 9 with (fail)
    generalize hw5:wr.alloc (.cells #[vi vk c0,vi vk c1'] 23)=w5 at GB H5 O5 P5⊢;clear hw5 y0 y1 hbb;have HOL:Hid (∀q,(Value.slice A5 Mc.length c5).ownBlock=some q→q<wr.heap.size):=hid fun q hq=>own_ltK OW0.out q hq;have hgp:=GB.out.lt;generalize wr.heap.size=gp at GB hzr HOL hgp⊢;clear OW0;have z0:w5.cell? ⟨gp,0,none⟩=some (vi vk c0):=GB.out.cell 0;have z1:w5.cell? ⟨gp,1,none⟩=some (vi vk c1'):=GB.out.cell 1;have hz5:=H5.out.size;have hba:=(bl_alloc w5 (.cells #[vi vk c0,vi vk c0,vi vk c1',vi vk c1',vi vk 0,vi vk 0] 33)).mono hz5;have CB:=hid (Blk.new w5 33 #[vi vk c0,vi vk c0,vi vk c1',vi vk c1',vi vk 0,vi vk 0]);have H6:=hid (H5.out.trans (hba.mono (Nat.le_refl _)));have O6:=hid (O5.out.alloc (.cells #[vi vk c0,vi vk c0,vi vk c1',vi vk c1',vi vk 0,vi vk 0] 33));have P6:=hid (P5.out.below hba (by have:=hz4;omega));clear hba;go_upto_region 10 with (fail)
    generalize hw6:w5.alloc (.cells #[vi vk c0,vi vk c0,vi vk c1',vi vk c1',vi vk 0,vi vk 0] 33)=w6 at CB H6 O6 P6⊢;clear hw6 z0 z1 GB H5 O5 P5;generalize w5.heap.size=gc at CB hz5 hgp⊢;have k0:w6.cell? ⟨gc,0,none⟩=some (vi vk c0):=CB.out.cell 0;have k1:w6.cell? ⟨gc,1,none⟩=some (vi vk c0):=CB.out.cell 1;have k2:w6.cell? ⟨gc,2,none⟩=some (vi vk c1'):=CB.out.cell 2;have k3:w6.cell? ⟨gc,3,none⟩=some (vi vk c1'):=CB.out.cell 3;have k4:w6.cell? ⟨gc,4,none⟩=some (vi vk 0):=CB.out.cell 4;have k5:w6.cell? ⟨gc,5,none⟩=some (vi vk 0):=CB.out.cell 5;have x0:w6.cell? ⟨w.heap.size,0,none⟩=some (vi vk a):=P6.out.cell 0;have x1:w6.cell? ⟨w.heap.size,1,none⟩=some (vi vk b):=P6.out.cell 1;have KT:=hid (tangent_flat a b c0 c1' w6 HVX.out HVP.out);have hz6:=H6.out.size;go_wp2_with fail;(with_reducible refine(KT.out).mono ?_)
    rintro e w7 ⟨⟨q0,q1,j0,j1,rfl,hfc⟩,hb7⟩
    have hb7a:=hb7.alloc hb7.size (.cells #[vi vk a,vi vk b,vi vk q0,vi vk q1,vi vk j0,vi vk j1] 35);have LB:=hid (Blk.new w7 35 #[vi vk a,vi vk b,vi vk q0,vi vk q1,vi vk j0,vi vk j1]);have H8:=hid (H6.out.trans (hb7a.mono hz6));have O8:=hid ((own_bl O6.out hb7 (Nat.le_refl _)).alloc (.cells #[vi vk a,vi vk b,vi vk q0,vi vk q1,vi vk j0,vi vk j1] 35));have P8:=hid (P6.out.below hb7a P6.out.lt);have C8:=hid (CB.out.below hb7a CB.out.lt);have hbd:=hfc.bd;have hok:=hfc.ok HVX.out hw0;obtain⟨r0,hmx⟩: ∃r0,max 0 (j0-wide)=r0:=⟨_,rfl⟩;obtain⟨r1,hmn⟩: ∃r1,min 10800000 (j1+wide)=r1:=⟨_,rfl⟩;rw[show fcC c0 c1' j0 j1 wide=((c0,c0,c1',c1'),r0,r1) by unfold fcC;rw[hmx,hmn]] at hok;have HOK:=hid hok;clear k0 k1 k2 k3 k4 k5 x0 x1 hb7 hb7a CB H6 O6 P6 KT hfc hok;go_upto_region 11 with (fail)
    generalize hw8:w7.alloc (.cells #[vi vk a,vi vk b,vi vk q0,vi vk q1,vi vk j0,vi vk j1] 35)=w8 at LB H8 O8 P8 C8⊢;clear hw8;generalize w7.heap.size=gl at LB⊢;have m0:w8.cell? ⟨gl,4,none⟩=some (vi vk j0):=LB.out.cell 4;have m1:w8.cell? ⟨gl,5,none⟩=some (vi vk j1):=LB.out.cell 5;have f4:=C8.out.frozen 4;have f5:=C8.out.frozen 5;have k4:w8.cell? ⟨gc,4,none⟩=some (vi vk 0):=C8.out.cell 4;have k5:w8.cell? ⟨gc,5,none⟩=some (vi vk 0):=C8.out.cell 5;have v0:wrap64 (j0-wide)=j0-wide:=IntWalk.wrap64_in _ om_;have v1:wrap64 (j1+wide)=j1+wide:=IntWalk.wrap64_in _ om_;have hC9:=(C8.out.set_ 4 (vi vk r0)).set_ 5 (vi vk r1);simp only[List.setIfInBounds_toArray,List.set_cons_zero,List.set_cons_succ] at hC9;have C9:=hid hC9;have H9:=hid ((H8.out.setCell (p:=⟨gc,4,none⟩) (show w4.heap.size≤gc by omega) (vi vk r0)).setCell (p:=⟨gc,5,none⟩) (show w4.heap.size≤gc by omega) (vi vk r1));have hq9: ∀q,(Value.slice A5 Mc.length c5).ownBlock=some q→q≠gc:=fun q hq=>by have:=HOL.out q hq;omega
    have O9:=hid (own_far (i:=5) (u:=vi vk r1) (own_far (i:=4) (u:=vi vk r0) O8.out hq9) hq9);have P9:=hid ((P8.out.far (p:=⟨gc,4,none⟩) (show w.heap.size≠gc by omega) (vi vk r0)).far (p:=⟨gc,5,none⟩) (show w.heap.size≠gc by omega) (vi vk r1));clear hC9 hq9 HOL;go_upto_region 14 with (fail)
    generalize ((w8.setCell ⟨gc,4,none⟩ (vi vk r0)).setCell ⟨gc,5,none⟩ (vi vk r1))=w9 at C9 H9 O9 P9⊢;clear m0 m1 f4 f5 k4 k5 v0 v1 LB H8 O8 P8 C8 hmx hmn hbd;have k0:w9.cell? ⟨gc,0,none⟩=some (vi vk c0):=C9.out.cell 0;have k1:w9.cell? ⟨gc,1,none⟩=some (vi vk c0):=C9.out.cell 1;have k2:w9.cell? ⟨gc,2,none⟩=some (vi vk c1'):=C9.out.cell 2;have k3:w9.cell? ⟨gc,3,none⟩=some (vi vk c1'):=C9.out.cell 3;have k4:w9.cell? ⟨gc,4,none⟩=some (vi vk r0):=C9.out.cell 4;have k5:w9.cell? ⟨gc,5,none⟩=some (vi vk r1):=C9.out.cell 5;have hz9:=H9.out.size;go_wp2_with (at_builtin;(refine wpList_append_any _ rfl (.tmp 87) (.tmp 89) _ rfl w4.heap.size 33 i0 _ 6 48 underlying29 hi0 hz0 hz1 hzb rfl dc_ (.slice A5 Mc.length c5) Mc.length (civs Mc) rfl (O9.out.alloc _) (w9.heap.size+1) (some ⟨w9.heap.size,0,none⟩) 1 1 (civs [((c0,c0,c1',c1'),r0,r1)]) rfl (by simpa using circ_reads (x:=((c0,c0,c1',c1'),r0,r1)) (Blk.new w9 33 #[vi vk c0,vi vk c0,vi vk c1',vi vk c1',vi vk r0,vi vk r1])) (civs_one _) (by simp only[maxLen];omega) om_ (by simp;omega) ?_);intro v3 w3 hown3 hg3 hat3);go_roundg (n-(k+1))
    case measure=>omega
    case rel=>
     rw[←civs_append] at hown3;refine⟨k+1,Mc++[((c0,c0,c1',c1'),r0,r1)],om_,om_,by go_num,by have:=HMK.out;simp;omega,fun x hx=>?_,by simpa using hown3,(H9.out.alloc hz9 _).grown hg3 (by simp;omega) (own_base O9.out)⟩;rcases List.mem_append.1 hx with h|h
     · exact HM.out x h
     · simp at h;subst h;exact HOK.out
  · obtain rfl:k=n:=by omega
    have hK: ∀x∈Mc,VCi x:=fun x hx=>(HM.out x hx).1;have HK:=hid hK;have KP3:=hid KPO.out;have RM:=hid hown5;have x0:wr.cell? ⟨w.heap.size,0,none⟩=some (vi vk a):=PR.out.cell 0;have x1:wr.cell? ⟨w.heap.size,1,none⟩=some (vi vk b):=PR.out.cell 1;clear hK RG HG OW HBR KPO;go_wp2_with fail;(with_reducible refine(KP3.out _).mono ?_)
    rintro e w5 ⟨rfl,hb5⟩
    have hb5a:=hb5.alloc hb5.size (.cells #[vi vk a,vi vk a,vi vk b,vi vk b] 40);have D6:=hid (Blk.new w5 40 #[vi vk a,vi vk a,vi vk b,vi vk b]);have P6:=hid (PR.out.below hb5a PR.out.lt);have R6:=hid ((RM.out.below hb5a).more hb5a.size);have B6:=hid (BR.out.trans (hb5a.mono BR.out.size));clear hb5 hb5a KP3 x0 x1 PR BR RM;go_upto_region 17 with (fail)
    generalize hw6:w5.alloc (.cells #[vi vk a,vi vk a,vi vk b,vi vk b] 40)=w6 at D6 P6 R6 B6⊢;clear hw6;generalize w5.heap.size=gd at D6⊢;have d0:w6.cell? ⟨gd,0,none⟩=some (vi vk a):=D6.out.cell 0;have d1:w6.cell? ⟨gd,1,none⟩=some (vi vk a):=D6.out.cell 1;have d2:w6.cell? ⟨gd,2,none⟩=some (vi vk b):=D6.out.cell 2;have d3:w6.cell? ⟨gd,3,none⟩=some (vi vk b):=D6.out.cell 3;go_wp2_with fail;(with_reducible refine(KPV.out _).mono ?_)
    rintro e w7 ⟨rfl,hb7⟩
    have D7:=hid (D6.out.below hb7 D6.out.lt);have P7:=hid (P6.out.below hb7 P6.out.lt);have R7:=hid ((R6.out.below hb7).more hb7.size);have B7:=hid (B6.out.trans (hb7.mono B6.out.size));have hM40:Mc.length≤40:=Nat.le_trans hMk1 (Nat.le_trans c1 dc_);have h16:lev≤16:=by omega
    have KRf:=hid (fun(m:Nat) (W:World) (h:Below w7.heap.size w7 W) (hm:m≤Mc.length)=>rFixOf_any (Mc.take m) A5 m c5 a a b b lev 150 W (fun x hx=>HK.out x (List.mem_of_mem_take hx)) (Nat.le_trans hm hM40) (((readsC_take R7.out hm).below h).more h.size) (vp_pt2 HVP.out) b0.1 h16 dc_ dc_);clear hb7 KPV d0 d1 d2 d3 D6 P6 R6 B6;go_wp2;go_loopg [110] (Mc.length+1) (fun gz s110 wq=> ∃(k:Nat),k≤Mc.length+1∧Mc.length+1-k≤gz∧s110=vi vk k∧(∀m,m<k→prN (agP (Mc.take m)) (suP (Mc.take m)) lev (stF (a,a,b,b) lev)≤150)∧Below w7.heap.size w7 wq)
    case atStart=>exact⟨0,Nat.zero_le _,om_,rfl,fun m hm=>absurd hm (Nat.not_lt_zero _),Below.refl _ _⟩
    case round=>
     rename World=>wq
     obtain⟨k,hk,hg,rfl,hcn,hbq⟩:=hrel;have HCN:=hid hcn;have HBQ:=hid hbq;have BQ:=hid (B7.out.trans (hbq.mono B7.out.size));have DB:=hid (D7.out.below hbq D7.out.lt);have PQ:=hid (P7.out.below hbq P7.out.lt);have RQ:=hid ((R7.out.below hbq).more hbq.size);clear hcn hbq;by_cases hlt:k<Mc.length+1
     · have dk:decide ((k:Int)<(Mc.length:Int)+1)=true:=decide_eq_true om_
       have hkM:k≤Mc.length:=by omega
       have KF:=hid (fun(W:World) (h:Below wq.heap.size wq W)=>KRf.out k W (HBQ.out.trans (h.mono HBQ.out.size)) hkM);go_upto_region 23 with (fail)
       refine wp_region_inv3 (by kernel_rfl) (FcI23 (prN (agP (Mc.take k)) (suP (Mc.take k)) lev (stF (a,a,b,b) lev)) wq (.slice A5 Mc.length c5) (vi vk (k:Int)) (.slice A5 k c5) (.agg #[vi vk a,vi vk a,vi vk b,vi vk b]) (vi vk lev)) (waits_bind (by kernel_rfl)) ?start ?step ?fin
       case start=>exact FcI23.start _
       case step=>
        rintro M i o a1' w' ho hL haf ⟨v114,v115,v116,v117,v118,v119,v113,v120,v121,v19,v20,u9,n9,rfl,hT,e5,e6,e7,e8,e9,e10,e0,e1,e2,e3,e4⟩
        have HT:=hid hT;have E5:=hid e5;have E6:=hid e6;have E7:=hid e7;have E8:=hid e8;have E9:=hid e9;have E10:=hid e10;have E0:=hid e0;have E1:=hid e1;have E2:=hid e2;have E3:=hid e3;have E4:=hid e4;clear hT e5 e6 e7 e8 e9 e10 e0 e1 e2 e3 e4;rcases i with _|_|_|_|_|_|_|_|_|_|_|i
        all_goals (simp at ho;try subst ho)
        all_goals (try simp[Region.binds] at haf)
        · go_wp2
          unfold FcI23;exact⟨(.slice A5 Mc.length c5),v115,v116,v117,v118,v119,v113,v120,v121,v19,v20,u9,n9,puEf,HT.out,kq E5,kr_ E6,kr_ E7,kr_ E8,kr_ E9,kr_ E10,rf_,kq E1,kq E2,kq E3,kq E4⟩
        · go_wp2
          unfold FcI23;exact⟨v114,(vi vk (k:Int)),v116,v117,v118,v119,v113,v120,v121,v19,v20,u9,n9,puEf,HT.out,kq E5,kr_ E6,kr_ E7,kr_ E8,kr_ E9,kr_ E10,kq E0,rf_,kq E2,kq E3,kq E4⟩
        · obtain rfl:=(E0.out (by simp[haf])).symm
          obtain rfl:=(E1.out (by simp[haf])).symm;go_wp2;unfold FcI23;exact⟨(.slice A5 Mc.length c5),(vi vk (k:Int)),(.slice A5 k c5),v117,v118,v119,v113,v120,v121,v19,v20,u9,n9,puEf,HT.out,kq E5,kr_ E6,kr_ E7,kr_ E8,kr_ E9,kr_ E10,rf_,rf_,rf_,kq E3,kq E4⟩
        · have hq:=DB.out.below HT.out DB.out.lt
          have k0:=hq.cell 0;have k1:=hq.cell 1;have k2:=hq.cell 2;have k3:=hq.cell 3;simp only[List.getElem?_toArray,List.getElem?_cons_zero,List.getElem?_cons_succ] at k0 k1 k2 k3;clear hq;go_wp2;unfold FcI23;exact⟨v114,v115,v116,(.agg #[vi vk a,vi vk a,vi vk b,vi vk b]),v118,v119,v113,v120,v121,v19,v20,u9,n9,puEf,HT.out,kq E5,kr_ E6,kr_ E7,kr_ E8,kr_ E9,kr_ E10,kq E0,kq E1,kq E2,rf_,kq E4⟩
        · go_wp2
          unfold FcI23;exact⟨v114,v115,v116,v117,(vi vk lev),v119,v113,v120,v121,v19,v20,u9,n9,puEf,HT.out,kq E5,kr_ E6,kr_ E7,kr_ E8,kr_ E9,kr_ E10,kq E0,kq E1,kq E2,kq E3,rf_⟩
        · obtain rfl:=(E2.out (by simp[haf])).symm
          obtain rfl:=(E3.out (by simp[haf])).symm;obtain rfl:=(E4.out (by simp[haf])).symm;go_wp2_with fail;(with_reducible refine(KF.out _ HT.out).mono ?_)
          rintro e w9 ⟨v9,m9,rfl,hb9,hm9⟩
          have HM9:=hid hm9;clear hm9;go_wp2;unfold FcI23;exact⟨v114,v115,(.slice A5 k c5),(.agg #[vi vk a,vi vk a,vi vk b,vi vk b]),(vi vk lev),(.tuple #[v9,vi vk m9]),v113,v120,v121,v19,v20,v9,m9,puEf,HT.out.trans ((hb9).mono HT.out.size),fun _=>⟨rfl,HM9.out⟩,fun h=>(by have q:=(E6.out (by simpa [mkd] using h)).1;rw[hL] at q;cases q),fun h=>(by have q:=(E7.out (by simpa [mkd] using h)).1;rw[hL] at q;cases q),fun h=>(by have q:=(E8.out (by simpa [mkd] using h)).1;rw[hL] at q;cases q),fun h=>(by have q:=(E9.out (by simpa [mkd] using h)).1;rw[hL] at q;cases q),fun h=>(by have q:=(E10.out (by simpa [mkd] using h)).1;rw[hL] at q;cases q),kq E0,kq E1,rf_,rf_,rf_⟩
        · obtain⟨rfl,hpost⟩:=E5.out (by simp[haf])
          clear hpost;have hE:M 5=true:=by have q:M 5=true:=(by simp[haf]);first|exact q|exact(E5.out q).1
          go_wp2;unfold FcI23;exact⟨v114,v115,v116,v117,v118,(.tuple #[u9,vi vk n9]),(.tuple #[u9,vi vk n9]),v120,v121,v19,v20,u9,n9,puEf,HT.out,fun h=>(by have q:=E5.out (by simpa [mkd] using h);exact⟨rfl,q.2⟩),fun _=>⟨by simpa [mkd] using hE,rfl⟩,kr_ E7,kr_ E8,kr_ E9,kr_ E10,kq E0,kq E1,kq E2,kq E3,kq E4⟩
        · obtain rfl:=(E6.out (by simp[haf])).2.symm
          have hE:M 5=true:=by have q:M 6=true:=(by simp[haf]);first|exact q|exact(E6.out q).1
          go_wp2;unfold FcI23;exact⟨v114,v115,v116,v117,v118,v119,(.tuple #[u9,vi vk n9]),(u9),v121,v19,v20,u9,n9,puEf,HT.out,kq E5,fun h=>(by have q:=E6.out (by simpa [mkd] using h);exact⟨by simpa [mkd] using q.1,rfl⟩),fun _=>⟨by simpa [mkd] using hE,rfl⟩,kr_ E8,kr_ E9,kr_ E10,kq E0,kq E1,kq E2,kq E3,kq E4⟩
        · obtain rfl:=(E6.out (by simp[haf])).2.symm
          have hE:M 5=true:=by have q:M 6=true:=(by simp[haf]);first|exact q|exact(E6.out q).1
          go_wp2;unfold FcI23;exact⟨v114,v115,v116,v117,v118,v119,(.tuple #[u9,vi vk n9]),v120,(vi vk n9),v19,v20,u9,n9,puEf,HT.out,kq E5,fun h=>(by have q:=E6.out (by simpa [mkd] using h);exact⟨by simpa [mkd] using q.1,rfl⟩),kr_ E7,fun _=>⟨by simpa [mkd] using hE,rfl⟩,kr_ E9,kr_ E10,kq E0,kq E1,kq E2,kq E3,kq E4⟩
        · obtain rfl:=(E7.out (by simp[haf])).2.symm
          have hE:M 5=true:=by have q:M 7=true:=(by simp[haf]);first|exact q|exact(E7.out q).1
          go_wp2;unfold FcI23;exact⟨v114,v115,v116,v117,v118,v119,v113,(u9),v121,(u9),v20,u9,n9,puEf,HT.out,kq E5,kr_ E6,fun h=>(by have q:=E7.out (by simpa [mkd] using h);exact⟨by simpa [mkd] using q.1,rfl⟩),kr_ E8,fun _=>⟨by simpa [mkd] using hE,rfl⟩,kr_ E10,kq E0,kq E1,kq E2,kq E3,kq E4⟩
        · obtain rfl:=(E8.out (by simp[haf])).2.symm
          have hE:M 5=true:=by have q:M 8=true:=(by simp[haf]);first|exact q|exact(E8.out q).1
          go_wp2;unfold FcI23;exact⟨v114,v115,v116,v117,v118,v119,v113,v120,(vi vk n9),v19,(vi vk n9),u9,n9,puEf,HT.out,kq E5,kr_ E6,kr_ E7,fun h=>(by have q:=E8.out (by simpa [mkd] using h);exact⟨by simpa [mkd] using q.1,rfl⟩),kr_ E9,fun _=>⟨by simpa [mkd] using hE,rfl⟩,kq E0,kq E1,kq E2,kq E3,kq E4⟩
       case fin=>
        rintro M a1' wf hall ⟨v114,v115,v116,v117,v118,v119,v113,v120,v121,v19,v20,u9,n9,rfl,hT,e5,e6,e7,e8,e9,e10,e0,e1,e2,e3,e4⟩
        obtain rfl:=(e0 (hall 0 dc_)).symm;obtain rfl:=(e1 (hall 1 dc_)).symm;obtain rfl:=(e2 (hall 2 dc_)).symm;obtain rfl:=(e3 (hall 3 dc_)).symm;obtain rfl:=(e4 (hall 4 dc_)).symm;obtain⟨rfl,hpost⟩:=e5 (hall 5 dc_);obtain rfl:=(e6 (hall 6 dc_)).2.symm;obtain rfl:=(e7 (hall 7 dc_)).2.symm;obtain rfl:=(e8 (hall 8 dc_)).2.symm;obtain rfl:=(e9 (hall 9 dc_)).2.symm;obtain rfl:=(e10 (hall 10 dc_)).2.symm;have HP9:=hid hpost;have H8:=hid (HBQ.out.trans (hT.mono HBQ.out.size));clear hpost hT DB PQ RQ BQ HBQ KF;by_cases h6:n9=6
        · subst h6
          have B8:=hid (B7.out.trans (H8.out.mono B7.out.size));go_wp2;go_ret;exact⟨rfl,B8.out⟩
        · have hb6:(n9==6)=false:=by simpa using h6
          have hc9:=HP9.out h6;have HC9:=hid (show prN (agP (Mc.take k)) (suP (Mc.take k)) lev (stF (a,a,b,b) lev)≤150 by omega);clear hc9 HP9;go_wp2;go_roundg (Mc.length+1-(k+1))
          case measure=>omega
          case rel=>
           refine⟨k+1,om_,om_,by go_num,fun m hm=>?_,H8.out⟩;rcases Nat.lt_or_ge m k with h|h
           · exact HCN.out m h
           · obtain rfl:m=k:=by omega
             exact HC9.out
     · have dk:decide ((k:Int)<(Mc.length:Int)+1)=false:=decide_eq_false om_
       have hge: ∀m,m≤Mc.length→m<k:=fun m hm=>by omega
       have KFx:Hid (∀(m:Nat) (W:World),Below wq.heap.size wq W→m≤Mc.length→Calls Tryz.prog 12 #[.slice A5 m c5,.agg #[vi vk a,vi vk a,vi vk b,vi vk b],vi vk lev] W (FxR (fxF (Mc.take m) (a,a,b,b) lev) W)):=hid (fun(m:Nat) (W:World) (h:Below wq.heap.size wq W) (hm:m≤Mc.length)=>fixOf_yes (Mc.take m) A5 m c5 a a b b lev W (fun x hx=>HK.out x (List.mem_of_mem_take hx)) (Nat.le_trans hm hM40) (((readsC_take RQ.out hm).below h).more h.size) (vp_pt2 HVP.out) b0.1 h16 (Nat.le_trans (HCN.out m (hge m hm)) dc_) (con_ne (fx_con (K:=Mc.take m) (fun x hx=>HM.out x (List.mem_of_mem_take hx)) b0.1 h16 HVP.out)));have HFC:=hid (fun(m:Nat)=>fx_con (K:=Mc.take m) (fun x hx=>HM.out x (List.mem_of_mem_take hx)) b0.1 h16 HVP.out);have HFV:=hid (fun(m:Nat) (hm:m≤Mc.length)=>fx_vr (K:=Mc.take m) (p:=(a,a,b,b)) b0.1 h16 (Nat.le_trans (HCN.out m (hge m hm)) dc_));clear KRf HCN HM HK HBQ R7 P7 D7 B7 RQ;go_wp2;go_loopg [21,128] (Mc.length+1) (fun gz s21 s128 ws=> ∃(k:Nat) (L:List Cl),k≤Mc.length+1∧Mc.length+1-k≤gz∧s128=vi vk k∧(0<k→L=fxF (Mc.take (k-1)) (a,a,b,b) lev)∧ws.ownsRow wq.heap.size 55 3 s21 L.length (cvs L)∧Below wq.heap.size wq ws)
       case atStart=>exact⟨0,[],Nat.zero_le _,om_,rfl,fun h=>absurd h (Nat.lt_irrefl _),own_nil _ _ _ _,Below.refl _ _⟩
       case round=>
        rename World=>ws
        obtain⟨k,L,hk,hg,rfl,hLk,hown,hbs⟩:=hrel;have HLK:=hid hLk;have HBS:=hid hbs;have BS:=hid (BQ.out.trans (hbs.mono BQ.out.size));have DB2:=hid (DB.out.below hbs DB.out.lt);have PS:=hid (PQ.out.below hbs PQ.out.lt);have OS:=hid hown;have hsz:=hbs.size;clear hLk hown hbs;by_cases hlt:k<Mc.length+1
        · have dk:decide ((k:Int)<(Mc.length:Int)+1)=true:=decide_eq_true om_
          have hkM:k≤Mc.length:=by omega
          have hcon:=HFC.out k;obtain⟨hvr,hrl⟩:=HFV.out k hkM;have hins:0<k→insL (fxF (Mc.take k) (a,a,b,b) lev) L=true∧vrB L=true∧L.length≤4000:=fun h=>by
           have h1:=HLK.out h;have h2:=fx_less Mc (k-1) (a,a,b,b) b0.1 (show lev≤16 by omega);rw[show k-1+1=k by omega,←h1] at h2;have h3:=HFV.out (k-1) om_;rw[←h1] at h3;exact⟨h2,h3⟩
          have KF:=fun(W:World) (h:Below ws.heap.size ws W)=>KFx.out k W (HBS.out.trans (h.mono HBS.out.size)) hkM;obtain⟨R,hR⟩: ∃R,fxF (Mc.take k) (a,a,b,b) lev=R:=⟨_,rfl⟩;rw[hR] at hcon hvr hrl hins KF;have hne:=con_ne hcon;have hal:=((vrB_iff R).1 hvr).2.1;have hbv:=bnd_vp hal hne;have hbi:=bnd_in hal hcon;unfold FxR at KF;obtain⟨⟨be0,be1,be2,be3⟩,hbe⟩: ∃x,bndV R=x:=⟨_,rfl⟩;rw[hbe] at KF hbv hbi;simp only[] at KF hbv hbi;have KF:=hid KF;have KC:=hid (fun(W:World) (Al:Option Addr) (cl:Nat) (hr:Reads W W.heap.size 3 Al R.length (cvs R))=>(hcon▸Contains_any Al R.length cl R a b W hr (by simp only[maxLen];omega) hvr HVP.out:Calls Tryz.prog 13 #[.slice Al R.length cl,.agg #[vi vk a,vi vk b]] W fun e w'=>e=.returned (.tuple #[.bool true,vi vk 0])∧Below W.heap.size W w'));have KB:=fun W=>placeContains_vp be0 be1 be2 be3 a b W hbv HVP.out;rw[hbi] at KB;have KB:=hid KB;have HI:=hid hins;have HR:=hid hR;have HV:=hid hvr;clear hcon hne hal hbv hbi hbe hins hR KFx HFC HFV HLK;go_upto_region 31 with (fail)
          refine wp_region_inv3 (by kernel_rfl) (FcI31 (R) (be0) (be1) (be2) (be3) ws (.slice A5 Mc.length c5) (vi vk (k:Int)) (.slice A5 k c5) (.agg #[vi vk a,vi vk a,vi vk b,vi vk b]) (vi vk lev)) (waits_bind (by kernel_rfl)) ?start ?step ?fin
          case start=>exact FcI31.start _
          case step=>
           rintro M i o a1' w' ho hL haf ⟨v132,v133,v134,v135,v136,v137,v131,v138,v139,v140,v24,v23,v25,u9,rfl,hT,eA,eS,e5,e6,e7,e8,e9,e11,e13,e0,e1,e2,e3,e4⟩
           have HT:=hid hT;have EA:=hid eA;have ES:=hid eS;have E5:=hid e5;have E6:=hid e6;have E7:=hid e7;have E8:=hid e8;have E9:=hid e9;have E11:=hid e11;have E13:=hid e13;have E0:=hid e0;have E1:=hid e1;have E2:=hid e2;have E3:=hid e3;have E4:=hid e4;clear hT eA eS e5 e6 e7 e8 e9 e11 e13 e0 e1 e2 e3 e4;rcases i with _|_|_|_|_|_|_|_|_|_|_|_|_|_|i
           all_goals (simp at ho;try subst ho)
           all_goals (try simp[Region.binds] at haf)
           · go_wp2
             unfold FcI31;exact⟨(.slice A5 Mc.length c5),v133,v134,v135,v136,v137,v131,v138,v139,v140,v24,v23,v25,u9,puEf,HT.out,fun h=>(by obtain⟨g9,q1,q2,q3,q4⟩:=EA.out (by simpa [mkd] using h);exact⟨g9,q1,q2,fun h'=>q3 (by simpa [mkd] using h'),fun h'=>q4 (by simpa [mkd] using h')⟩),ks_ ES,kq E5,kr_ E6,kr_ E7,kr_ E8,kr_ E9,kr_ E11,kr_ E13,rf_,kq E1,kq E2,kq E3,kq E4⟩
           · go_wp2
             unfold FcI31;exact⟨v132,(vi vk (k:Int)),v134,v135,v136,v137,v131,v138,v139,v140,v24,v23,v25,u9,puEf,HT.out,fun h=>(by obtain⟨g9,q1,q2,q3,q4⟩:=EA.out (by simpa [mkd] using h);exact⟨g9,q1,q2,fun h'=>q3 (by simpa [mkd] using h'),fun h'=>q4 (by simpa [mkd] using h')⟩),ks_ ES,kq E5,kr_ E6,kr_ E7,kr_ E8,kr_ E9,kr_ E11,kr_ E13,kq E0,rf_,kq E2,kq E3,kq E4⟩
           · obtain rfl:=(E0.out (by simp[haf])).symm
             obtain rfl:=(E1.out (by simp[haf])).symm;go_wp2;unfold FcI31;exact⟨(.slice A5 Mc.length c5),(vi vk (k:Int)),(.slice A5 k c5),v135,v136,v137,v131,v138,v139,v140,v24,v23,v25,u9,puEf,HT.out,fun h=>(by obtain⟨g9,q1,q2,q3,q4⟩:=EA.out (by simpa [mkd] using h);exact⟨g9,q1,q2,fun h'=>q3 (by simpa [mkd] using h'),fun h'=>q4 (by simpa [mkd] using h')⟩),ks_ ES,kq E5,kr_ E6,kr_ E7,kr_ E8,kr_ E9,kr_ E11,kr_ E13,rf_,rf_,rf_,kq E3,kq E4⟩
           · have hq:=DB2.out.below HT.out DB2.out.lt
             have k0:=hq.cell 0;have k1:=hq.cell 1;have k2:=hq.cell 2;have k3:=hq.cell 3;simp only[List.getElem?_toArray,List.getElem?_cons_zero,List.getElem?_cons_succ] at k0 k1 k2 k3;clear hq;go_wp2;unfold FcI31;exact⟨v132,v133,v134,(.agg #[vi vk a,vi vk a,vi vk b,vi vk b]),v136,v137,v131,v138,v139,v140,v24,v23,v25,u9,puEf,HT.out,fun h=>(by obtain⟨g9,q1,q2,q3,q4⟩:=EA.out (by simpa [mkd] using h);exact⟨g9,q1,q2,fun h'=>q3 (by simpa [mkd] using h'),fun h'=>q4 (by simpa [mkd] using h')⟩),ks_ ES,kq E5,kr_ E6,kr_ E7,kr_ E8,kr_ E9,kr_ E11,kr_ E13,kq E0,kq E1,kq E2,rf_,kq E4⟩
           · go_wp2
             unfold FcI31;exact⟨v132,v133,v134,v135,(vi vk lev),v137,v131,v138,v139,v140,v24,v23,v25,u9,puEf,HT.out,fun h=>(by obtain⟨g9,q1,q2,q3,q4⟩:=EA.out (by simpa [mkd] using h);exact⟨g9,q1,q2,fun h'=>q3 (by simpa [mkd] using h'),fun h'=>q4 (by simpa [mkd] using h')⟩),ks_ ES,kq E5,kr_ E6,kr_ E7,kr_ E8,kr_ E9,kr_ E11,kr_ E13,kq E0,kq E1,kq E2,kq E3,rf_⟩
           · obtain rfl:=(E2.out (by simp[haf])).symm
             obtain rfl:=(E3.out (by simp[haf])).symm;obtain rfl:=(E4.out (by simp[haf])).symm;go_wp2_with fail;(with_reducible refine(KF.out _ HT.out).mono ?_)
             rintro e w9 ⟨v9,rfl,ho9,hb9⟩
             have HO9:=hid ho9;clear ho9;go_wp2;unfold FcI31;exact⟨v132,v133,(.slice A5 k c5),(.agg #[vi vk a,vi vk a,vi vk b,vi vk b]),(vi vk lev),(.tuple #[v9,.agg #[vi vk be0,vi vk be1,vi vk be2,vi vk be3],vi vk 0]),v131,v138,v139,v140,v24,v23,v25,v9,puEf,HT.out.trans ((hb9).mono HT.out.size),fun h=>(by obtain⟨g9,q1,q2,q3,q4⟩:=EA.out (by simpa [mkd] using h);exact⟨g9,q1,q2,fun h'=>(q3 (by simpa [mkd] using h')).below (hb9) (q3 (by simpa [mkd] using h')).lt,fun h'=>(q4 (by simpa [mkd] using h')).below (hb9) (q4 (by simpa [mkd] using h')).lt⟩),ks_ ES,fun _=>⟨rfl,own_mono HO9.out HT.out.size⟩,fun h=>(by have q:=(E6.out (by simpa [mkd] using h)).1;rw[hL] at q;cases q),fun h=>(by have q:=(E7.out (by simpa [mkd] using h)).1;rw[hL] at q;cases q),fun h=>(by have q:=(E8.out (by simpa [mkd] using h)).1;rw[hL] at q;cases q),fun h=>(by have q:=(E9.out (by simpa [mkd] using h)).1;rw[hL] at q;cases q),fun h=>(by have q:=(E11.out (by simpa [mkd] using h)).1;rw[hL] at q;cases q),fun h=>(by have q:=(E13.out (by simpa [mkd] using h)).1;rw[hL] at q;cases q),kq E0,kq E1,rf_,rf_,rf_⟩
           · obtain⟨rfl,hpost⟩:=E5.out (by simp[haf])
             clear hpost;have hE:M 5=true:=by have q:M 5=true:=(by simp[haf]);first|exact q|exact(E5.out q).1
             go_wp2;unfold FcI31;exact⟨v132,v133,v134,v135,v136,(.tuple #[u9,.agg #[vi vk be0,vi vk be1,vi vk be2,vi vk be3],vi vk 0]),(.tuple #[u9,.agg #[vi vk be0,vi vk be1,vi vk be2,vi vk be3],vi vk 0]),v138,v139,v140,v24,v23,v25,u9,puEf,HT.out,fun h=>(by obtain⟨g9,q1,q2,q3,q4⟩:=EA.out (by simpa [mkd] using h);exact⟨g9,q1,q2,fun h'=>q3 (by simpa [mkd] using h'),fun h'=>q4 (by simpa [mkd] using h')⟩),ks_ ES,fun h=>(by have q:=E5.out (by simpa [mkd] using h);exact⟨rfl,q.2⟩),fun _=>⟨by simpa [mkd] using hE,rfl⟩,kr_ E7,kr_ E8,kr_ E9,kr_ E11,kr_ E13,kq E0,kq E1,kq E2,kq E3,kq E4⟩
           · obtain rfl:=(E6.out (by simp[haf])).2.symm
             have hE:M 5=true:=by have q:M 6=true:=(by simp[haf]);first|exact q|exact(E6.out q).1
             go_wp2;unfold FcI31;exact⟨v132,v133,v134,v135,v136,v137,(.tuple #[u9,.agg #[vi vk be0,vi vk be1,vi vk be2,vi vk be3],vi vk 0]),(u9),v139,v140,v24,v23,v25,u9,puEf,HT.out,fun h=>(by obtain⟨g9,q1,q2,q3,q4⟩:=EA.out (by simpa [mkd] using h);exact⟨g9,q1,q2,fun h'=>q3 (by simpa [mkd] using h'),fun h'=>q4 (by simpa [mkd] using h')⟩),ks_ ES,kq E5,fun h=>(by have q:=E6.out (by simpa [mkd] using h);exact⟨by simpa [mkd] using q.1,rfl⟩),fun _=>⟨by simpa [mkd] using hE,rfl⟩,kr_ E8,kr_ E9,kr_ E11,kr_ E13,kq E0,kq E1,kq E2,kq E3,kq E4⟩
           · obtain rfl:=(E6.out (by simp[haf])).2.symm
             have hE:M 5=true:=by have q:M 6=true:=(by simp[haf]);first|exact q|exact(E6.out q).1
             go_wp2;unfold FcI31;exact⟨v132,v133,v134,v135,v136,v137,(.tuple #[u9,.agg #[vi vk be0,vi vk be1,vi vk be2,vi vk be3],vi vk 0]),v138,(.agg #[vi vk be0,vi vk be1,vi vk be2,vi vk be3]),v140,v24,v23,v25,u9,puEf,HT.out,fun h=>(by obtain⟨g9,q1,q2,q3,q4⟩:=EA.out (by simpa [mkd] using h);exact⟨g9,q1,q2,fun h'=>q3 (by simpa [mkd] using h'),fun h'=>q4 (by simpa [mkd] using h')⟩),ks_ ES,kq E5,fun h=>(by have q:=E6.out (by simpa [mkd] using h);exact⟨by simpa [mkd] using q.1,rfl⟩),kr_ E7,fun _=>⟨by simpa [mkd] using hE,rfl⟩,kr_ E9,kr_ E11,kr_ E13,kq E0,kq E1,kq E2,kq E3,kq E4⟩
           · obtain rfl:=(E6.out (by simp[haf])).2.symm
             have hE:M 5=true:=by have q:M 6=true:=(by simp[haf]);first|exact q|exact(E6.out q).1
             go_wp2;unfold FcI31;exact⟨v132,v133,v134,v135,v136,v137,(.tuple #[u9,.agg #[vi vk be0,vi vk be1,vi vk be2,vi vk be3],vi vk 0]),v138,v139,(vi vk 0),v24,v23,v25,u9,puEf,HT.out,fun h=>(by obtain⟨g9,q1,q2,q3,q4⟩:=EA.out (by simpa [mkd] using h);exact⟨g9,q1,q2,fun h'=>q3 (by simpa [mkd] using h'),fun h'=>q4 (by simpa [mkd] using h')⟩),ks_ ES,kq E5,fun h=>(by have q:=E6.out (by simpa [mkd] using h);exact⟨by simpa [mkd] using q.1,rfl⟩),kr_ E7,kr_ E8,fun _=>⟨by simpa [mkd] using hE,rfl⟩,kr_ E11,kr_ E13,kq E0,kq E1,kq E2,kq E3,kq E4⟩
           · have NB:=hid (Blk.new w' 40 #[vi vk 0,vi vk 0,vi vk 0,vi vk 0])
             have HB9:=hid (bl_alloc w' (.cells #[vi vk 0,vi vk 0,vi vk 0,vi vk 0] 40));go_wp2;unfold FcI31;exact⟨v132,v133,v134,v135,v136,v137,v131,v138,v139,v140,(.pointer (some ⟨w'.heap.size,0,none⟩)),v23,v25,u9,puEf,HT.out.trans ((HB9.out).mono HT.out.size),fun _=>⟨_,rfl,HT.out.size,fun _=>NB.out,fun h=>(by have q:M 12=true:=(by simpa [mkd] using h);have r:=ES.out q;rw[hL] at r;cases r)⟩,fun _=>mkd_same _ _,fun h=>(by have q:=E5.out (by simpa [mkd] using h);exact⟨q.1,own_bl (q.2) (HB9.out) (Nat.le_refl _)⟩),kr_ E6,kr_ E7,kr_ E8,kr_ E9,kr_ E11,kr_ E13,kq E0,kq E1,kq E2,kq E3,kq E4⟩
           · obtain rfl:=(E7.out (by simp[haf])).2.symm
             have hE:M 5=true:=by have q:M 7=true:=(by simp[haf]);first|exact q|exact(E7.out q).1
             go_wp2;unfold FcI31;exact⟨v132,v133,v134,v135,v136,v137,v131,(u9),v139,v140,v24,(u9),v25,u9,puEf,HT.out,fun h=>(by obtain⟨g9,q1,q2,q3,q4⟩:=EA.out (by simpa [mkd] using h);exact⟨g9,q1,q2,fun h'=>q3 (by simpa [mkd] using h'),fun h'=>q4 (by simpa [mkd] using h')⟩),ks_ ES,kq E5,kr_ E6,fun h=>(by have q:=E7.out (by simpa [mkd] using h);exact⟨by simpa [mkd] using q.1,rfl⟩),kr_ E8,kr_ E9,fun _=>⟨by simpa [mkd] using hE,rfl⟩,kr_ E13,kq E0,kq E1,kq E2,kq E3,kq E4⟩
           · obtain rfl:=(E8.out (by simp[haf])).2.symm
             obtain⟨g9,rfl,hg9,hb9,-⟩:=EA.out (by simp[haf]);have hB9:=hb9 hL;have hB8:=(((hB9.set_ 0 (vi vk be0)).set_ 1 (vi vk be1)).set_ 2 (vi vk be2)).set_ 3 (vi vk be3);simp only[List.setIfInBounds_toArray,List.set_cons_zero,List.set_cons_succ] at hB8;have HB8:=hid hB8;have HB7:=hid hB9;clear hB8;have k0:=hB9.cell 0;have f0:=hB9.frozen 0;have k1:=hB9.cell 1;have f1:=hB9.frozen 1;have k2:=hB9.cell 2;have f2:=hB9.frozen 2;have k3:=hB9.cell 3;have f3:=hB9.frozen 3;simp only[List.getElem?_toArray,List.getElem?_cons_zero,List.getElem?_cons_succ] at k0 k1 k2 k3;clear hB9 hb9;go_wp2;unfold FcI31;exact⟨v132,v133,v134,v135,v136,v137,v131,v138,(.agg #[vi vk be0,vi vk be1,vi vk be2,vi vk be3]),v140,(.pointer (some ⟨g9,0,none⟩)),v23,v25,u9,puEf,(((HT.out.setCell hg9 _).setCell hg9 _).setCell hg9 _).setCell hg9 _,fun _=>⟨g9,rfl,hg9,fun h=>(by simp[mkd] at h),fun _=>HB8.out⟩,fun _=>(by have r:M 10=true:=(by simp[haf]);simpa [mkd] using r),fun h=>(by have q:=E5.out (by simpa [mkd] using h);exact⟨q.1,own_put4 (q.2) HB7.out _ _ _ _⟩),kr_ E6,kr_ E7,fun h=>(by have q:=E8.out (by simpa [mkd] using h);exact⟨by simpa [mkd] using q.1,rfl⟩),kr_ E9,kr_ E11,kr_ E13,kq E0,kq E1,kq E2,kq E3,kq E4⟩
           · obtain rfl:=(E9.out (by simp[haf])).2.symm
             have hE:M 5=true:=by have q:M 9=true:=(by simp[haf]);first|exact q|exact(E9.out q).1
             go_wp2;unfold FcI31;exact⟨v132,v133,v134,v135,v136,v137,v131,v138,v139,(vi vk 0),v24,v23,(vi vk 0),u9,puEf,HT.out,fun h=>(by obtain⟨g9,q1,q2,q3,q4⟩:=EA.out (by simpa [mkd] using h);exact⟨g9,q1,q2,fun h'=>q3 (by simpa [mkd] using h'),fun h'=>q4 (by simpa [mkd] using h')⟩),ks_ ES,kq E5,kr_ E6,kr_ E7,kr_ E8,fun h=>(by have q:=E9.out (by simpa [mkd] using h);exact⟨by simpa [mkd] using q.1,rfl⟩),kr_ E11,fun _=>⟨by simpa [mkd] using hE,rfl⟩,kq E0,kq E1,kq E2,kq E3,kq E4⟩
          case fin=>
           rintro M a1' wf hall ⟨v132,v133,v134,v135,v136,v137,v131,v138,v139,v140,v24,v23,v25,u9,rfl,hT,eA,eS,e5,e6,e7,e8,e9,e11,e13,e0,e1,e2,e3,e4⟩
           obtain rfl:=(e0 (hall 0 dc_)).symm;obtain rfl:=(e1 (hall 1 dc_)).symm;obtain rfl:=(e2 (hall 2 dc_)).symm;obtain rfl:=(e3 (hall 3 dc_)).symm;obtain rfl:=(e4 (hall 4 dc_)).symm;obtain⟨rfl,hpost⟩:=e5 (hall 5 dc_);obtain rfl:=(e6 (hall 6 dc_)).2.symm;obtain rfl:=(e7 (hall 7 dc_)).2.symm;obtain rfl:=(e8 (hall 8 dc_)).2.symm;obtain rfl:=(e9 (hall 9 dc_)).2.symm;obtain rfl:=(e11 (hall 11 dc_)).2.symm;obtain rfl:=(e13 (hall 13 dc_)).2.symm;obtain⟨g9,rfl,hg9,-,hk9⟩:=eA (hall 10 dc_);have K9:=hid (hk9 (hall 12 dc_));clear hk9;have H8:=hid (HBS.out.trans (hT.mono HBS.out.size));have P8:=hid (PS.out.below hT PS.out.lt);have OS8:=hid (own_bl OS.out hT (Nat.le_refl _));obtain⟨Ar,cr,rfl,hrr,hnr,hmr⟩:=own_form hpost;have OR:=hid (own_mono hpost hsz);have KC2:=hid (KC.out wf Ar cr hrr);clear hpost hT hrr KC PS OS HBS DB2 BS KF;have x0:wf.cell? ⟨w.heap.size,0,none⟩=some (vi vk a):=P8.out.cell 0;have x1:wf.cell? ⟨w.heap.size,1,none⟩=some (vi vk b):=P8.out.cell 1;go_wp2_with fail;(with_reducible refine(KC2.out).mono ?_)
           rintro e wg ⟨rfl,hbg⟩
           have H9:=hid (H8.out.trans (hbg.mono H8.out.size));have P9:=hid (P8.out.below hbg P8.out.lt);have K10:=hid (K9.out.below hbg K9.out.lt);have OS9:=hid (own_bl OS8.out hbg (Nat.le_refl _));have OR9:=hid (own_bl OR.out hbg (Nat.le_refl _));clear hbg KC2 x0 x1 H8 P8 K9 OS8 OR;have x0:wg.cell? ⟨w.heap.size,0,none⟩=some (vi vk a):=P9.out.cell 0;have x1:wg.cell? ⟨w.heap.size,1,none⟩=some (vi vk b):=P9.out.cell 1;have q0:wg.cell? ⟨g9,0,none⟩=some (vi vk be0):=K10.out.cell 0;have q1:wg.cell? ⟨g9,1,none⟩=some (vi vk be1):=K10.out.cell 1;have q2:wg.cell? ⟨g9,2,none⟩=some (vi vk be2):=K10.out.cell 2;have q3:wg.cell? ⟨g9,3,none⟩=some (vi vk be3):=K10.out.cell 3;go_wp2_with fail;(with_reducible refine(KB.out _).mono ?_)
           rintro e wh ⟨rfl,hbh⟩
           have HA:=hid (H9.out.trans (hbh.mono H9.out.size));have OSA:=hid (own_bl OS9.out hbh (Nat.le_refl _));have ORA:=hid (own_bl OR9.out hbh (Nat.le_refl _));clear hbh KB x0 x1 q0 q1 q2 q3 H9 P9 K10 OS9 OR9;by_cases hk0:0<k
           · have dz:decide ((0:Int)<(k:Int))=true:=decide_eq_true om_
             have dz2:decide (0<k)=true:=decide_eq_true hk0;obtain⟨hi1,hi2,hi3⟩:=HI.out hk0;obtain⟨Al,cl',rfl,hrl2,hnl2,hml2⟩:=own_form OSA.out;obtain⟨Ar',cr',hare,hrr2,-,-⟩:=own_form ORA.out;cases hare
             have KI:=Inside_any Ar Al R.length L.length cr cl' R L wh hrr2 hrl2 (by simp only[maxLen];omega) (by simp only[maxLen];omega) HV.out hi2;rw[hi1] at KI;have KI:=hid KI;clear hi1 hi2 hrl2 hrr2 HI OSA;go_wp2_with fail;(with_reducible refine(KI.out).mono ?_)
             rintro e wi ⟨rfl,hbi⟩
             have HC:=hid (HA.out.trans (hbi.mono HA.out.size));have ORC:=hid (own_bl ORA.out hbi (Nat.le_refl _));clear hbi KI HA ORA;go_wp2;go_roundg (Mc.length+1-(k+1))
             case measure=>omega
             case rel=>exact⟨k+1,R,om_,om_,by go_num,fun _=>by rw[Nat.add_sub_cancel];exact HR.out.symm,ORC.out,HC.out⟩
           · obtain rfl:k=0:=by omega
             clear HI OSA hk0;go_wp2;go_roundg (Mc.length+1-(0+1))
             case measure=>omega
             case rel=>exact⟨0+1,R,om_,om_,by go_num,fun _=>by rw[Nat.add_sub_cancel];exact HR.out.symm,ORA.out,HA.out⟩
        · have dk:decide ((k:Int)<(Mc.length:Int)+1)=false:=decide_eq_false om_
          clear KFx HFC HFV HLK OS;go_wp2;go_ret;exact⟨rfl,BS.out⟩
end Go.Proofs.YtdeiofgddhbdaaaGreat
