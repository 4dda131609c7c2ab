/- Plain: the least enclosure of an arcsine is an arc. No program in sight. -/
import Derived.Test.YtdeiofgddhbdaaaGreatHNe
import Derived.Test.YtdeiofgddhbdaaaGreatHJw
set_option linter.unusedSimpArgs false
set_option linter.unusedVariables false
set_option maxHeartbeats 4000000
set_option maxRecDepth 100000
open Go.RowKit
open Go.Lib (hid)
open Go.Proofs.Tryz
open Go.Value renaming int→vi
open Go.IntKind renaming i64→vk
namespace Go.Proofs.YtdeiofgddhbdaaaGreat
theorem puNh{p:Prop}(h:p:=by simp only[Act.put,List.setIfInBounds_toArray,List.set_cons_zero,List.set_cons_succ]):p:=h
def SrI(W2:World)(x0 x1 x2 x3 x4 x5 x6 x9:Value)(v:Nat→Int×Int)(a:Act)(L:Nat→Bool)(a':Act)(w':World):Prop:=
 ∃(v10 v11 v12 v13 v9 v14 v15 v5 v6:Value) (g:Nat→Nat),a'=(((((((((a.put (some 10) v10).put (some 11) v11).put (some 12) v12).put (some 13) v13).put (some 9) v9).put (some 14) v14).put (some 15) v15).put (some 5) v5).put (some 6) v6)∧MJ W2 w' L 1 7 8 g v∧
  (L 0=true→v10=x0)∧(L 1=true→v11=x1)∧(L 2=true→v12=x2)∧(L 3=true→v13=x3)∧(L 4=true→v9=x4)∧(L 5=true→v14=x5)∧(L 6=true→v15=x6)∧(L 7=true→v5=.pointer (some ⟨g 0,0,none⟩))∧(L 9=true→v6=x9)
theorem SrI.start(W2:World)(x0 x1 x2 x3 x4 x5 x6 x9:Value)(v:Nat→Int×Int)(a:Act):SrI W2 x0 x1 x2 x3 x4 x5 x6 x9 v a (fun _=>false) a W2.drew:=
 ⟨_,_,_,_,_,_,_,_,_,fun _=>0,by rw[putQ_self a 10,putQ_self a 11,putQ_self a 12,putQ_self a 13,putQ_self a 9,putQ_self a 14,putQ_self a 15,putQ_self a 5,putQ_self a 6],MJ.start W2 1 7 8 _ v,nofun,nofun,nofun,nofun,nofun,nofun,nofun,nofun,nofun⟩
theorem sinT_fvB(lat dec lha:Int×Int):fvB (Trig.sinT lat dec lha).1 (Trig.sinT lat dec lha).2=true:=by
 have h:=Trig.sinT_fv lat dec lha;unfold fvB;rw[decide_eq_true_eq];exact⟨h.1,h.2.1,h.2.2⟩
theorem sureP_any(k:Ci)(x:Cl)(w:World)(hk:VCi k)(hx:Vl x):Calls Tryz.prog 188 #[.agg #[vi vk x.1,vi vk x.2.1,vi vk x.2.2],civ k] w fun e w'=>e=.returned (.bool (suC k x))∧Below w.heap.size w w':=by
 have KB:=fun W=>rbox_any x.1 x.2.1 x.2.2 W ((vl_iff x).2 hx);rw[show boxV x.1 x.2.1 x.2.2=.agg #[vi vk (bxI x).1,vi vk (bxI x).2.1,vi vk (bxI x).2.2.1,vi vk (bxI x).2.2.2] from rfl] at KB;have hq:=bx_vp hx;unfold suC sinC civ;generalize bxI x=q at*;obtain⟨⟨a0,a1,o0,o1⟩,r0,r1⟩:=k;obtain⟨l,r,c⟩:=x;obtain⟨q0,q1,q2,q3⟩:=q;have hc:=hk.vc;simp only[] at KB hc⊢;have br:=hc.h0;have br1:=hc.h1;have br2:=hc.h2;have KS:=fun W=>sine39_any a0 a1 o0 o1 r0 r1 q0 q1 q2 q3 W hc hq;have KC:=fun W=>cos_yes (r0,r1) (avB_true.2 so_) W;have fs:=sinT_fvB (q0,q1) (a0,a1) (q2-o1,q3-o0);have ft:=small_fv (Trig.csP_small (r0,r1));clear hc hq br br1 br2 hk hx;generalize Trig.sinT (q0,q1) (a0,a1) (q2-o1,q3-o0)=s at*;generalize Trig.csP (r0,r1)=tr at*;have KI:=fun W=>fInside_any s tr W fs ft;obtain⟨t0,t1⟩:=tr;obtain⟨s0,s1⟩:=s;simp only[] at KS KC KI⊢;generalize (decide (t0≤s0)&&decide (s1≤t1))=b at KI⊢;clear fs ft;have KB:=hid KB;have KS:=hid KS;have KC:=hid KC;have KI:=hid KI;have XX:=hid ((Blk.new w 55 #[vi vk l,vi vk r,vi vk c]).alloc (.cells #[vi vk a0,vi vk a1,vi vk o0,vi vk o1,vi vk r0,vi vk r1] 33));have cc:=Blk.new (w.alloc (.cells #[vi vk l,vi vk r,vi vk c] 55)) 33 #[vi vk a0,vi vk a1,vi vk o0,vi vk o1,vi vk r0,vi vk r1];rw[World.size_alloc] at cc;have CC:=hid cc;have B0:=hid ((bl_alloc w (.cells #[vi vk l,vi vk r,vi vk c] 55)).alloc (by simp) (.cells #[vi vk a0,vi vk a1,vi vk o0,vi vk o1,vi vk r0,vi vk r1] 33));clear cc;go_enter func188,ntmps188;go_upto_region 1 with (fail)
 generalize (w.alloc (.cells #[vi vk l,vi vk r,vi vk c] 55)).alloc (.cells #[vi vk a0,vi vk a1,vi vk o0,vi vk o1,vi vk r0,vi vk r1] 33)=w2 at XX CC B0⊢;refine wp_region_inv3 (by kernel_rfl) (SrI w2 (.agg #[vi vk a0,vi vk a1,vi vk o0,vi vk o1,vi vk r0,vi vk r1]) (.agg #[vi vk l,vi vk r,vi vk c]) (.agg #[vi vk q0,vi vk q1,vi vk q2,vi vk q3]) (.tuple #[.agg #[vi vk s0,vi vk s1],vi vk 0]) (.tuple #[.agg #[vi vk s0,vi vk s1],vi vk 0]) (.agg #[vi vk s0,vi vk s1]) (vi vk 0) (vi vk 0) (fun _=>((s0:Int),(s1:Int)))) (waits_bind (by kernel_rfl)) ?start ?step ?fin
 case start=>exact SrI.start w2 _ _ _ _ _ _ _ _ _ _
 case step=>
  rintro L i o a1' w' ho hL haf ⟨v10,v11,v12,v13,v9,v14,v15,v5,v6,g,rfl,hT,e0,e1,e2,e3,e4,e5,e6,e7,e9⟩
  have HT:=hid hT;clear hT;have E0:=hid e0;have E1:=hid e1;have E2:=hid e2;have E3:=hid e3;have E4:=hid e4;have E5:=hid e5;have E6:=hid e6;have E7:=hid e7;have E9:=hid e9;clear e0 e1 e2 e3 e4 e5 e6 e7 e9;rcases i with _|_|_|_|_|_|_|_|_|_|i
  all_goals (simp at ho;try subst ho)
  all_goals (try simp[Region.binds] at haf)
  · have z9:=CC.out.below HT.out.bl CC.out.lt
    have k0:w'.cell? ⟨w.heap.size+1,0,none⟩=some (vi vk a0):=z9.cell 0;have k1:w'.cell? ⟨w.heap.size+1,1,none⟩=some (vi vk a1):=z9.cell 1;have k2:w'.cell? ⟨w.heap.size+1,2,none⟩=some (vi vk o0):=z9.cell 2;have k3:w'.cell? ⟨w.heap.size+1,3,none⟩=some (vi vk o1):=z9.cell 3;have k4:w'.cell? ⟨w.heap.size+1,4,none⟩=some (vi vk r0):=z9.cell 4;have k5:w'.cell? ⟨w.heap.size+1,5,none⟩=some (vi vk r1):=z9.cell 5;clear z9;go_wp2;unfold SrI;exact⟨(.agg #[vi vk a0,vi vk a1,vi vk o0,vi vk o1,vi vk r0,vi vk r1]),v11,v12,v13,v9,v14,v15,v5,v6,g,puNh,HT.out.mark 0 dc_,rf_,kq E1,kq E2,kq E3,kq E4,kq E5,kq E6,kq E7,kq E9⟩
  · have z9:=XX.out.below HT.out.bl XX.out.lt
    have k0:w'.cell? ⟨w.heap.size,0,none⟩=some (vi vk l):=z9.cell 0;have k1:w'.cell? ⟨w.heap.size,1,none⟩=some (vi vk r):=z9.cell 1;have k2:w'.cell? ⟨w.heap.size,2,none⟩=some (vi vk c):=z9.cell 2;clear z9;go_wp2;unfold SrI;exact⟨v10,(.agg #[vi vk l,vi vk r,vi vk c]),v12,v13,v9,v14,v15,v5,v6,g,puNh,HT.out.mark 1 dc_,kq E0,rf_,kq E2,kq E3,kq E4,kq E5,kq E6,kq E7,kq E9⟩
  · obtain rfl:=E1.out (by simp[haf])
    go_wp2_with fail;(with_reducible refine(KB.out _).mono ?_)
    rintro e w9 ⟨rfl,hb9⟩
    go_wp2;unfold SrI;exact⟨v10,(.agg #[vi vk l,vi vk r,vi vk c]),(.agg #[vi vk q0,vi vk q1,vi vk q2,vi vk q3]),v13,v9,v14,v15,v5,v6,g,puNh,(HT.out.call hb9).mark 2 dc_,kq E0,rf_,rf_,kq E3,kq E4,kq E5,kq E6,kq E7,kq E9⟩
  · obtain rfl:=E0.out (by simp[haf])
    obtain rfl:=E2.out (by simp[haf]);go_wp2_with fail;(with_reducible refine(KS.out _).mono ?_)
    rintro e w9 ⟨rfl,hb9⟩
    go_wp2;unfold SrI;exact⟨(.agg #[vi vk a0,vi vk a1,vi vk o0,vi vk o1,vi vk r0,vi vk r1]),v11,(.agg #[vi vk q0,vi vk q1,vi vk q2,vi vk q3]),(.tuple #[.agg #[vi vk s0,vi vk s1],vi vk 0]),v9,v14,v15,v5,v6,g,puNh,(HT.out.call hb9).mark 3 dc_,rf_,kq E1,rf_,rf_,kq E4,kq E5,kq E6,kq E7,kq E9⟩
  · obtain rfl:=E3.out (by simp[haf])
    go_wp2;unfold SrI;exact⟨v10,v11,v12,(.tuple #[.agg #[vi vk s0,vi vk s1],vi vk 0]),(.tuple #[.agg #[vi vk s0,vi vk s1],vi vk 0]),v14,v15,v5,v6,g,puNh,HT.out.mark 4 dc_,kq E0,kq E1,kq E2,rf_,rf_,kq E5,kq E6,kq E7,kq E9⟩
  · obtain rfl:=E4.out (by simp[haf])
    go_wp2;unfold SrI;exact⟨v10,v11,v12,v13,(.tuple #[.agg #[vi vk s0,vi vk s1],vi vk 0]),(.agg #[vi vk s0,vi vk s1]),v15,v5,v6,g,puNh,HT.out.mark 5 dc_,kq E0,kq E1,kq E2,kq E3,rf_,rf_,kq E6,kq E7,kq E9⟩
  · obtain rfl:=E4.out (by simp[haf])
    go_wp2;unfold SrI;exact⟨v10,v11,v12,v13,(.tuple #[.agg #[vi vk s0,vi vk s1],vi vk 0]),v14,(vi vk 0),v5,v6,g,puNh,HT.out.mark 6 dc_,kq E0,kq E1,kq E2,kq E3,rf_,kq E5,rf_,kq E7,kq E9⟩
  · go_wp2
    unfold SrI;exact⟨v10,v11,v12,v13,v9,v14,v15,(.pointer (some ⟨w'.heap.size,0,none⟩)),v6,(fun j=>if j=0 then w'.heap.size else g j),puNh,HT.out.al 0 dc_ dc_ hL _,kq E0,kq E1,kq E2,kq E3,kq E4,kq E5,kq E6,rf_,kq E9⟩
  · obtain rfl:=E7.out (by simp[haf])
    obtain rfl:=E5.out (by simp[haf]);have hA:L 7=true:=by simp[haf]
    obtain⟨zt,z0,z1,zf0,zf1⟩:=HT.out.z 0 dc_ hA hL;have HS:=hid (HT.out.st 0 dc_ dc_ hA hL rfl);go_wp2;unfold SrI;exact⟨v10,v11,v12,v13,v9,(.agg #[vi vk s0,vi vk s1]),v15,(.pointer (some ⟨g 0,0,none⟩)),v6,g,puNh,HS.out,kq E0,kq E1,kq E2,kq E3,kq E4,rf_,kq E6,rf_,kq E9⟩
  · obtain rfl:=E6.out (by simp[haf])
    go_wp2;unfold SrI;exact⟨v10,v11,v12,v13,v9,v14,(vi vk 0),v5,(vi vk 0),g,puNh,HT.out.mark 9 dc_,kq E0,kq E1,kq E2,kq E3,kq E4,kq E5,rf_,kq E7,rf_⟩
 case fin=>
  rintro L a1' w3 hall ⟨v10,v11,v12,v13,v9,v14,v15,v5,v6,g,rfl,hT,e0,e1,e2,e3,e4,e5,e6,e7,e9⟩
  obtain rfl:=e0 (hall 0 dc_);obtain rfl:=e1 (hall 1 dc_);obtain rfl:=e2 (hall 2 dc_);obtain rfl:=e3 (hall 3 dc_);obtain rfl:=e4 (hall 4 dc_);obtain rfl:=e5 (hall 5 dc_);obtain rfl:=e6 (hall 6 dc_);obtain rfl:=e7 (hall 7 dc_);obtain rfl:=e9 (hall 9 dc_);have D5:Hid (D2 w3 (g 0) s0 s1):=hid (hT.k 0 dc_ (hall 8 dc_));have C3:=hid (CC.out.below hT.bl CC.out.lt);have B3:=hid (B0.out.trans (hT.bl.mono B0.out.size));clear hT hall XX CC B0 KB KS;generalize g 0=g5 at*;clear g;have k4:w3.cell? ⟨w.heap.size+1,4,none⟩=some (vi vk r0):=C3.out.cell 4;have k5:w3.cell? ⟨w.heap.size+1,5,none⟩=some (vi vk r1):=C3.out.cell 5;go_wp2_with fail;(with_reducible refine(KC.out _).mono ?_)
  rintro e w4 ⟨rfl,hb4⟩
  have D5':=hid ((D5.out.below hb4 D5.out.lt).alloc (.cells #[vi vk t0,vi vk t1] 158));have b4:=B3.out.trans (hb4.mono B3.out.size);have B4:=hid (b4.alloc b4.size (.cells #[vi vk t0,vi vk t1] 158));clear hb4 b4 C3 B3 D5 k4 k5 KC;obtain⟨-,u0,u1,-,-⟩:=D5'.out;go_wp2_with fail;(with_reducible refine(KI.out _).mono ?_)
  rintro e w5 ⟨rfl,hb5⟩
  have B5:=hid (B4.out.trans (hb5.mono B4.out.size));clear hb5;go_wp2;go_ret;exact⟨rfl,B5.out⟩
theorem givenClos_any(k:Ci)(W:World)(hk:VCi k):Calls Tryz.prog 139 #[civ k] W fun e w'=>e=.returned (.bool false)∧Below W.heap.size W w':=by
 obtain⟨⟨a0,a1,o0,o1⟩,r0,r1⟩:=k;have KV:=hid (fun W=>cirValid_yes a0 a1 o0 o1 r0 r1 W hk.vc);have B0:=hid (bl_alloc W (.cells #[vi vk a0,vi vk a1,vi vk o0,vi vk o1,vi vk r0,vi vk r1] 33));clear hk;unfold civ;simp only[];go_enter func139,ntmps139;go_wp2_with fail;(with_reducible refine(KV.out _).mono ?_)
 rintro e w1 ⟨rfl,hb1⟩
 have B1:=hid (B0.out.trans (hb1.mono B0.out.size));clear hb1;go_wp2;go_ret;exact⟨rfl,B1.out⟩
theorem allClos_any(k:Ci)(x:Cl)(g:Nat)(W:World)(hk:VCi k)(hx:Vl x)(hg:Blk W g 55 #[vi vk x.1,vi vk x.2.1,vi vk x.2.2]):
 Calls Tryz.prog 187 #[civ k,.pointer (some ⟨g,0,none⟩)] W fun e w'=>e=.returned (.bool (!suC k x))∧Below W.heap.size W w':=by
 have KS:=fun W=>sureP_any k x W hk hx;generalize suC k x=b at KS⊢;unfold civ at KS⊢;obtain⟨⟨a0,a1,o0,o1⟩,r0,r1⟩:=k;obtain⟨l,r,c⟩:=x;simp only[] at KS hg⊢;have c0:=hg.cell 0;have c1:=hg.cell 1;have c2:=hg.cell 2;simp only[List.getElem?_toArray,List.getElem?_cons_zero,List.getElem?_cons_succ] at c0 c1 c2;have hl:=hg.lt;have KS:=hid KS;have B0:=hid (bl_alloc W (.cells #[vi vk a0,vi vk a1,vi vk o0,vi vk o1,vi vk r0,vi vk r1] 33));have hne: ¬g=W.heap.size:=by omega
 clear hg hk hx;go_enter func187,ntmps187;go_wp2_with fail;(with_reducible refine(KS.out _).mono ?_)
 rintro e w1 ⟨rfl,hb1⟩
 have B1:=hid (B0.out.trans (hb1.mono B0.out.size));clear hb1;go_wp2;go_ret;exact⟨rfl,B1.out⟩
theorem lookClos_any(k:Ci)(x:Cl)(g:Nat)(W:World)(hk:VCi k)(hx:Vl x)(hg:Blk W g 55 #[vi vk x.1,vi vk x.2.1,vi vk x.2.2]):
 Calls Tryz.prog 140 #[civ k,.pointer (some ⟨g,0,none⟩)] W fun e w'=>e=.returned (.bool (!agC k x))∧Below W.heap.size W w':=by
 have KS:=fun W=>agrees_any k x W hk hx;generalize agC k x=b at KS⊢;unfold civ at KS⊢;obtain⟨⟨a0,a1,o0,o1⟩,r0,r1⟩:=k;obtain⟨l,r,c⟩:=x;simp only[] at KS hg⊢;have c0:=hg.cell 0;have c1:=hg.cell 1;have c2:=hg.cell 2;simp only[List.getElem?_toArray,List.getElem?_cons_zero,List.getElem?_cons_succ] at c0 c1 c2;have hl:=hg.lt;have KS:=hid KS;have B0:=hid (bl_alloc W (.cells #[vi vk a0,vi vk a1,vi vk o0,vi vk o1,vi vk r0,vi vk r1] 33));have hne: ¬g=W.heap.size:=by omega
 clear hg hk hx;go_enter func140,ntmps140;go_wp2_with fail;(with_reducible refine(KS.out _).mono ?_)
 rintro e w1 ⟨rfl,hb1⟩
 have B1:=hid (B0.out.trans (hb1.mono B0.out.size));clear hb1;go_wp2;go_ret;exact⟨rfl,B1.out⟩
theorem any_not{α:Type}(L:List α)(p:α→Bool):(!(L.any fun k=> !p k))=L.all p:=by
 induction L with
 |nil=>rfl
 |cons x L ih=>rw[List.any_cons,List.all_cons,←ih,Bool.not_or,Bool.not_not]
theorem allP_any(A:Option Addr)(n c:Nat)(L:List Ci)(x:Cl)(w:World)(hr:Reads w w.heap.size 6 A n (civs L))(hn:n≤maxLen)(hL: ∀k∈L,VCi k)(hx:Vl x):
 Calls Tryz.prog 142 #[.slice A n c,.agg #[vi vk x.1,vi vk x.2.1,vi vk x.2.2]] w fun e w'=>e=.returned (.bool (L.all fun k=>suC k x))∧Below w.heap.size w w':=by
 have XX:=Blk.new w 55 #[vi vk x.1,vi vk x.2.1,vi vk x.2.2];have HB0:=hid (bl_alloc w (.cells #[vi vk x.1,vi vk x.2.1,vi vk x.2.2] 55));have HR:=(hr.alloc (Nat.le_refl _) (.cells #[vi vk x.1,vi vk x.2.1,vi vk x.2.2] 55)).more (B':=(w.alloc (.cells #[vi vk x.1,vi vk x.2.1,vi vk x.2.2] 55)).heap.size) (by simp);have KC:=contC_any 187 #[.pointer (some ⟨w.heap.size,0,none⟩)] (fun k=> !suC k x) (enters_of func187 (by kernel_rfl) rfl) A n c L _ HR hn (fun W k hk hW=>allClos_any k x w.heap.size W (hL k hk) hx (XX.below hW XX.lt));have KC:=hid KC;rw[←any_not];generalize (L.any fun k=> !suC k x)=b at KC⊢;clear XX HR hr hL hx;obtain⟨l,r,cc⟩:=x;simp only[] at KC HB0⊢;go_enter func142,ntmps142;go_wp2_with fail;(with_reducible refine(KC.out).mono ?_)
 rintro e w1 ⟨rfl,hb1⟩
 have B1:=hid (HB0.out.trans (hb1.mono HB0.out.size));clear hb1;go_wp2;go_ret;exact⟨rfl,B1.out⟩
theorem Blk.not_row{W:World}{B:Nat}{t e:TypeId}{cs:Array Value}(h:Blk W B t cs)(hte:t≠e){base size k:Nat}{v:Value}{xs:List Value}(hr:W.ownsRow base e size v k xs):some B≠v.ownBlock:=by
 rcases hr.2 with ⟨rfl,_⟩|⟨g,cap,cur,rfl,_,hgb,_⟩
 · simp[Value.ownBlock]
 · intro e'
   obtain rfl:B=g:=by simpa [Value.ownBlock] using e'
   have:=(show W.heap[B]? =_ from h).symm.trans hgb;simp at this;exact hte this.2
theorem grownBy_setAt(W:World)(b i:Nat)(v:Value):W.grownBy (W.setCell ⟨b,i,none⟩ v) (some b):=
 ⟨rfl,rfl,rfl,(KeepsWalks.setCell W _ v).size,fun k _ hk=>Below.heap_setCell _ _ _ k (fun e=>hk (by rw[e]))⟩
theorem XK.setAt{B:Nat}{v:Value}{W W1:World}(h:XK B v W W1)(i:Nat)(u:Value):XK B v W (W1.setCell ⟨B,i,none⟩ u):=
 ⟨h.os,h.tape,h.output,by simpa [World.setCell] using h.size,fun k hk hB hv=>(Below.heap_setCell W1 _ _ k (fun e=>hB (by rw[e]))).trans (h.block k hk hB hv)⟩
structure SS(n₀ B:Nat)(W:World)(vc:Value)(lev lk:Int)(v:Value)(L:List Cl):Prop where
 box:Blk W B 143 #[vc,vi vk lev,vi vk lk,v]
 row:W.ownsRow n₀ 55 3 v L.length (cvs L)
theorem SS.below{n₀ B:Nat}{W W':World}{vc:Value}{lev lk:Int}{v:Value}{L:List Cl}(h:SS n₀ B W vc lev lk v L)(hb:Below W.heap.size W W'):SS n₀ B W' vc lev lk v L:=
 ⟨(hb.block B h.box.lt).trans h.box,own_bl h.row hb (Nat.le_refl _)⟩
theorem SS.count{n₀ B:Nat}{W:World}{vc:Value}{lev lk:Int}{v:Value}{L:List Cl}(h:SS n₀ B W vc lev lk v L)(lk':Int):SS n₀ B (W.setCell ⟨B,2,none⟩ (vi vk lk')) vc lev lk' v L:=
 ⟨h.box.set_ 2 _,h.row.kept (grownBy_setAt W B 2 _) (.inr (h.box.not_row dc_ h.row).symm)⟩
theorem SS.put{n₀ B:Nat}{W:World}{vc:Value}{lev lk:Int}{v u:Value}{L:List Cl}(h:Blk W B 143 #[vc,vi vk lev,vi vk lk,v])(hr:W.ownsRow n₀ 55 3 u L.length (cvs L)):SS n₀ B (W.setCell ⟨B,3,none⟩ u) vc lev lk u L:=
 ⟨h.set_ 3 _,hr.kept (grownBy_setAt W B 3 _) (.inr (h.not_row dc_ hr).symm)⟩
def GoS(n₀ B:Nat)(vc:Value)(lev lk:Int)(v:Value)(W:World)(L:List Cl)(W':World):Prop:= ∃v',SS n₀ B W' vc lev lk v' L∧XK B v W W'∧Nx W v v'
theorem GoS.after{n₀ B:Nat}{vc:Value}{lev lk:Int}{v:Value}{W W1 W2:World}{L:List Cl}(hx:XK B v W W1)(h:GoS n₀ B vc lev lk v W1 L W2):GoS n₀ B vc lev lk v W L W2:=by
 obtain⟨v',st,xk,nx⟩:=h;exact⟨v',st,hx.trans (Nx.refl _ _) xk,(Nx.refl _ _).trans hx.size nx⟩
def agP(K:List Ci)(x:Cl):Bool:=K.all fun k=>agC k x
def suP(K:List Ci)(x:Cl):Bool:=K.all fun k=>suC k x
def lkT(p:Cl→Nat)(K:List Cl)(k:Nat):Nat:=((K.take k).map p).sum
def otT(p:Cl→List Cl)(K:List Cl)(k:Nat):List Cl:=(K.take k).flatMap p
theorem lkT_succ(p:Cl→Nat)(K:List Cl)(k:Nat)(hk:k<K.length):lkT p K (k+1)=lkT p K k+p (gt K k):=by
 unfold lkT;rw[List.take_succ_eq_append_getElem hk,List.map_append,List.sum_append];simp[gt,hk]
theorem otT_succ(p:Cl→List Cl)(K:List Cl)(k:Nat)(hk:k<K.length):otT p K (k+1)=otT p K k++p (gt K k):=by
 unfold otT;rw[List.take_succ_eq_append_getElem hk,List.flatMap_append];simp[gt,hk]
theorem lkT_all(p:Cl→Nat)(K:List Cl):lkT p K K.length=(K.map p).sum:=by unfold lkT;rw[List.take_length]
theorem otT_all(p:Cl→List Cl)(K:List Cl):otT p K K.length=K.flatMap p:=by unfold otT;rw[List.take_length]
theorem lkT_le(p:Cl→Nat)(K:List Cl)(k:Nat)(hk:k<K.length):lkT p K k+p (gt K k)≤(K.map p).sum:=by
 have h: ∀j,k+1+j≤K.length→lkT p K (k+1)≤lkT p K (k+1+j):=by
  intro j;induction j with
  |zero=>intro _;exact Nat.le_refl _
  |succ j ih=>
   intro hj;have:=ih om_;rw[show k+1+(j+1)=(k+1+j)+1 from rfl,lkT_succ p K (k+1+j) om_];omega
 have:=h (K.length-(k+1)) om_;rw[show k+1+(K.length-(k+1))=K.length by omega,lkT_all,lkT_succ p K k hk] at this;exact this
theorem otT_len{p:Cl→List Cl}{q:Cl→Nat}{K:List Cl}(h: ∀x∈K,(p x).length≤q x): ∀k,k≤K.length→(otT p K k).length≤lkT q K k:=by
 intro k;induction k with
 |zero=>intro _;simp[otT]
 |succ k ih=>
  intro hk;have:=ih om_;rw[otT_succ p K k om_,lkT_succ q K k om_,List.length_append];have:=h (gt K k) (by simp[gt,show k<K.length by omega]);omega
section
open Canon
theorem sdV_wi{s s' r:Int×Int}(h:sdV s r=0)(hw:Trig.Wi s s'):sdV s' r=0:=by
 obtain⟨h1,h2⟩:=hw;unfold sdV at*;split at h
 · cases h
 · split at h
   · cases h
   · rw[if_neg om_,if_neg om_]
def sinPt(k:Ci)(a b:Int):Int×Int:=Trig.sinT (a,a) (k.1.1,k.1.2.1) (b-k.1.2.2.2,b-k.1.2.2.1)
theorem sin_pt{k:Ci}(hk:VCi k){x:Cl}(hx:Vl x){a b:Int}(hp:ptB x a b=true):Trig.Wi (sinPt k a b) (sinC k (bxI x)):=by
 have hkb:=vp_bd (q0:=k.1.1) (q1:=k.1.2.1) (q2:=k.1.2.2.1) (q3:=k.1.2.2.2) hk.p;have hb:=bx_facts hx;have hp':(decide ((bxI x).1≤a∧a≤(bxI x).2.1)&&(decide (a=5400000)||decide (a= -5400000)||lonIn (bxI x).2.2.1 (bxI x).2.2.2 b))=true:=hp;unfold sinPt sinC;generalize bxI x=q at*;rw[Bool.and_eq_true,decide_eq_true_eq,Bool.or_eq_true,Bool.or_eq_true,decide_eq_true_eq,decide_eq_true_eq] at hp';obtain⟨h1,h2⟩:=hp';have hw:Trig.Wi (a,a) (q.1,q.2.1):=⟨h1.1,h1.2⟩;by_cases hpole:a=5400000∨a= -5400000
 · rw[Trig.sinT_pole hpole _ _ (q.2.2.1-k.1.2.2.2,q.2.2.1-k.1.2.2.1)]
   exact Trig.sinT_mono hw (Int.le_refl _) ⟨Int.le_refl _,so_⟩ so_
 · have hl:lonIn q.2.2.1 q.2.2.2 b=true:=h2.resolve_left hpole
   unfold lonIn at hl;rw[decide_eq_true_eq] at hl;obtain⟨j,hj⟩: ∃j,(b-q.2.2.1)/21600000=j:=⟨_,rfl⟩;have e:=Trig.sinT_turn (a,a) (k.1.1,k.1.2.1) (b-k.1.2.2.2,b-k.1.2.2.1) (-j);rw[←e];exact Trig.sinT_mono hw (Int.le_refl _) ⟨so_,so_⟩ so_
theorem ag_pt{k:Ci}(hk:VCi k){x:Cl}(hx:Vl x){a b:Int}(hp:ptB x a b=true)(h:sdV (sinPt k a b) (Trig.csP k.2)=0):agC k x=true:=by
 unfold agC sideC;rw[sdV_wi h (sin_pt hk hx hp)];rfl
theorem pt_down{c:Cl}(hc:Vl c){q:Nat}(h:covL [c] q){a b:Int}(hf:fin a b q=true):ptB c a b=true:=by
 have hn:=fin_in hc h;have hb:=bx_facts hc;have hf':(decide ((bxI (cellB (0,q))).1≤a∧a≤(bxI (cellB (0,q))).2.1)&&(decide (a=5400000)||decide (a= -5400000)||lonIn (bxI (cellB (0,q))).2.2.1 (bxI (cellB (0,q))).2.2.2 b))=true:=hf;show(decide ((bxI c).1≤a∧a≤(bxI c).2.1)&&(decide (a=5400000)||decide (a= -5400000)||lonIn (bxI c).2.2.1 (bxI c).2.2.2 b))=true
 unfold nst at hn;generalize bxI (cellB (0,q))=u at*;generalize bxI c=v at*;rw[Bool.and_eq_true,decide_eq_true_eq,Bool.or_eq_true] at hf'⊢;refine⟨om_,hf'.2.imp id fun hl=>?_⟩;unfold lonIn at*;rw[decide_eq_true_eq] at*;omega
theorem gop_all{ag su:Cl→Bool}{lev:Int}{q:Nat}: ∀(f j:Nat),(∀i,j≤i→i≤j+f→ag (cellAt q i)=true)→gop ag su lev q f j
 |0,j,h=>h j (Nat.le_refl _) om_
 |f+1,j,h=>⟨h j (Nat.le_refl _) om_,.inr (gop_all f (j+1) fun i h1 h2=>h i om_ om_)⟩
theorem at_vl{q j:Nat}(hq:q<2*4^16)(hj:j≤16):Vl (cellAt q j)∧covL [cellAt q j] q:=by
 have hp:0<4^(16-j):=Nat.pow_pos om_;have e:(4:Nat)^16=4^j*4^(16-j):=by rw[←Nat.pow_add,show j+(16-j)=16 by omega]
 have hb:blkOf (cellAt q j)=(16-j,q/4^(16-j)):=blkOf_cellB _ so_;refine⟨cellB_vl _ so_ ?_,?_⟩
 · simp only[]
   rw[Nat.div_lt_iff_lt_mul hp,show 16-(16-j)=j by omega,Nat.mul_assoc,←e];exact hq
 · rw[cov_div,hb]
theorem prA_pt{ag su:Cl→Bool}{lev:Int}(h16:lev≤16){L:List Cl}(hL:AllV L){a b:Int}(hv:vptB a b=true)(hc:conB L a b=true)(hag: ∀x,Vl x→ptB x a b=true→ag x=true):conB (canonC (covL (prA ag su lev L))) a b=true:=by
 have hX:=(prA_v (ag:=ag) (su:=su) h16 hL).1;rw[con_iff hL a b hv] at hc;obtain⟨q,hq,hf⟩:=hc;rw[con_iff (can_v _ hX) a b hv];refine⟨q,?_,hf⟩;rw[cov_blk] at hq;have hq2:=cov_v hL hq;rw[cov_blk,can_cov hX,prA_go h16 hL];obtain⟨r,hr,hrq⟩:=hq;refine⟨r,hr,(cov_one r q).2 hrq,gop_all _ _ fun i h1 h2=>?_⟩;have hfu:=fuC_eq (hL r hr);have h0:=(hL r hr).l0;have hi:i≤16:=by omega
 obtain⟨v1,v2⟩:=at_vl hq2 hi;exact hag _ v1 (pt_down v1 v2 hf)
theorem prA_ptP{K:List Ci}(hK: ∀k∈K,VCi k){lev:Int}(h16:lev≤16){L:List Cl}(hL:AllV L){a b:Int}(hv:vptB a b=true)(hc:conB L a b=true)(hs: ∀k∈K,sdV (sinPt k a b) (Trig.csP k.2)=0):conB (canonC (covL (prA (agP K) (suP K) lev L))) a b=true:=
 prA_pt h16 hL hv hc fun x hx hp=>List.all_eq_true.2 fun k hk=>ag_pt (hK k hk) hx hp (hs k hk)
end
namespace Trig
theorem ex_angle{a:Int}(h0: -5400000≤a)(h1:a≤5400000)(he:loB a=hiB a):a= -5400000∨a= -1800000∨a=0∨a=1800000∨a=5400000:=by
 have key: ∀n:Int,sF n=upF n→exN n=true:=by
  intro n h;unfold upF at h;cases e:exN n with
  |true=>rfl
  |false=>rw[e] at h;simp at h;omega
 have exq: ∀n:Int,0≤n→n≤5400000→exN n=true→n=0∨n=1800000∨n=5400000:=by
  intro n n0 n1 h;unfold exN at h;simp at h;omega
 by_cases c:0≤a
 · have e:sth a=false:=by unfold sth;rw[decide_eq_false_iff_not];omega
   have q:qrt a=a:=by unfold qrt;omega
   unfold loB hiB at he;rw[e,q] at he;have:=exq a c h1 (key a (by simpa using he));omega
 · have e:sth a=true:=by unfold sth;rw[decide_eq_true_eq];omega
   have q:qrt a= -a:=by unfold qrt;omega
   unfold loB hiB at he;rw[e,q] at he;have:=exq (-a) om_ om_ (key (-a) (by simp at he;omega));omega
theorem lo_ex:loB (-5400000)= -1073741824∧loB (-1800000)= -536870912∧loB 0=0∧loB 1800000=536870912∧loB 5400000=1073741824:=by decide+kernel
theorem asn_order{v u:Int}(h:v≤u)(h0: -1073741824≤v)(h1:u≤1073741824):asnV v≤ -asnV (-u):=by
 have a:=asnV_is (v:=v) h0;have b:=asnV_is (v:= -u) om_;generalize asnV v=r at*;generalize asnV (-u)=t at*;rcases Int.lt_or_le (-t) r with c|c
 · have a0:=a.lo
   have a1:=a.hi;have b0:=b.lo;have b1:=b.hi;have e1:=hiB_neg (n:= -t) om_ om_;rw[Int.neg_neg] at e1;have e2:=loB_mono (a:= -t) (b:=r) om_ om_ om_;have e3:=hiB_mono (a:= -t) (b:=r) om_ om_ om_;have e4:=(hi_le r).2.2.2.2;have e5:=(hi_le (-t)).2.2.2.2;have a2:=a.le;have b2:=b.le;have x1:=ex_angle (a:=r) om_ om_ om_;have x2:=ex_angle (a:= -t) om_ om_ om_;have hv:loB r=loB (-t):=by omega
   obtain⟨v1,v2,v3,v4,v5⟩:=lo_ex;rcases x1 with g|g|g|g|g<;>rcases x2 with k|k|k|k|k
   all_goals (rw[g,k] at hv;omega)
 · exact c
theorem asn_arc{s:Int×Int}(hs:s.1≤s.2)(h1:s.1≤1073741824)(h2: -1073741824≤s.2):asnV (max s.1 (-1073741824))≤ -asnV (-(min s.2 1073741824)):=
 asn_order om_ om_ om_
end Trig
end Go.Proofs.YtdeiofgddhbdaaaGreat
