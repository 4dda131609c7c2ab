/- Words: a region that is built in a variable, and what a step of the building leaves alone. -/
import Derived.RangeFuncBox
import Derived.Test.YtdeiofgddhbdaaaGreatHJm
set_option linter.unusedSimpArgs false
set_option linter.unusedVariables false
set_option maxHeartbeats 4000000
set_option maxRecDepth 100000
open Go.RowKit
open Go.Lib (hid)
open Go.Proofs.Tryz
open Go.Value renaming int→vi
open Go.IntKind renaming i64→vk
namespace Go.Proofs.YtdeiofgddhbdaaaGreat
theorem puNc{p:Prop}(h:p:=by simp only[Act.put,List.setIfInBounds_toArray,List.set_cons_zero,List.set_cons_succ]):p:=h
abbrev Ci:=Bx×Int×Int
structure VCi(k:Ci):Prop where
 p:VP k.1
 h0:0≤k.2.1
 h1:k.2.1≤k.2.2
 h2:k.2.2≤10800000
theorem VCi.vc{k:Ci}(h:VCi k):VC k.1.1 k.1.2.1 k.1.2.2.1 k.1.2.2.2 k.2.1 k.2.2:=⟨h.p,h.h0,h.h1,h.h2⟩
def sinC(k:Ci)(q:Bx):Int×Int:=Trig.sinT (q.1,q.2.1) (k.1.1,k.1.2.1) (q.2.2.1-k.1.2.2.2,q.2.2.2-k.1.2.2.1)
def sideC(k:Ci)(q:Bx):Int:=sdV (sinC k q) (Trig.csP k.2)
def agC(k:Ci)(x:Cl):Bool:=sideC k (bxI x)==0
def civ(k:Ci):Value:=.agg #[vi vk k.1.1,vi vk k.1.2.1,vi vk k.1.2.2.1,vi vk k.1.2.2.2,vi vk k.2.1,vi vk k.2.2]
def AgI(W2:World)(x0 x1 x2 x3 x4 x5 x6 x7 x8:Value)(v:Nat→Int×Int)(a:Act)(L:Nat→Bool)(a':Act)(w':World):Prop:=
 ∃(v8 v9 v10 v11 v7 v12 v13 v5 v6:Value) (g:Nat→Nat),a'=(((((((((a.put (some 8) v8).put (some 9) v9).put (some 10) v10).put (some 11) v11).put (some 7) v7).put (some 12) v12).put (some 13) v13).put (some 5) v5).put (some 6) v6)∧MJ W2 w' L 0 100 200 g v∧
  (L 0=true→v8=x0)∧(L 1=true→v9=x1)∧(L 2=true→v10=x2)∧(L 3=true→v11=x3)∧(L 4=true→v7=x4)∧(L 5=true→v12=x5)∧(L 6=true→v13=x6)∧(L 7=true→v5=x7)∧(L 8=true→v6=x8)
theorem AgI.start(W2:World)(x0 x1 x2 x3 x4 x5 x6 x7 x8:Value)(v:Nat→Int×Int)(a:Act):AgI W2 x0 x1 x2 x3 x4 x5 x6 x7 x8 v a (fun _=>false) a W2.drew:=
 ⟨_,_,_,_,_,_,_,_,_,fun _=>0,by rw[putQ_self a 8,putQ_self a 9,putQ_self a 10,putQ_self a 11,putQ_self a 7,putQ_self a 12,putQ_self a 13,putQ_self a 5,putQ_self a 6],MJ.start W2 0 100 200 _ v,nofun,nofun,nofun,nofun,nofun,nofun,nofun,nofun,nofun⟩
def AgJ(W2:World)(x0 x1 x2 x3 x4 x5:Value)(v:Nat→Int×Int)(a:Act)(L:Nat→Bool)(a':Act)(w':World):Prop:=
 ∃(v5 v6 v7 v8 v9 v4:Value) (g:Nat→Nat),a'=((((((a.put (some 5) v5).put (some 6) v6).put (some 7) v7).put (some 8) v8).put (some 9) v9).put (some 4) v4)∧MJ W2 w' L 0 100 200 g v∧
  (L 0=true→v5=x0)∧(L 1=true→v6=x1)∧(L 2=true→v7=x2)∧(L 3=true→v8=x3)∧(L 4=true→v9=x4)∧(L 5=true→v4=x5)
theorem AgJ.start(W2:World)(x0 x1 x2 x3 x4 x5:Value)(v:Nat→Int×Int)(a:Act):AgJ W2 x0 x1 x2 x3 x4 x5 v a (fun _=>false) a W2.drew:=
 ⟨_,_,_,_,_,_,fun _=>0,by rw[putQ_self a 5,putQ_self a 6,putQ_self a 7,putQ_self a 8,putQ_self a 9,putQ_self a 4],MJ.start W2 0 100 200 _ v,nofun,nofun,nofun,nofun,nofun,nofun⟩
theorem agrees_any(k:Ci)(x:Cl)(w:World)(hk:VCi k)(hx:Vl x):Calls Tryz.prog 141 #[.agg #[vi vk x.1,vi vk x.2.1,vi vk x.2.2],civ k] w fun e w'=>e=.returned (.bool (agC k x))∧Below w.heap.size w w':=by
 have KB:=fun W=>rbox_any x.1 x.2.1 x.2.2 W ((vl_iff x).2 hx);rw[show boxV x.1 x.2.1 x.2.2=.agg #[vi vk (bxI x).1,vi vk (bxI x).2.1,vi vk (bxI x).2.2.1,vi vk (bxI x).2.2.2] from rfl] at KB;have KS: ∀W,Calls Tryz.prog 186 #[civ k,.agg #[vi vk (bxI x).1,vi vk (bxI x).2.1,vi vk (bxI x).2.2.1,vi vk (bxI x).2.2.2]] W fun e w'=>e=.returned (.tuple #[vi vk (sideC k (bxI x)),vi vk 0])∧Below W.heap.size W w':=fun W=>Side_yes _ _ _ _ _ _ _ _ _ _ W hk.vc (bx_vp hx);unfold agC;obtain⟨V,hV⟩: ∃V,sideC k (bxI x)=V:=⟨_,rfl⟩;rw[hV] at KS⊢;unfold civ at KS⊢;clear hV hk hx;generalize bxI x=q at*;obtain⟨⟨a0,a1,o0,o1⟩,r0,r1⟩:=k;obtain⟨l,r,c⟩:=x;obtain⟨q0,q1,q2,q3⟩:=q;simp only[] at KB KS⊢;have KB:=hid KB;have KS:=hid KS;have XX:=hid ((Blk.new w 55 #[vi vk l,vi vk r,vi vk c]).alloc (.cells #[vi vk a0,vi vk a1,vi vk o0,vi vk o1,vi vk r0,vi vk r1] 33));have cc:=Blk.new (w.alloc (.cells #[vi vk l,vi vk r,vi vk c] 55)) 33 #[vi vk a0,vi vk a1,vi vk o0,vi vk o1,vi vk r0,vi vk r1];rw[World.size_alloc] at cc;have CC:=hid cc;have B0:=hid ((bl_alloc w (.cells #[vi vk l,vi vk r,vi vk c] 55)).alloc (by simp) (.cells #[vi vk a0,vi vk a1,vi vk o0,vi vk o1,vi vk r0,vi vk r1] 33));clear cc;go_enter func141,ntmps141;go_upto_region 1 with (fail)
 generalize (w.alloc (.cells #[vi vk l,vi vk r,vi vk c] 55)).alloc (.cells #[vi vk a0,vi vk a1,vi vk o0,vi vk o1,vi vk r0,vi vk r1] 33)=w2 at XX CC B0⊢;refine wp_region_inv3 (by kernel_rfl) (AgI w2 (.agg #[vi vk a0,vi vk a1,vi vk o0,vi vk o1,vi vk r0,vi vk r1]) (.agg #[vi vk l,vi vk r,vi vk c]) (.agg #[vi vk q0,vi vk q1,vi vk q2,vi vk q3]) (.tuple #[vi vk V,vi vk 0]) (.tuple #[vi vk V,vi vk 0]) (vi vk V) (vi vk 0) (vi vk V) (vi vk 0) (fun _=>((0:Int),(0:Int)))) (waits_bind (by kernel_rfl)) ?start ?step ?fin
 case start=>exact AgI.start w2 _ _ _ _ _ _ _ _ _ _ _
 case step=>
  rintro L i o a1' w' ho hL haf ⟨v8,v9,v10,v11,v7,v12,v13,v5,v6,g,rfl,hT,e0,e1,e2,e3,e4,e5,e6,e7,e8⟩
  have HT:=hid hT;clear hT;have E0:=hid e0;have E1:=hid e1;have E2:=hid e2;have E3:=hid e3;have E4:=hid e4;have E5:=hid e5;have E6:=hid e6;have E7:=hid e7;have E8:=hid e8;clear e0 e1 e2 e3 e4 e5 e6 e7 e8;rcases i with _|_|_|_|_|_|_|_|_|i
  all_goals (simp at ho;try subst ho)
  all_goals (try simp[Region.binds] at haf)
  · have z9:=CC.out.below HT.out.bl CC.out.lt
    have k0:w'.cell? ⟨w.heap.size+1,0,none⟩=some (vi vk a0):=z9.cell 0;have k1:w'.cell? ⟨w.heap.size+1,1,none⟩=some (vi vk a1):=z9.cell 1;have k2:w'.cell? ⟨w.heap.size+1,2,none⟩=some (vi vk o0):=z9.cell 2;have k3:w'.cell? ⟨w.heap.size+1,3,none⟩=some (vi vk o1):=z9.cell 3;have k4:w'.cell? ⟨w.heap.size+1,4,none⟩=some (vi vk r0):=z9.cell 4;have k5:w'.cell? ⟨w.heap.size+1,5,none⟩=some (vi vk r1):=z9.cell 5;clear z9;go_wp2;unfold AgI;exact⟨(.agg #[vi vk a0,vi vk a1,vi vk o0,vi vk o1,vi vk r0,vi vk r1]),v9,v10,v11,v7,v12,v13,v5,v6,g,puNc,HT.out.mark 0 dc_,rf_,kq E1,kq E2,kq E3,kq E4,kq E5,kq E6,kq E7,kq E8⟩
  · have z9:=XX.out.below HT.out.bl XX.out.lt
    have k0:w'.cell? ⟨w.heap.size,0,none⟩=some (vi vk l):=z9.cell 0;have k1:w'.cell? ⟨w.heap.size,1,none⟩=some (vi vk r):=z9.cell 1;have k2:w'.cell? ⟨w.heap.size,2,none⟩=some (vi vk c):=z9.cell 2;clear z9;go_wp2;unfold AgI;exact⟨v8,(.agg #[vi vk l,vi vk r,vi vk c]),v10,v11,v7,v12,v13,v5,v6,g,puNc,HT.out.mark 1 dc_,kq E0,rf_,kq E2,kq E3,kq E4,kq E5,kq E6,kq E7,kq E8⟩
  · obtain rfl:=E1.out (by simp[haf])
    go_wp2_with fail;(with_reducible refine(KB.out _).mono ?_)
    rintro e w9 ⟨rfl,hb9⟩
    go_wp2;unfold AgI;exact⟨v8,(.agg #[vi vk l,vi vk r,vi vk c]),(.agg #[vi vk q0,vi vk q1,vi vk q2,vi vk q3]),v11,v7,v12,v13,v5,v6,g,puNc,(HT.out.call hb9).mark 2 dc_,kq E0,rf_,rf_,kq E3,kq E4,kq E5,kq E6,kq E7,kq E8⟩
  · obtain rfl:=E0.out (by simp[haf])
    obtain rfl:=E2.out (by simp[haf]);go_wp2_with fail;(with_reducible refine(KS.out _).mono ?_)
    rintro e w9 ⟨rfl,hb9⟩
    go_wp2;unfold AgI;exact⟨(.agg #[vi vk a0,vi vk a1,vi vk o0,vi vk o1,vi vk r0,vi vk r1]),v9,(.agg #[vi vk q0,vi vk q1,vi vk q2,vi vk q3]),(.tuple #[vi vk V,vi vk 0]),v7,v12,v13,v5,v6,g,puNc,(HT.out.call hb9).mark 3 dc_,rf_,kq E1,rf_,rf_,kq E4,kq E5,kq E6,kq E7,kq E8⟩
  · obtain rfl:=E3.out (by simp[haf])
    go_wp2;unfold AgI;exact⟨v8,v9,v10,(.tuple #[vi vk V,vi vk 0]),(.tuple #[vi vk V,vi vk 0]),v12,v13,v5,v6,g,puNc,HT.out.mark 4 dc_,kq E0,kq E1,kq E2,rf_,rf_,kq E5,kq E6,kq E7,kq E8⟩
  · obtain rfl:=E4.out (by simp[haf])
    go_wp2;unfold AgI;exact⟨v8,v9,v10,v11,(.tuple #[vi vk V,vi vk 0]),(vi vk V),v13,v5,v6,g,puNc,HT.out.mark 5 dc_,kq E0,kq E1,kq E2,kq E3,rf_,rf_,kq E6,kq E7,kq E8⟩
  · obtain rfl:=E4.out (by simp[haf])
    go_wp2;unfold AgI;exact⟨v8,v9,v10,v11,(.tuple #[vi vk V,vi vk 0]),v12,(vi vk 0),v5,v6,g,puNc,HT.out.mark 6 dc_,kq E0,kq E1,kq E2,kq E3,rf_,kq E5,rf_,kq E7,kq E8⟩
  · obtain rfl:=E5.out (by simp[haf])
    go_wp2;unfold AgI;exact⟨v8,v9,v10,v11,v7,(vi vk V),v13,(vi vk V),v6,g,puNc,HT.out.mark 7 dc_,kq E0,kq E1,kq E2,kq E3,kq E4,rf_,kq E6,rf_,kq E8⟩
  · obtain rfl:=E6.out (by simp[haf])
    go_wp2;unfold AgI;exact⟨v8,v9,v10,v11,v7,v12,(vi vk 0),v5,(vi vk 0),g,puNc,HT.out.mark 8 dc_,kq E0,kq E1,kq E2,kq E3,kq E4,kq E5,rf_,kq E7,rf_⟩
 case fin=>
  rintro L a1' w3 hall ⟨v8,v9,v10,v11,v7,v12,v13,v5,v6,g,rfl,hT,e0,e1,e2,e3,e4,e5,e6,e7,e8⟩
  obtain rfl:=e0 (hall 0 dc_);obtain rfl:=e1 (hall 1 dc_);obtain rfl:=e2 (hall 2 dc_);obtain rfl:=e3 (hall 3 dc_);obtain rfl:=e4 (hall 4 dc_);obtain rfl:=e5 (hall 5 dc_);obtain rfl:=e6 (hall 6 dc_);obtain rfl:=e7 (hall 7 dc_);obtain rfl:=e8 (hall 8 dc_);have B3:=hid (B0.out.trans (hT.bl.mono B0.out.size));clear hT hall XX CC B0 KB KS;go_wp2;go_ret;exact⟨rfl,B3.out⟩
theorem rAgrees_any(k:Ci)(x:Cl)(w:World)(hk:VCi k)(hx:Vl x):Calls Tryz.prog 134 #[.agg #[vi vk x.1,vi vk x.2.1,vi vk x.2.2],civ k] w fun e w'=>e=.returned (.bool (agC k x))∧Below w.heap.size w w':=by
 have KB:=fun W=>refBox_any x.1 x.2.1 x.2.2 W ((vl_iff x).2 hx);rw[show boxV x.1 x.2.1 x.2.2=.agg #[vi vk (bxI x).1,vi vk (bxI x).2.1,vi vk (bxI x).2.2.1,vi vk (bxI x).2.2.2] from rfl] at KB;have KS: ∀W,Calls Tryz.prog 180 #[civ k,.agg #[vi vk (bxI x).1,vi vk (bxI x).2.1,vi vk (bxI x).2.2.1,vi vk (bxI x).2.2.2]] W fun e w'=>e=.returned (vi vk (sideC k (bxI x)))∧Below W.heap.size W w':=fun W=>rSide_yes _ _ _ _ _ _ _ _ _ _ W hk.vc (bx_vp hx);unfold agC;obtain⟨V,hV⟩: ∃V,sideC k (bxI x)=V:=⟨_,rfl⟩;rw[hV] at KS⊢;unfold civ at KS⊢;clear hV hk hx;generalize bxI x=q at*;obtain⟨⟨a0,a1,o0,o1⟩,r0,r1⟩:=k;obtain⟨l,r,c⟩:=x;obtain⟨q0,q1,q2,q3⟩:=q;simp only[] at KB KS⊢;have KB:=hid KB;have KS:=hid KS;have XX:=hid ((Blk.new w 55 #[vi vk l,vi vk r,vi vk c]).alloc (.cells #[vi vk a0,vi vk a1,vi vk o0,vi vk o1,vi vk r0,vi vk r1] 33));have cc:=Blk.new (w.alloc (.cells #[vi vk l,vi vk r,vi vk c] 55)) 33 #[vi vk a0,vi vk a1,vi vk o0,vi vk o1,vi vk r0,vi vk r1];rw[World.size_alloc] at cc;have CC:=hid cc;have B0:=hid ((bl_alloc w (.cells #[vi vk l,vi vk r,vi vk c] 55)).alloc (by simp) (.cells #[vi vk a0,vi vk a1,vi vk o0,vi vk o1,vi vk r0,vi vk r1] 33));clear cc;go_enter func134,ntmps134;go_upto_region 1 with (fail)
 generalize (w.alloc (.cells #[vi vk l,vi vk r,vi vk c] 55)).alloc (.cells #[vi vk a0,vi vk a1,vi vk o0,vi vk o1,vi vk r0,vi vk r1] 33)=w2 at XX CC B0⊢;refine wp_region_inv3 (by kernel_rfl) (AgJ w2 (.agg #[vi vk a0,vi vk a1,vi vk o0,vi vk o1,vi vk r0,vi vk r1]) (.agg #[vi vk l,vi vk r,vi vk c]) (.agg #[vi vk q0,vi vk q1,vi vk q2,vi vk q3]) (vi vk V) (.bool (V==0)) (.bool (V==0)) (fun _=>((0:Int),(0:Int)))) (waits_bind (by kernel_rfl)) ?start ?step ?fin
 case start=>exact AgJ.start w2 _ _ _ _ _ _ _ _
 case step=>
  rintro L i o a1' w' ho hL haf ⟨v5,v6,v7,v8,v9,v4,g,rfl,hT,e0,e1,e2,e3,e4,e5⟩
  have HT:=hid hT;clear hT;have E0:=hid e0;have E1:=hid e1;have E2:=hid e2;have E3:=hid e3;have E4:=hid e4;have E5:=hid e5;clear e0 e1 e2 e3 e4 e5;rcases i with _|_|_|_|_|_|i
  all_goals (simp at ho;try subst ho)
  all_goals (try simp[Region.binds] at haf)
  · have z9:=CC.out.below HT.out.bl CC.out.lt
    have k0:w'.cell? ⟨w.heap.size+1,0,none⟩=some (vi vk a0):=z9.cell 0;have k1:w'.cell? ⟨w.heap.size+1,1,none⟩=some (vi vk a1):=z9.cell 1;have k2:w'.cell? ⟨w.heap.size+1,2,none⟩=some (vi vk o0):=z9.cell 2;have k3:w'.cell? ⟨w.heap.size+1,3,none⟩=some (vi vk o1):=z9.cell 3;have k4:w'.cell? ⟨w.heap.size+1,4,none⟩=some (vi vk r0):=z9.cell 4;have k5:w'.cell? ⟨w.heap.size+1,5,none⟩=some (vi vk r1):=z9.cell 5;clear z9;go_wp2;unfold AgJ;exact⟨(.agg #[vi vk a0,vi vk a1,vi vk o0,vi vk o1,vi vk r0,vi vk r1]),v6,v7,v8,v9,v4,g,puNc,HT.out.mark 0 dc_,rf_,kq E1,kq E2,kq E3,kq E4,kq E5⟩
  · have z9:=XX.out.below HT.out.bl XX.out.lt
    have k0:w'.cell? ⟨w.heap.size,0,none⟩=some (vi vk l):=z9.cell 0;have k1:w'.cell? ⟨w.heap.size,1,none⟩=some (vi vk r):=z9.cell 1;have k2:w'.cell? ⟨w.heap.size,2,none⟩=some (vi vk c):=z9.cell 2;clear z9;go_wp2;unfold AgJ;exact⟨v5,(.agg #[vi vk l,vi vk r,vi vk c]),v7,v8,v9,v4,g,puNc,HT.out.mark 1 dc_,kq E0,rf_,kq E2,kq E3,kq E4,kq E5⟩
  · obtain rfl:=E1.out (by simp[haf])
    go_wp2_with fail;(with_reducible refine(KB.out _).mono ?_)
    rintro e w9 ⟨rfl,hb9⟩
    go_wp2;unfold AgJ;exact⟨v5,(.agg #[vi vk l,vi vk r,vi vk c]),(.agg #[vi vk q0,vi vk q1,vi vk q2,vi vk q3]),v8,v9,v4,g,puNc,(HT.out.call hb9).mark 2 dc_,kq E0,rf_,rf_,kq E3,kq E4,kq E5⟩
  · obtain rfl:=E0.out (by simp[haf])
    obtain rfl:=E2.out (by simp[haf]);go_wp2_with fail;(with_reducible refine(KS.out _).mono ?_)
    rintro e w9 ⟨rfl,hb9⟩
    go_wp2;unfold AgJ;exact⟨(.agg #[vi vk a0,vi vk a1,vi vk o0,vi vk o1,vi vk r0,vi vk r1]),v6,(.agg #[vi vk q0,vi vk q1,vi vk q2,vi vk q3]),(vi vk V),v9,v4,g,puNc,(HT.out.call hb9).mark 3 dc_,rf_,kq E1,rf_,rf_,kq E4,kq E5⟩
  · obtain rfl:=E3.out (by simp[haf])
    go_wp2;unfold AgJ;exact⟨v5,v6,v7,(vi vk V),(.bool (V==0)),v4,g,puNc,HT.out.mark 4 dc_,kq E0,kq E1,kq E2,rf_,rf_,kq E5⟩
  · obtain rfl:=E4.out (by simp[haf])
    go_wp2;unfold AgJ;exact⟨v5,v6,v7,v8,(.bool (V==0)),(.bool (V==0)),g,puNc,HT.out.mark 5 dc_,kq E0,kq E1,kq E2,kq E3,rf_,rf_⟩
 case fin=>
  rintro L a1' w3 hall ⟨v5,v6,v7,v8,v9,v4,g,rfl,hT,e0,e1,e2,e3,e4,e5⟩
  obtain rfl:=e0 (hall 0 dc_);obtain rfl:=e1 (hall 1 dc_);obtain rfl:=e2 (hall 2 dc_);obtain rfl:=e3 (hall 3 dc_);obtain rfl:=e4 (hall 4 dc_);obtain rfl:=e5 (hall 5 dc_);have B3:=hid (B0.out.trans (hT.bl.mono B0.out.size));clear hT hall XX CC B0 KB KS;go_wp2;go_ret;exact⟨rfl,B3.out⟩
def suC(k:Ci)(x:Cl):Bool:=decide ((Trig.csP k.2).1≤(sinC k (bxI x)).1)&&decide ((sinC k (bxI x)).2≤(Trig.csP k.2).2)
def SuI(W2:World)(x0 x1 x2 x3 x4:Value)(v:Nat→Int×Int)(a:Act)(L:Nat→Bool)(a':Act)(w':World):Prop:=
 ∃(v7 v8 v9 v10 v11 v5:Value) (g:Nat→Nat),a'=((((((a.put (some 7) v7).put (some 8) v8).put (some 9) v9).put (some 10) v10).put (some 11) v11).put (some 5) v5)∧MJ W2 w' L 1 5 6 g v∧
  (L 0=true→v7=x0)∧(L 1=true→v8=x1)∧(L 2=true→v9=x2)∧(L 3=true→v10=x3)∧(L 4=true→v11=x4)∧(L 5=true→v5=.pointer (some ⟨g 0,0,none⟩))
theorem SuI.start(W2:World)(x0 x1 x2 x3 x4:Value)(v:Nat→Int×Int)(a:Act):SuI W2 x0 x1 x2 x3 x4 v a (fun _=>false) a W2.drew:=
 ⟨_,_,_,_,_,_,fun _=>0,by rw[putQ_self a 7,putQ_self a 8,putQ_self a 9,putQ_self a 10,putQ_self a 11,putQ_self a 5],MJ.start W2 1 5 6 _ v,nofun,nofun,nofun,nofun,nofun,nofun⟩
theorem rsure_any(k:Ci)(x:Cl)(w:World)(hk:VCi k)(hx:Vl x):Calls Tryz.prog 135 #[.agg #[vi vk x.1,vi vk x.2.1,vi vk x.2.2],civ k] w fun e w'=>e=.returned (.bool (suC k x))∧Below w.heap.size w w':=by
 have KB:=fun W=>refBox_any x.1 x.2.1 x.2.2 W ((vl_iff x).2 hx);rw[show boxV x.1 x.2.1 x.2.2=.agg #[vi vk (bxI x).1,vi vk (bxI x).2.1,vi vk (bxI x).2.2.1,vi vk (bxI x).2.2.2] from rfl] at KB;have hq:=bx_vp hx;unfold suC sinC civ;generalize bxI x=q at*;obtain⟨⟨a0,a1,o0,o1⟩,r0,r1⟩:=k;obtain⟨l,r,c⟩:=x;obtain⟨q0,q1,q2,q3⟩:=q;have hc:=hk.vc;simp only[] at KB hc⊢;have bq:=vp_bd hq;have bp:=vp_bd hc.p;have br:=hc.h0;have br1:=hc.h1;have br2:=hc.h2;have KT:=fun W=>Triangle2_any a0 a1 o0 o1 r0 r1 q0 q1 q2 q3 W om_;have KS:=fun W=>Sine25_any (q0,q1) (a0,a1) (q2-o1,q3-o0) W so_ so_ so_;have KC:=fun W=>CosR_any r0 r1 W om_ om_ om_ om_;rw[show Trig.enLo (r0+5400000) (r1+5400000)=(Trig.csP (r0,r1)).1 from rfl,show Trig.enHi (r0+5400000) (r1+5400000)=(Trig.csP (r0,r1)).2 from rfl] at KC;clear hc hq bq bp br br1 br2 hk hx;generalize Trig.sinT (q0,q1) (a0,a1) (q2-o1,q3-o0)=s at*;generalize Trig.csP (r0,r1)=tr at*;obtain⟨t0,t1⟩:=tr;obtain⟨s0,s1⟩:=s;simp only[] at KS KC⊢;have KB:=hid KB;have KT:=hid KT;have KS:=hid KS;have KC:=hid KC;have XX:=hid ((Blk.new w 55 #[vi vk l,vi vk r,vi vk c]).alloc (.cells #[vi vk a0,vi vk a1,vi vk o0,vi vk o1,vi vk r0,vi vk r1] 33));have cc:=Blk.new (w.alloc (.cells #[vi vk l,vi vk r,vi vk c] 55)) 33 #[vi vk a0,vi vk a1,vi vk o0,vi vk o1,vi vk r0,vi vk r1];rw[World.size_alloc] at cc;have CC:=hid cc;have B0:=hid ((bl_alloc w (.cells #[vi vk l,vi vk r,vi vk c] 55)).alloc (by simp) (.cells #[vi vk a0,vi vk a1,vi vk o0,vi vk o1,vi vk r0,vi vk r1] 33));clear cc;obtain⟨b0,hb0⟩: ∃v,decide (t0≤s0)=v:=⟨_,rfl⟩;obtain⟨b1,hb1⟩: ∃v,decide (s1≤t1)=v:=⟨_,rfl⟩;rw[hb0,hb1];have HB0:=hid hb0;have HB1:=hid hb1;clear hb0 hb1;go_enter func135,ntmps135;go_upto_region 1 with (fail)
 generalize (w.alloc (.cells #[vi vk l,vi vk r,vi vk c] 55)).alloc (.cells #[vi vk a0,vi vk a1,vi vk o0,vi vk o1,vi vk r0,vi vk r1] 33)=w2 at XX CC B0⊢;refine wp_region_inv3 (by kernel_rfl) (SuI w2 (.agg #[vi vk a0,vi vk a1,vi vk o0,vi vk o1,vi vk r0,vi vk r1]) (.agg #[vi vk l,vi vk r,vi vk c]) (.agg #[vi vk q0,vi vk q1,vi vk q2,vi vk q3]) (.agg #[vi vk q0,vi vk q1,vi vk a0,vi vk a1,vi vk (q2-o1),vi vk (q3-o0)]) (.agg #[vi vk s0,vi vk s1]) (fun _=>((s0:Int),(s1:Int)))) (waits_bind (by kernel_rfl)) ?start ?step ?fin
 case start=>exact SuI.start w2 _ _ _ _ _ _ _
 case step=>
  rintro L i o a1' w' ho hL haf ⟨v7,v8,v9,v10,v11,v5,g,rfl,hT,e0,e1,e2,e3,e4,e5⟩
  have HT:=hid hT;clear hT;have E0:=hid e0;have E1:=hid e1;have E2:=hid e2;have E3:=hid e3;have E4:=hid e4;have E5:=hid e5;clear e0 e1 e2 e3 e4 e5;rcases i with _|_|_|_|_|_|_|i
  all_goals (simp at ho;try subst ho)
  all_goals (try simp[Region.binds] at haf)
  · have z9:=CC.out.below HT.out.bl CC.out.lt
    have k0:w'.cell? ⟨w.heap.size+1,0,none⟩=some (vi vk a0):=z9.cell 0;have k1:w'.cell? ⟨w.heap.size+1,1,none⟩=some (vi vk a1):=z9.cell 1;have k2:w'.cell? ⟨w.heap.size+1,2,none⟩=some (vi vk o0):=z9.cell 2;have k3:w'.cell? ⟨w.heap.size+1,3,none⟩=some (vi vk o1):=z9.cell 3;have k4:w'.cell? ⟨w.heap.size+1,4,none⟩=some (vi vk r0):=z9.cell 4;have k5:w'.cell? ⟨w.heap.size+1,5,none⟩=some (vi vk r1):=z9.cell 5;clear z9;go_wp2;unfold SuI;exact⟨(.agg #[vi vk a0,vi vk a1,vi vk o0,vi vk o1,vi vk r0,vi vk r1]),v8,v9,v10,v11,v5,g,puNc,HT.out.mark 0 dc_,rf_,kq E1,kq E2,kq E3,kq E4,kq E5⟩
  · have z9:=XX.out.below HT.out.bl XX.out.lt
    have k0:w'.cell? ⟨w.heap.size,0,none⟩=some (vi vk l):=z9.cell 0;have k1:w'.cell? ⟨w.heap.size,1,none⟩=some (vi vk r):=z9.cell 1;have k2:w'.cell? ⟨w.heap.size,2,none⟩=some (vi vk c):=z9.cell 2;clear z9;go_wp2;unfold SuI;exact⟨v7,(.agg #[vi vk l,vi vk r,vi vk c]),v9,v10,v11,v5,g,puNc,HT.out.mark 1 dc_,kq E0,rf_,kq E2,kq E3,kq E4,kq E5⟩
  · obtain rfl:=E1.out (by simp[haf])
    go_wp2_with fail;(with_reducible refine(KB.out _).mono ?_)
    rintro e w9 ⟨rfl,hb9⟩
    go_wp2;unfold SuI;exact⟨v7,(.agg #[vi vk l,vi vk r,vi vk c]),(.agg #[vi vk q0,vi vk q1,vi vk q2,vi vk q3]),v10,v11,v5,g,puNc,(HT.out.call hb9).mark 2 dc_,kq E0,rf_,rf_,kq E3,kq E4,kq E5⟩
  · obtain rfl:=E0.out (by simp[haf])
    obtain rfl:=E2.out (by simp[haf]);go_wp2_with fail;(with_reducible refine(KT.out _).mono ?_)
    rintro e w9 ⟨rfl,hb9⟩
    go_wp2;unfold SuI;exact⟨(.agg #[vi vk a0,vi vk a1,vi vk o0,vi vk o1,vi vk r0,vi vk r1]),v8,(.agg #[vi vk q0,vi vk q1,vi vk q2,vi vk q3]),(.agg #[vi vk q0,vi vk q1,vi vk a0,vi vk a1,vi vk (q2-o1),vi vk (q3-o0)]),v11,v5,g,puNc,(HT.out.call hb9).mark 3 dc_,rf_,kq E1,rf_,rf_,kq E4,kq E5⟩
  · obtain rfl:=E3.out (by simp[haf])
    go_wp2_with fail;(with_reducible refine(KS.out _).mono ?_)
    rintro e w9 ⟨rfl,hb9⟩
    go_wp2;unfold SuI;exact⟨v7,v8,v9,(.agg #[vi vk q0,vi vk q1,vi vk a0,vi vk a1,vi vk (q2-o1),vi vk (q3-o0)]),(.agg #[vi vk s0,vi vk s1]),v5,g,puNc,(HT.out.call hb9).mark 4 dc_,kq E0,kq E1,kq E2,rf_,rf_,kq E5⟩
  · go_wp2
    unfold SuI;exact⟨v7,v8,v9,v10,v11,(.pointer (some ⟨w'.heap.size,0,none⟩)),(fun j=>if j=0 then w'.heap.size else g j),puNc,HT.out.al 0 dc_ dc_ hL _,kq E0,kq E1,kq E2,kq E3,kq E4,rf_⟩
  · obtain rfl:=E5.out (by simp[haf])
    obtain rfl:=E4.out (by simp[haf]);have hA:L 5=true:=by simp[haf]
    obtain⟨zt,z0,z1,zf0,zf1⟩:=HT.out.z 0 dc_ hA hL;have HS:=hid (HT.out.st 0 dc_ dc_ hA hL rfl);go_wp2;unfold SuI;exact⟨v7,v8,v9,v10,(.agg #[vi vk s0,vi vk s1]),(.pointer (some ⟨g 0,0,none⟩)),g,puNc,HS.out,kq E0,kq E1,kq E2,kq E3,rf_,rf_⟩
 case fin=>
  rintro L a1' w3 hall ⟨v7,v8,v9,v10,v11,v5,g,rfl,hT,e0,e1,e2,e3,e4,e5⟩
  obtain rfl:=e0 (hall 0 dc_);obtain rfl:=e1 (hall 1 dc_);obtain rfl:=e2 (hall 2 dc_);obtain rfl:=e3 (hall 3 dc_);obtain rfl:=e4 (hall 4 dc_);obtain rfl:=e5 (hall 5 dc_);have D5:Hid (D2 w3 (g 0) s0 s1):=hid (hT.k 0 dc_ (hall 6 dc_));have C3:=hid (CC.out.below hT.bl CC.out.lt);have B3:=hid (B0.out.trans (hT.bl.mono B0.out.size));clear hT hall XX CC B0 KB KT KS;generalize g 0=g5 at*;clear g;have k4:w3.cell? ⟨w.heap.size+1,4,none⟩=some (vi vk r0):=C3.out.cell 4;have k5:w3.cell? ⟨w.heap.size+1,5,none⟩=some (vi vk r1):=C3.out.cell 5;go_wp2_with fail;(with_reducible refine(KC.out _).mono ?_)
  rintro e w4 ⟨rfl,hb4⟩
  have D4':=hid ((D5.out.below hb4 D5.out.lt).alloc (.cells #[vi vk t0,vi vk t1] 158));have b4:=B3.out.trans (hb4.mono B3.out.size);have B4:=hid (b4.alloc b4.size (.cells #[vi vk t0,vi vk t1] 158));clear hb4 b4 C3 B3 D5 k4 k5 KC;obtain⟨-,u0,u1,-,-⟩:=D4'.out;have hb0:=HB0.out;have hb1:=HB1.out;cases b0 with
  |false=>
   clear hb1;go_wp2;go_ret;exact⟨rfl,B4.out⟩
  |true=>
   cases b1 with
   |false=>
    go_wp2;go_ret;exact⟨rfl,B4.out⟩
   |true=>
    go_wp2;go_ret;exact⟨rfl,B4.out⟩
theorem fInside_any(x y:Int×Int)(w:World)(hx:fvB x.1 x.2=true)(hy:fvB y.1 y.2=true):Calls Tryz.prog 218 #[.agg #[vi vk x.1,vi vk x.2],.agg #[vi vk y.1,vi vk y.2]] w fun e w'=>e=.returned (.bool (decide (y.1≤x.1)&&decide (x.2≤y.2)))∧Below w.heap.size w w':=by
 obtain⟨x0,x1⟩:=x;obtain⟨y0,y1⟩:=y;simp only[] at hx hy⊢;have KB:=hid (fun W=>both_any x0 x1 y0 y1 W hx hy);have B0:=hid ((bl_alloc w (.cells #[vi vk x0,vi vk x1] 158)).alloc (by simp) (.cells #[vi vk y0,vi vk y1] 158));have X0:=hid ((D2.new w x0 x1 158).alloc (.cells #[vi vk y0,vi vk y1] 158));have dy:=D2.new (w.alloc (.cells #[vi vk x0,vi vk x1] 158)) y0 y1 158;rw[World.size_alloc] at dy;have Y0:=hid dy;obtain⟨b0,hb0⟩: ∃v,decide (y0≤x0)=v:=⟨_,rfl⟩;obtain⟨b1,hb1⟩: ∃v,decide (x1≤y1)=v:=⟨_,rfl⟩;rw[hb0,hb1];have HB0:=hid hb0;have HB1:=hid hb1;clear hb0 hb1 hx hy dy;go_enter func218,ntmps218;go_wp2_with fail;(with_reducible refine(KB.out _).mono ?_)
 rintro e w1 ⟨rfl,hb1⟩
 have B1:=hid (B0.out.trans (hb1.mono B0.out.size));obtain⟨-,u0,u1,-,-⟩:=X0.out.below hb1 X0.out.lt;obtain⟨-,u2,u3,-,-⟩:=Y0.out.below hb1 Y0.out.lt;clear hb1;have hb0:=HB0.out;have hb1:=HB1.out;cases b0 with
 |false=>
  clear hb1;go_wp2;go_ret;exact⟨rfl,B1.out⟩
 |true=>
  cases b1 with
  |false=>
   go_wp2;go_ret;exact⟨rfl,B1.out⟩
  |true=>
   go_wp2;go_ret;exact⟨rfl,B1.out⟩
theorem keepS_any(g:Nat)(lo hi:Int)(w:World)(h:Blk w g 36 #[vi vk 0]):
 Calls Tryz.prog 241 #[.agg #[vi vk lo,vi vk hi],vi vk 0,.pointer (some ⟨g,0,none⟩)] w fun e w'=>e=.returned (.agg #[vi vk lo,vi vk hi])∧Below w.heap.size w w':=by
 have hg:=h.lt;have c0:w.cell? ⟨g,0,none⟩=some (vi vk 0):=by rw[h.cell 0];rfl
 have f0:=h.frozen 0;have HB:=hid (bl_same (Below.refl w.heap.size w) h);clear h;go_enter func241,ntmps241;go_wp2;refine bodyPost_ret (v:=.agg #[vi vk lo,vi vk hi]) (by simp[results,results241,go_sem, *];done) rfl ⟨rfl,?_⟩;exact(HB.out.alloc HB.out.size _).alloc (by have:=HB.out.size;first|(simp;done)|(simp;omega)) _
structure XK(B:Nat)(v:Value)(W W':World):Prop where
 os:W'.os=W.os
 tape:W'.tape=W.tape
 output:W'.output=W.output
 size:W.heap.size≤W'.heap.size
 block: ∀k,k<W.heap.size→k≠B→v.ownBlock≠some k→W'.heap[k]? =W.heap[k]?
def Nx(W:World)(v v':Value):Prop:=v'.ownBlock=v.ownBlock∨ ∀k,v'.ownBlock=some k→W.heap.size≤k
theorem Nx.refl(W:World)(v:Value):Nx W v v:=.inl rfl
theorem XK.refl(B:Nat)(v:Value)(W:World):XK B v W W:=⟨rfl,rfl,rfl,Nat.le_refl _,fun _ _ _ _=>rfl⟩
theorem Nx.trans{W W1:World}{v v1 v2:Value}(h:Nx W v v1)(hs:W.heap.size≤W1.heap.size)(k:Nx W1 v1 v2):Nx W v v2:=by
 rcases k with k|k
 · rcases h with h|h
   · exact .inl (k.trans h)
   · exact .inr fun j hj=>h j (by rw[←k];exact hj)
 · exact .inr fun j hj=>Nat.le_trans hs (k j hj)
theorem XK.trans{B:Nat}{v v1:Value}{W W1 W2:World}(h:XK B v W W1)(n:Nx W v v1)(k:XK B v1 W1 W2):XK B v W W2:=
 ⟨k.os.trans h.os,k.tape.trans h.tape,k.output.trans h.output,Nat.le_trans h.size k.size,fun j hj hB hv=>by
   refine(k.block j (Nat.lt_of_lt_of_le hj h.size) hB ?_).trans (h.block j hj hB hv);rcases n with n|n
   · rw[n];exact hv
   · intro e;have:=n j e;omega⟩
theorem XK.of_below{B:Nat}{v:Value}{W W':World}(h:Below W.heap.size W W'):XK B v W W':=⟨h.os,h.tape,h.output,h.size,fun k hk _ _=>h.block k hk⟩
theorem XK.below{B n₀:Nat}{v:Value}{W W':World}(h:XK B v W W')(hB:n₀≤B)(hv: ∀k,v.ownBlock=some k→n₀≤k)(h0:n₀≤W.heap.size):Below n₀ W W':=
 ⟨h.os,h.tape,h.output,h.size,fun k hk=>h.block k om_ om_ (fun e=>by have:=hv k e;omega)⟩
theorem XK.grown{B:Nat}{v:Value}{W W1 W2:World}(h:XK B v W W1)(hg:W1.grownBy W2 v.ownBlock):XK B v W W2:=
 ⟨hg.os.trans h.os,hg.tape.trans h.tape,hg.output.trans h.output,Nat.le_trans h.size hg.size,fun k hk hB hv=>(hg.block k (Nat.lt_of_lt_of_le hk h.size) (fun e=>hv e.symm)).trans (h.block k hk hB hv)⟩
theorem XK.set{B:Nat}{v:Value}{W W1:World}(h:XK B v W W1)(u:Value):XK B v W (W1.setCell ⟨B,0,none⟩ u):=
 ⟨h.os,h.tape,h.output,by simpa [World.setCell] using h.size,fun k hk hB hv=>(Below.heap_setCell W1 _ _ k (fun e=>hB (by rw[e]))).trans (h.block k hk hB hv)⟩
theorem XK.blk{B:Nat}{v:Value}{W W':World}(h:XK B v W W'){g:Nat}{t:TypeId}{cs:Array Value}(hg:Blk W g t cs)(hB:g≠B)(hv:v.ownBlock≠some g):Blk W' g t cs:=(h.block g hg.lt hB hv).trans hg
theorem own_ltK{W:World}{base:Nat}{e:TypeId}{size n:Nat}{v:Value}{xs:List Value}(h:W.ownsRow base e size v n xs)(k:Nat)(hk:v.ownBlock=some k):k<W.heap.size:=by
 rcases h.2 with ⟨rfl,_⟩|⟨g,cap,cur,rfl,hg,hh,_⟩
 · simp[Value.ownBlock] at hk
 · simp[Value.ownBlock] at hk
   subst hk;exact(Array.getElem?_eq_some_iff.1 hh).1
theorem own_xk{B:Nat}{v u:Value}{W W':World}{base:Nat}{e:TypeId}{size n:Nat}{xs:List Value}(h:W.ownsRow base e size u n xs)(hx:XK B v W W')(hu: ∀k,u.ownBlock=some k→k≠B∧v.ownBlock≠some k):W'.ownsRow base e size u n xs:=by
 refine⟨h.1,?_⟩;rcases h.2 with h1|⟨g,cap,cur,rfl,hg,hh,hr⟩
 · exact .inl h1
 · obtain⟨u1,u2⟩:=hu g (by simp[Value.ownBlock])
   exact .inr ⟨g,cap,cur,rfl,hg,(hx.block g (Array.getElem?_eq_some_iff.1 hh).1 u1 u2).trans hh,hr⟩
structure St(n₀ B:Nat)(W:World)(v:Value)(L:List Cl):Prop where
 box:Boxed W B 44 v
 row:W.ownsRow n₀ 55 3 v L.length (cvs L)
theorem St.below{n₀ B:Nat}{W W':World}{v:Value}{L:List Cl}(h:St n₀ B W v L)(hb:Below W.heap.size W W'):St n₀ B W' v L:=
 ⟨(hb.block B h.box.lt).trans h.box,own_bl h.row hb (Nat.le_refl _)⟩
def Goes(n₀ B:Nat)(v:Value)(W:World)(L:List Cl)(W':World):Prop:= ∃v',St n₀ B W' v' L∧XK B v W W'∧Nx W v v'
theorem Goes.after{n₀ B:Nat}{v:Value}{W W1 W2:World}{L:List Cl}(hb:Below W.heap.size W W1)(h:Goes n₀ B v W1 L W2):Goes n₀ B v W L W2:=by
 obtain⟨v',st,xk,nx⟩:=h;exact⟨v',st,(XK.of_below hb).trans (Nx.refl _ _) xk,(Nx.refl _ _).trans hb.size nx⟩
theorem own_take3{W:World}{base:Nat}{e:TypeId}{size n g cap:Nat}{xs:List Value}(h:W.ownsRow base e size (.slice (some ⟨g,0,none⟩) n cap) n xs)(k:Nat)(hk:k≤n):W.ownsRow base e size (.slice (some ⟨g,0,none⟩) k cap) k (xs.take (k*size)):=by
 have h1:=h.1;have hm:k*size≤n*size:=Nat.mul_le_mul_right _ hk;refine⟨by rw[List.length_take];omega,?_⟩;rcases h.2 with ⟨e',_⟩|⟨g',cap',cur,e',hg,hh,h2,h3,h4,h5⟩
 · cases e'
 · cases e'
   refine .inr ⟨g,cap,cur,rfl,hg,hh,om_,h3,h4,?_⟩;rw[←h5,List.take_take,Nat.min_eq_left hm]
theorem cvs_take(L:List Cl)(k:Nat):(cvs L).take (k*3)=cvs (L.take k):=by
 induction L generalizing k with
 |nil=>simp[cvs]
 |cons x r ih=>
  cases k with
  |zero=>simp[cvs]
  |succ k=>
   have e:(k+1)*3=k*3+3:=by omega
   have hc:cvs (x::r)=vi vk x.1::vi vk x.2.1::vi vk x.2.2::cvs r:=rfl;have hd:cvs ((x::r).take (k+1))=vi vk x.1::vi vk x.2.1::vi vk x.2.2::cvs (r.take k):=rfl;rw[hc,hd,e];simp only[List.take_succ_cons];rw[ih]
theorem Reads.drop{W:World}{B n b off:Nat}{L:List Cl}(h:Reads W B 3 (some ⟨b,off,none⟩) n (cvs L))(k:Nat)(hk:k<n):Reads W B 3 (some ⟨b,off+k*3,none⟩) (n-k) (cvs (L.drop k)):=by
 have hl:L.length=n:=by have:=h.1;rw[cvs_length] at this;omega
 refine⟨by rw[cvs_length,List.length_drop,hl],fun _=>⟨_,rfl,?_,?_⟩⟩
 · obtain⟨ad,e,hb,_⟩:=h.2 om_
   cases e
   exact hb
 · obtain⟨ad,e,hb,hc⟩:=h.2 om_
   cases e
   intro j u hu;have hs:(cvs L).drop (k*3)=cvs (L.drop k):=by
    have h1:=List.take_append_drop (k*3) (cvs L);rw[cvs_take] at h1;have h2:cvs L=cvs (L.take k)++cvs (L.drop k):=by rw[←cvs_append,List.take_append_drop]
    have h3:(cvs (L.take k)).length=k*3:=by rw[cvs_length,List.length_take];omega
    rw[h2,←h3,List.drop_left]
   have:=hc (k*3+j) u (by rw[←List.getElem?_drop,hs];exact hu);rw[Go.WideShapes.add_plain] at this⊢;rw[←Nat.add_assoc] at this;exact this
end Go.Proofs.YtdeiofgddhbdaaaGreat
