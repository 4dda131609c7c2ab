/- Rows of circles: slices.Clone at circles, a circle appended behind a call, and two circles that change places. -/
import Derived.Test.YtdeiofgddhbdaaaGreatHCe
set_option linter.unusedSimpArgs false
set_option linter.unusedVariables false
set_option maxHeartbeats 4000000
set_option maxRecDepth 100000
open Go.RowKit
open Go.Lib (hid)
open Go.Proofs.Tryz
open Go.Value renaming int→vi
open Go.IntKind renaming i64→vk
namespace Go.Proofs.YtdeiofgddhbdaaaGreat
theorem puCi{p:Prop}(h:p:=by simp only[Act.put,List.setIfInBounds_toArray,List.set_cons_zero,List.set_cons_succ]):p:=h
theorem placeOf_yes(a b:Int)(w:World)(hv:vptB a b=true):Calls Tryz.prog 9 #[.agg #[vi vk a,vi vk b]] w fun e w'=>e=.returned (.tuple #[.agg #[vi vk a,vi vk a,vi vk b,vi vk b],vi vk 0])∧Below w.heap.size w w':=by
 have KV:=hid (fun W=>vpt_yes a b hv W);have T1:=hid ((Blk.new w 23 #[vi vk a,vi vk b]).alloc (.cells #[vi vk 0,vi vk 0,vi vk 0,vi vk 0] 40));have TR:Hid (Blk ((w.alloc (.cells #[vi vk a,vi vk b] 23)).alloc (.cells #[vi vk 0,vi vk 0,vi vk 0,vi vk 0] 40)) (w.heap.size+1) 40 #[vi vk 0,vi vk 0,vi vk 0,vi vk 0]):=hid (by
  have:=Blk.new (w.alloc (.cells #[vi vk a,vi vk b] 23)) 40 #[vi vk 0,vi vk 0,vi vk 0,vi vk 0];rwa [World.size_alloc] at this)
 have B0:=hid ((bl_alloc w (.cells #[vi vk a,vi vk b] 23)).alloc (by simp) (.cells #[vi vk 0,vi vk 0,vi vk 0,vi vk 0] 40));clear hv;go_enter func9,ntmps9;go_wp2_with fail;(with_reducible refine(KV.out _).mono ?_)
 rintro e w1 ⟨rfl,hb1⟩
 have P1:=hid (T1.out.below hb1 T1.out.lt);have R1:=hid (TR.out.below hb1 TR.out.lt);have B1:=hid (B0.out.trans (hb1.mono B0.out.size));clear hb1 T1 TR B0;have p0:w1.cell? ⟨w.heap.size,0,none⟩=some (vi vk a):=P1.out.cell 0;have p1:w1.cell? ⟨w.heap.size,1,none⟩=some (vi vk b):=P1.out.cell 1;have r0:=fun i=>R1.out.cell i;have f0:=fun i=>R1.out.frozen i;have rl:=R1.out.lt;have E4:=hid (blk4 R1.out (vi vk a) (vi vk a) (vi vk b) (vi vk b));have B4:=hid (bl_put4' (g:=w.heap.size+1) B1.out (Nat.le_succ _) (vi vk a) (vi vk a) (vi vk b) (vi vk b));go_wp2;generalize ((((w1.setCell ⟨w.heap.size+1,0,none⟩ (vi vk a)).setCell ⟨w.heap.size+1,1,none⟩ (vi vk a)).setCell ⟨w.heap.size+1,2,none⟩ (vi vk b)).setCell ⟨w.heap.size+1,3,none⟩ (vi vk b))=w5 at E4 B4⊢;have e0:=E4.out.cell 0;have e1:=E4.out.cell 1;have e2:=E4.out.cell 2;have e3:=E4.out.cell 3;simp at e0 e1 e2 e3;exact bodyPost_ret (v:=.tuple #[.agg #[vi vk a,vi vk a,vi vk b,vi vk b],vi vk 0]) (by simp[results,results9,go_sem,e0,e1,e2,e3]) rfl ⟨rfl,B4.out⟩
theorem blkL6{W:World}{g:Nat}{t:TypeId}{z0 z1 z2 z3 z4 z5:Value}(h:Blk W g t #[z0,z1,z2,z3,z4,z5])(u0 u1 u2 u3 u4 u5:Value):Blk ((((((W.setCell ⟨g,0,none⟩ u0).setCell ⟨g,1,none⟩ u1).setCell ⟨g,2,none⟩ u2).setCell ⟨g,3,none⟩ u3).setCell ⟨g,4,none⟩ u4).setCell ⟨g,5,none⟩ u5) g t #[u0,u1,u2,u3,u4,u5]:=by
 have:=((((((h.set_ 0 u0).set_ 1 u1).set_ 2 u2).set_ 3 u3).set_ 4 u4).set_ 5 u5);simp only[List.setIfInBounds_toArray,List.set_cons_zero,List.set_cons_succ] at this;exact this
theorem bl_put6'{B:Nat}{a W:World}{g:Nat}(h:Below B a W)(hg:B≤g)(u0 u1 u2 u3 u4 u5:Value):Below B a ((((((W.setCell ⟨g,0,none⟩ u0).setCell ⟨g,1,none⟩ u1).setCell ⟨g,2,none⟩ u2).setCell ⟨g,3,none⟩ u3).setCell ⟨g,4,none⟩ u4).setCell ⟨g,5,none⟩ u5):=
 (((((h.setCell hg u0).setCell hg u1).setCell hg u2).setCell hg u3).setCell hg u4).setCell hg u5
def TanR(a b i0 i1:Int)(e:Ending):Prop:= ∃z0 z1:Int,e=.returned (.tuple #[.agg #[vi vk a,vi vk b,vi vk z0,vi vk z1,vi vk i0,vi vk i1],vi vk 0])
def TgI(cc:Array Value)(W2:World)(x0 x1 x2 x3 x4 x5 x6 x7 x8 x9 x10 x11 x12:Value)(a:Act)(L:Nat→Bool)(a':Act)(w':World):Prop:=
 ∃(v37 v38 v39 v40 v41 v42 v43 v44 v45 v46 v47 v48 v49 v10:Value) (g:Nat),a'=((((((((((((((a.put (some 37) v37).put (some 38) v38).put (some 39) v39).put (some 40) v40).put (some 41) v41).put (some 42) v42).put (some 43) v43).put (some 44) v44).put (some 45) v45).put (some 46) v46).put (some 47) v47).put (some 48) v48).put (some 49) v49).put (some 10) v10)∧Below W2.heap.size W2 w'∧
  (L 13=true→v10=.pointer (some ⟨g,0,none⟩)∧W2.heap.size≤g)∧
  (L 13=true→L 14=false→Blk w' g 35 #[vi vk 0,vi vk 0,vi vk 0,vi vk 0,vi vk 0,vi vk 0])∧
  (L 14=true→Blk w' g 35 cc)∧
  (L 14=true→L 13=true)∧
  (L 0=true→v37=x0)∧
  (L 1=true→v38=x1)∧
  (L 2=true→v39=x2)∧
  (L 3=true→v40=x3)∧
  (L 4=true→v41=x4)∧
  (L 5=true→v42=x5)∧
  (L 6=true→v43=x6)∧
  (L 7=true→v44=x7)∧
  (L 8=true→v45=x8)∧
  (L 9=true→v46=x9)∧
  (L 10=true→v47=x10)∧
  (L 11=true→v48=x11)∧
  (L 12=true→v49=x12)
theorem TgI.start{cc:Array Value}{W2:World}{x0 x1 x2 x3 x4 x5 x6 x7 x8 x9 x10 x11 x12:Value}(a:Act):TgI cc W2 x0 x1 x2 x3 x4 x5 x6 x7 x8 x9 x10 x11 x12 a (fun _=>false) a W2.drew:=
 ⟨_,_,_,_,_,_,_,_,_,_,_,_,_,_,0,by rw[putQ_self a 37,putQ_self a 38,putQ_self a 39,putQ_self a 40,putQ_self a 41,putQ_self a 42,putQ_self a 43,putQ_self a 44,putQ_self a 45,putQ_self a 46,putQ_self a 47,putQ_self a 48,putQ_self a 49,putQ_self a 10],bl_drew (Below.refl _ _),nofun,nofun,nofun,nofun,nofun,nofun,nofun,nofun,nofun,nofun,nofun,nofun,nofun,nofun,nofun,nofun,nofun⟩
theorem tgq{L:Nat→Bool}{i j:Nat}{p:Prop}(E:Hid (L j=true→p))(hne:(j==i)=false:=by decide):mkd L i j=true→p:=fun h=>E.out (by rwa [mkd_ne (by simpa using hne)] at h)
theorem tgf{L:Nat→Bool}{i j:Nat}(h:mkd L i j=false):L j=false:=by
 unfold mkd at h;split at h
 · cases h
 · exact h
theorem tgt{L:Nat→Bool}{i j:Nat}(h:mkd L i j=true)(hne:(j==i)=false:=by decide):L j=true:=by rwa [mkd_ne (by simpa using hne)] at h
theorem tgm{L:Nat→Bool}{i j:Nat}(h:L j=true)(hne:(j==i)=false:=by decide):mkd L i j=true:=by rwa [mkd_ne (by simpa using hne)]
theorem Tangent_yes(a0 a1 o0 o1 r0 r1 a b:Int)(w:World)(hc:VC a0 a1 o0 o1 r0 r1)(hv:vptB a b=true):
 Calls Tryz.prog 8 #[.agg #[vi vk a0,vi vk a1,vi vk o0,vi vk o1,vi vk r0,vi vk r1],.agg #[vi vk a,vi vk b]] w fun e w'=>
  TanR a b (5400000+Trig.asnV (-(min (Trig.sinT (a,a) (a0,a1) (b-o1,b-o0)).2 1073741824))-r1) (5400000-Trig.asnV (max (Trig.sinT (a,a) (a0,a1) (b-o1,b-o0)).1 (-1073741824))-r0) e∧Below w.heap.size w w':=by
 have bp:=vp_bd hc.p;have bv:=vptB_true.1 hv;have hs1:=Trig.sinT_fv (a,a) (a0,a1) (b-o1,b-o0);have hs2:=Trig.sinT_meets (a,a) (a0,a1) (b-o1,b-o0);have hord:=Trig.asn_arc (s:=Trig.sinT (a,a) (a0,a1) (b-o1,b-o0)) hs1.2.1 hs2.1 hs2.2;have hb0:=Trig.asn_bd (max (Trig.sinT (a,a) (a0,a1) (b-o1,b-o0)).1 (-1073741824));have hb1:=Trig.asn_bd (-(min (Trig.sinT (a,a) (a0,a1) (b-o1,b-o0)).2 1073741824));have KS:=fun W=>Solve_yes (a,a) (a0,a1) (b-o1,b-o0) W ⟨so_,so_,so_⟩ ⟨so_,so_,so_⟩ (avB_true.2 so_) hs2.1 hs2.2;have KT:=fun W=>ctri_any a0 a1 o0 o1 r0 r1 a a b b W om_;have KP:=hid (fun W=>placeOf_yes a b W hv);have KV:=hid (fun W=>cirValid_yes a0 a1 o0 o1 r0 r1 W hc);obtain⟨h0,hh0⟩: ∃x,Trig.asnV (max (Trig.sinT (a,a) (a0,a1) (b-o1,b-o0)).1 (-1073741824))=x:=⟨_,rfl⟩;obtain⟨h1,hh1⟩: ∃x,-Trig.asnV (-(min (Trig.sinT (a,a) (a0,a1) (b-o1,b-o0)).2 1073741824))=x:=⟨_,rfl⟩;rw[hh0,hh1] at KS;rw[hh0] at hord hb0;rw[hh1] at hord;have hi1:5400000+Trig.asnV (-(min (Trig.sinT (a,a) (a0,a1) (b-o1,b-o0)).2 1073741824))-r1=5400000-h1-r1:=by omega
 rw[hi1,hh0];have hbh: -5400000≤h1∧h1≤5400000:=by omega
 have hr0:=hc.h0;have hr1:=hc.h1;have hr2:=hc.h2;have L1:=fun(g:Nat) (W:World) h=>kless_any g (5400000,5400000) (h0,h1) W ⟨so_,so_,so_⟩ ⟨so_,so_,so_⟩ h;have L2:=fun(g:Nat) (W:World) h=>kless_any g (5400000-h1,5400000-h0) (r0,r1) W ⟨so_,so_,so_⟩ ⟨so_,so_,so_⟩ h;simp only[subP] at L1 L2;simp only[] at KS;clear hi1 hh0 hh1 hs1 hs2 hb0 hb1 hord hbh hr0 hr1 hr2 bv bp hc hv;obtain⟨i0,hi0⟩: ∃x,5400000-h1-r1=x:=⟨_,rfl⟩;obtain⟨i1,hi1⟩: ∃x,5400000-h0-r0=x:=⟨_,rfl⟩;obtain⟨j0,hj0⟩: ∃x,5400000-h1=x:=⟨_,rfl⟩;obtain⟨j1,hj1⟩: ∃x,5400000-h0=x:=⟨_,rfl⟩;rw[hi0,hi1];rw[hj0,hj1] at L1 L2;rw[hj0] at hi0;rw[hj1] at hi1;rw[show j0-r1=i0 from by omega,show j1-r0=i1 from by omega] at L2;clear hi0 hi1 hj0 hj1;have KS:=hid KS;have KT:=hid KT;have L1:=hid L1;have L2:=hid L2;have KR:=hid right_any;have cc:=((Blk.new w 33 #[vi vk a0,vi vk a1,vi vk o0,vi vk o1,vi vk r0,vi vk r1]).alloc (.cells #[vi vk a,vi vk b] 23)).alloc (.cells #[vi vk 0,vi vk 0,vi vk 0,vi vk 0,vi vk 0,vi vk 0] 35);have pp:=(Blk.new (w.alloc (.cells #[vi vk a0,vi vk a1,vi vk o0,vi vk o1,vi vk r0,vi vk r1] 33)) 23 #[vi vk a,vi vk b]).alloc (.cells #[vi vk 0,vi vk 0,vi vk 0,vi vk 0,vi vk 0,vi vk 0] 35);have ll:=Blk.new ((w.alloc (.cells #[vi vk a0,vi vk a1,vi vk o0,vi vk o1,vi vk r0,vi vk r1] 33)).alloc (.cells #[vi vk a,vi vk b] 23)) 35 #[vi vk 0,vi vk 0,vi vk 0,vi vk 0,vi vk 0,vi vk 0];rw[World.size_alloc] at pp;rw[World.size_alloc,World.size_alloc] at ll;have C0:=hid cc;have P0:=hid pp;have R0:=hid ll;have B0:=hid (((bl_alloc w (.cells #[vi vk a0,vi vk a1,vi vk o0,vi vk o1,vi vk r0,vi vk r1] 33)).alloc (by simp) (.cells #[vi vk a,vi vk b] 23)).alloc (by simp;omega) (.cells #[vi vk 0,vi vk 0,vi vk 0,vi vk 0,vi vk 0,vi vk 0] 35));clear cc pp ll;go_enter func8,ntmps8;go_upto_region 1 with (fail)
 generalize ((w.alloc (.cells #[vi vk a0,vi vk a1,vi vk o0,vi vk o1,vi vk r0,vi vk r1] 33)).alloc (.cells #[vi vk a,vi vk b] 23)).alloc (.cells #[vi vk 0,vi vk 0,vi vk 0,vi vk 0,vi vk 0,vi vk 0] 35)=wa at C0 P0 R0 B0⊢;have p0:wa.cell? ⟨w.heap.size+1,0,none⟩=some (vi vk a):=P0.out.cell 0;have p1:wa.cell? ⟨w.heap.size+1,1,none⟩=some (vi vk b):=P0.out.cell 1;go_wp2_with fail;(with_reducible refine(KP.out _).mono ?_)
 rintro e w1 ⟨rfl,hb1⟩
 have hb1a:=hb1.alloc hb1.size (.cells #[vi vk a,vi vk a,vi vk b,vi vk b] 40);have C1:=hid (C0.out.below hb1a C0.out.lt);have P1:=hid (P0.out.below hb1a P0.out.lt);have R1:=hid (R0.out.below hb1a R0.out.lt);have B1:=hid (B0.out.trans (hb1a.mono B0.out.size));have Q1:=hid (Blk.new w1 40 #[vi vk a,vi vk a,vi vk b,vi vk b]);have hg1:w.heap.size+1+1<w1.heap.size:=(R0.out.below hb1 R0.out.lt).lt;clear hb1 hb1a C0 P0 R0 B0 p0 p1 KP;go_upto_region 2 with (fail)
 generalize w1.alloc (.cells #[vi vk a,vi vk a,vi vk b,vi vk b] 40)=wb at C1 P1 R1 B1 Q1⊢;generalize w1.heap.size=gq at Q1 hg1⊢;have k0:wb.cell? ⟨w.heap.size,0,none⟩=some (vi vk a0):=C1.out.cell 0;have k1:wb.cell? ⟨w.heap.size,1,none⟩=some (vi vk a1):=C1.out.cell 1;have k2:wb.cell? ⟨w.heap.size,2,none⟩=some (vi vk o0):=C1.out.cell 2;have k3:wb.cell? ⟨w.heap.size,3,none⟩=some (vi vk o1):=C1.out.cell 3;have k4:wb.cell? ⟨w.heap.size,4,none⟩=some (vi vk r0):=C1.out.cell 4;have k5:wb.cell? ⟨w.heap.size,5,none⟩=some (vi vk r1):=C1.out.cell 5;go_wp2_with fail;(with_reducible refine(KV.out _).mono ?_)
 rintro e w2 ⟨rfl,hb2⟩
 have C2:=hid (C1.out.below hb2 C1.out.lt);have P2:=hid (P1.out.below hb2 P1.out.lt);have R2:=hid (R1.out.below hb2 R1.out.lt);have Q2:=hid (Q1.out.below hb2 Q1.out.lt);have B2:=hid (B1.out.trans (hb2.mono B1.out.size));clear hb2 C1 P1 R1 Q1 B1 k0 k1 k2 k3 k4 k5 KV;have k0:w2.cell? ⟨w.heap.size,0,none⟩=some (vi vk a0):=C2.out.cell 0;have k1:w2.cell? ⟨w.heap.size,1,none⟩=some (vi vk a1):=C2.out.cell 1;have k2:w2.cell? ⟨w.heap.size,2,none⟩=some (vi vk o0):=C2.out.cell 2;have k3:w2.cell? ⟨w.heap.size,3,none⟩=some (vi vk o1):=C2.out.cell 3;have k4:w2.cell? ⟨w.heap.size,4,none⟩=some (vi vk r0):=C2.out.cell 4;have k5:w2.cell? ⟨w.heap.size,5,none⟩=some (vi vk r1):=C2.out.cell 5;have q0:w2.cell? ⟨gq,0,none⟩=some (vi vk a):=Q2.out.cell 0;have q1:w2.cell? ⟨gq,1,none⟩=some (vi vk a):=Q2.out.cell 1;have q2:w2.cell? ⟨gq,2,none⟩=some (vi vk b):=Q2.out.cell 2;have q3:w2.cell? ⟨gq,3,none⟩=some (vi vk b):=Q2.out.cell 3;go_wp2_with fail;(with_reducible refine(KT.out _).mono ?_)
 rintro e w3 ⟨rfl,hb3⟩
 have C3:=hid (C2.out.below hb3 C2.out.lt);have P3:=hid (P2.out.below hb3 P2.out.lt);have R3:=hid (R2.out.below hb3 R2.out.lt);have B3:=hid (B2.out.trans (hb3.mono B2.out.size));clear hb3 C2 P2 R2 Q2 B2 k0 k1 k2 k3 k4 k5 q0 q1 q2 q3 KT;go_wp2_with fail;(with_reducible refine(KS.out _).mono ?_)
 rintro e w4 ⟨⟨z0,z1,rfl,-,-,-,-⟩,hb4⟩
 have hb4a:=hb4.alloc hb4.size (.cells #[vi vk h0,vi vk h1,vi vk z0,vi vk z1] 62);have hb4b:=hb4a.alloc hb4a.size (.cells #[vi vk 0] 70);have X1:=hid (C3.out.below hb4b C3.out.lt);have XP:=hid (P3.out.below hb4b P3.out.lt);have R4:=hid (R3.out.below hb4b R3.out.lt);have B4:=hid (B3.out.trans (hb4b.mono B3.out.size));have XS:=hid ((Blk.new w4 62 #[vi vk h0,vi vk h1,vi vk z0,vi vk z1]).alloc (.cells #[vi vk 0] 70));have hh:=Blk.new (w4.alloc (.cells #[vi vk h0,vi vk h1,vi vk z0,vi vk z1] 62)) 70 #[vi vk 0];rw[World.size_alloc] at hh;have HC:=hid hh;have hg4:w.heap.size+1+1<w4.heap.size:=(R3.out.below hb4 R3.out.lt).lt;clear hb4 hb4a hb4b hh C3 P3 R3 B3 KS;go_upto_region 8 with (fail)
 generalize (w4.alloc (.cells #[vi vk h0,vi vk h1,vi vk z0,vi vk z1] 62)).alloc (.cells #[vi vk 0] 70)=W2 at X1 XP R4 B4 XS HC⊢;generalize w4.heap.size=gs at XS HC hg4⊢;have hl:=HC.out.lt;refine wp_region_inv3 (by kernel_rfl) (TgI #[vi vk a,vi vk b,vi vk z0,vi vk z1,vi vk i0,vi vk i1] W2 (.agg #[vi vk a,vi vk b]) (.pointer (some ⟨gs,2,none⟩)) (.agg #[vi vk z0,vi vk z1]) (.pointer (some ⟨gs+1,0,none⟩)) (.pointer (some ⟨gs+1,0,none⟩)) (.agg #[vi vk 5400000,vi vk 5400000]) (.pointer (some ⟨gs,0,none⟩)) (.agg #[vi vk h0,vi vk h1]) (.agg #[vi vk j0,vi vk j1]) (.pointer (some ⟨w.heap.size,4,none⟩)) (.agg #[vi vk r0,vi vk r1]) (.agg #[vi vk i0,vi vk i1]) (.agg #[vi vk a,vi vk b,vi vk z0,vi vk z1,vi vk i0,vi vk i1])) (waits_bind (by kernel_rfl)) ?start ?step ?fin
 case start=>exact TgI.start _
 case step=>
  rintro L io o a1' w' ho hL haf ⟨v37,v38,v39,v40,v41,v42,v43,v44,v45,v46,v47,v48,v49,v10,g,rfl,hb,h1,h2,h3,h4,e0,e1,e2,e3,e4,e5,e6,e7,e8,e9,e10,e11,e12⟩
  have HB:=hid hb;have H1:=hid h1;have H2:=hid h2;have H3:=hid h3;have H4:=hid h4;have E0:=hid e0;have E1:=hid e1;have E2:=hid e2;have E3:=hid e3;have E4:=hid e4;have E5:=hid e5;have E6:=hid e6;have E7:=hid e7;have E8:=hid e8;have E9:=hid e9;have E10:=hid e10;have E11:=hid e11;have E12:=hid e12;clear hb h1 h2 h3 h4 e0 e1 e2 e3 e4 e5 e6 e7 e8 e9 e10 e11 e12;rcases io with _|_|_|_|_|_|_|_|_|_|_|_|_|_|_|io
  all_goals (simp at ho;try subst ho)
  all_goals (try simp[Region.binds] at haf)
  · have z9:=XP.out.below HB.out XP.out.lt
    have k0:w'.cell? ⟨w.heap.size+1,0,none⟩=some (vi vk a):=z9.cell 0;have k1:w'.cell? ⟨w.heap.size+1,1,none⟩=some (vi vk b):=z9.cell 1;clear z9;go_wp2;unfold TgI;exact⟨(.agg #[vi vk a,vi vk b]),v38,v39,v40,v41,v42,v43,v44,v45,v46,v47,v48,v49,v10,g,puCi,HB.out,tgq H1,fun h k=>H2.out (tgt h) (tgf k),fun h=>H3.out (tgt h),fun h=>tgm (H4.out (tgt h)),fun _=>rfl,tgq E1,tgq E2,tgq E3,tgq E4,tgq E5,tgq E6,tgq E7,tgq E8,tgq E9,tgq E10,tgq E11,tgq E12⟩
  · go_wp2
    unfold TgI;exact⟨v37,(.pointer (some ⟨gs,2,none⟩)),v39,v40,v41,v42,v43,v44,v45,v46,v47,v48,v49,v10,g,puCi,HB.out,tgq H1,fun h k=>H2.out (tgt h) (tgf k),fun h=>H3.out (tgt h),fun h=>tgm (H4.out (tgt h)),tgq E0,fun _=>rfl,tgq E2,tgq E3,tgq E4,tgq E5,tgq E6,tgq E7,tgq E8,tgq E9,tgq E10,tgq E11,tgq E12⟩
  · have z9:=XS.out.below HB.out XS.out.lt
    have k2:w'.cell? ⟨gs,2,none⟩=some (vi vk z0):=z9.cell 2;have k3:w'.cell? ⟨gs,3,none⟩=some (vi vk z1):=z9.cell 3;clear z9;obtain rfl:=(E1.out (by simp[haf])).symm;go_wp2;unfold TgI;exact⟨v37,(.pointer (some ⟨gs,2,none⟩)),(.agg #[vi vk z0,vi vk z1]),v40,v41,v42,v43,v44,v45,v46,v47,v48,v49,v10,g,puCi,HB.out,tgq H1,fun h k=>H2.out (tgt h) (tgf k),fun h=>H3.out (tgt h),fun h=>tgm (H4.out (tgt h)),tgq E0,fun _=>rfl,fun _=>rfl,tgq E3,tgq E4,tgq E5,tgq E6,tgq E7,tgq E8,tgq E9,tgq E10,tgq E11,tgq E12⟩
  · go_wp2
    unfold TgI;exact⟨v37,v38,v39,(.pointer (some ⟨gs+1,0,none⟩)),v41,v42,v43,v44,v45,v46,v47,v48,v49,v10,g,puCi,HB.out,tgq H1,fun h k=>H2.out (tgt h) (tgf k),fun h=>H3.out (tgt h),fun h=>tgm (H4.out (tgt h)),tgq E0,tgq E1,tgq E2,fun _=>rfl,tgq E4,tgq E5,tgq E6,tgq E7,tgq E8,tgq E9,tgq E10,tgq E11,tgq E12⟩
  · go_wp2
    unfold TgI;exact⟨v37,v38,v39,v40,(.pointer (some ⟨gs+1,0,none⟩)),v42,v43,v44,v45,v46,v47,v48,v49,v10,g,puCi,HB.out,tgq H1,fun h k=>H2.out (tgt h) (tgf k),fun h=>H3.out (tgt h),fun h=>tgm (H4.out (tgt h)),tgq E0,tgq E1,tgq E2,tgq E3,fun _=>rfl,tgq E5,tgq E6,tgq E7,tgq E8,tgq E9,tgq E10,tgq E11,tgq E12⟩
  · go_wp2_with fail
    (with_reducible refine(KR.out _).mono ?_)
    rintro e w9 ⟨rfl,hb9⟩
    have HB9:=hid hb9;clear hb9;go_wp2;unfold TgI;exact⟨v37,v38,v39,v40,v41,(.agg #[vi vk 5400000,vi vk 5400000]),v43,v44,v45,v46,v47,v48,v49,v10,g,puCi,HB.out.trans (HB9.out.mono HB.out.size),tgq H1,fun h k=>(H2.out (tgt h) (tgf k)).below HB9.out (H2.out (tgt h) (tgf k)).lt,fun h=>(H3.out (tgt h)).below HB9.out (H3.out (tgt h)).lt,fun h=>tgm (H4.out (tgt h)),tgq E0,tgq E1,tgq E2,tgq E3,tgq E4,fun _=>rfl,tgq E6,tgq E7,tgq E8,tgq E9,tgq E10,tgq E11,tgq E12⟩
  · go_wp2
    unfold TgI;exact⟨v37,v38,v39,v40,v41,v42,(.pointer (some ⟨gs,0,none⟩)),v44,v45,v46,v47,v48,v49,v10,g,puCi,HB.out,tgq H1,fun h k=>H2.out (tgt h) (tgf k),fun h=>H3.out (tgt h),fun h=>tgm (H4.out (tgt h)),tgq E0,tgq E1,tgq E2,tgq E3,tgq E4,tgq E5,fun _=>rfl,tgq E7,tgq E8,tgq E9,tgq E10,tgq E11,tgq E12⟩
  · have z9:=XS.out.below HB.out XS.out.lt
    have k0:w'.cell? ⟨gs,0,none⟩=some (vi vk h0):=z9.cell 0;have k1:w'.cell? ⟨gs,1,none⟩=some (vi vk h1):=z9.cell 1;clear z9;obtain rfl:=(E6.out (by simp[haf])).symm;go_wp2;unfold TgI;exact⟨v37,v38,v39,v40,v41,v42,(.pointer (some ⟨gs,0,none⟩)),(.agg #[vi vk h0,vi vk h1]),v45,v46,v47,v48,v49,v10,g,puCi,HB.out,tgq H1,fun h k=>H2.out (tgt h) (tgf k),fun h=>H3.out (tgt h),fun h=>tgm (H4.out (tgt h)),tgq E0,tgq E1,tgq E2,tgq E3,tgq E4,tgq E5,fun _=>rfl,fun _=>rfl,tgq E8,tgq E9,tgq E10,tgq E11,tgq E12⟩
  · obtain rfl:=(E4.out (by simp[haf])).symm
    obtain rfl:=(E5.out (by simp[haf])).symm;obtain rfl:=(E7.out (by simp[haf])).symm;go_wp2_with fail;(with_reducible refine(L1.out _ _ (HC.out.below HB.out HC.out.lt)).mono ?_)
    rintro e w9 ⟨rfl,hb9⟩
    have HB9:=hid hb9;clear hb9;go_wp2;unfold TgI;exact⟨v37,v38,v39,v40,(.pointer (some ⟨gs+1,0,none⟩)),(.agg #[vi vk 5400000,vi vk 5400000]),v43,(.agg #[vi vk h0,vi vk h1]),(.agg #[vi vk j0,vi vk j1]),v46,v47,v48,v49,v10,g,puCi,HB.out.trans (HB9.out.mono HB.out.size),tgq H1,fun h k=>(H2.out (tgt h) (tgf k)).below HB9.out (H2.out (tgt h) (tgf k)).lt,fun h=>(H3.out (tgt h)).below HB9.out (H3.out (tgt h)).lt,fun h=>tgm (H4.out (tgt h)),tgq E0,tgq E1,tgq E2,tgq E3,fun _=>rfl,fun _=>rfl,tgq E6,fun _=>rfl,fun _=>rfl,tgq E9,tgq E10,tgq E11,tgq E12⟩
  · go_wp2
    unfold TgI;exact⟨v37,v38,v39,v40,v41,v42,v43,v44,v45,(.pointer (some ⟨w.heap.size,4,none⟩)),v47,v48,v49,v10,g,puCi,HB.out,tgq H1,fun h k=>H2.out (tgt h) (tgf k),fun h=>H3.out (tgt h),fun h=>tgm (H4.out (tgt h)),tgq E0,tgq E1,tgq E2,tgq E3,tgq E4,tgq E5,tgq E6,tgq E7,tgq E8,fun _=>rfl,tgq E10,tgq E11,tgq E12⟩
  · have z9:=X1.out.below HB.out X1.out.lt
    have k4:w'.cell? ⟨w.heap.size,4,none⟩=some (vi vk r0):=z9.cell 4;have k5:w'.cell? ⟨w.heap.size,5,none⟩=some (vi vk r1):=z9.cell 5;clear z9;obtain rfl:=(E9.out (by simp[haf])).symm;go_wp2;unfold TgI;exact⟨v37,v38,v39,v40,v41,v42,v43,v44,v45,(.pointer (some ⟨w.heap.size,4,none⟩)),(.agg #[vi vk r0,vi vk r1]),v48,v49,v10,g,puCi,HB.out,tgq H1,fun h k=>H2.out (tgt h) (tgf k),fun h=>H3.out (tgt h),fun h=>tgm (H4.out (tgt h)),tgq E0,tgq E1,tgq E2,tgq E3,tgq E4,tgq E5,tgq E6,tgq E7,tgq E8,fun _=>rfl,fun _=>rfl,tgq E11,tgq E12⟩
  · obtain rfl:=(E3.out (by simp[haf])).symm
    obtain rfl:=(E8.out (by simp[haf])).symm;obtain rfl:=(E10.out (by simp[haf])).symm;go_wp2_with fail;(with_reducible refine(L2.out _ _ (HC.out.below HB.out HC.out.lt)).mono ?_)
    rintro e w9 ⟨rfl,hb9⟩
    have HB9:=hid hb9;clear hb9;go_wp2;unfold TgI;exact⟨v37,v38,v39,(.pointer (some ⟨gs+1,0,none⟩)),v41,v42,v43,v44,(.agg #[vi vk j0,vi vk j1]),v46,(.agg #[vi vk r0,vi vk r1]),(.agg #[vi vk i0,vi vk i1]),v49,v10,g,puCi,HB.out.trans (HB9.out.mono HB.out.size),tgq H1,fun h k=>(H2.out (tgt h) (tgf k)).below HB9.out (H2.out (tgt h) (tgf k)).lt,fun h=>(H3.out (tgt h)).below HB9.out (H3.out (tgt h)).lt,fun h=>tgm (H4.out (tgt h)),tgq E0,tgq E1,tgq E2,fun _=>rfl,tgq E4,tgq E5,tgq E6,tgq E7,fun _=>rfl,tgq E9,fun _=>rfl,fun _=>rfl,tgq E12⟩
  · obtain rfl:=(E0.out (by simp[haf])).symm
    obtain rfl:=(E2.out (by simp[haf])).symm;obtain rfl:=(E11.out (by simp[haf])).symm;go_wp2;unfold TgI;exact⟨(.agg #[vi vk a,vi vk b]),v38,(.agg #[vi vk z0,vi vk z1]),v40,v41,v42,v43,v44,v45,v46,v47,(.agg #[vi vk i0,vi vk i1]),(.agg #[vi vk a,vi vk b,vi vk z0,vi vk z1,vi vk i0,vi vk i1]),v10,g,puCi,HB.out,tgq H1,fun h k=>H2.out (tgt h) (tgf k),fun h=>H3.out (tgt h),fun h=>tgm (H4.out (tgt h)),fun _=>rfl,tgq E1,fun _=>rfl,tgq E3,tgq E4,tgq E5,tgq E6,tgq E7,tgq E8,tgq E9,tgq E10,fun _=>rfl,fun _=>rfl⟩
  · have hL4:L 14=false:=by
     cases q:L 14 with
     |false=>rfl
     |true=>rw[H4.out q] at hL;cases hL
    have NB:=hid (Blk.new w' 35 #[vi vk 0,vi vk 0,vi vk 0,vi vk 0,vi vk 0,vi vk 0]);have NH:=hid (HB.out.alloc HB.out.size (.cells #[vi vk 0,vi vk 0,vi vk 0,vi vk 0,vi vk 0,vi vk 0] 35));have hz:=HB.out.size;go_wp2;unfold TgI;exact⟨v37,v38,v39,v40,v41,v42,v43,v44,v45,v46,v47,v48,v49,(.pointer (some ⟨w'.heap.size,0,none⟩)),w'.heap.size,puCi,NH.out,fun _=>⟨rfl,hz⟩,fun _ _=>NB.out,fun h=>(by rw[tgt h] at hL4;cases hL4),fun _=>mkd_same _ _,tgq E0,tgq E1,tgq E2,tgq E3,tgq E4,tgq E5,tgq E6,tgq E7,tgq E8,tgq E9,tgq E10,tgq E11,tgq E12⟩
  · obtain rfl:=(E12.out (by simp[haf])).symm
    obtain⟨rfl,hg⟩:=H1.out (by simp[haf]);have RB:=H2.out (by simp[haf]) hL;have fz: ∀j,w'.frozen? ⟨g,j,none⟩=false:=fun j=>RB.frozen j;have gl:=RB.lt;have z0':w'.cell? ⟨g,0,none⟩=some (vi vk 0):=RB.cell 0;have z1':w'.cell? ⟨g,1,none⟩=some (vi vk 0):=RB.cell 1;have z2':w'.cell? ⟨g,2,none⟩=some (vi vk 0):=RB.cell 2;have z3':w'.cell? ⟨g,3,none⟩=some (vi vk 0):=RB.cell 3;have z4':w'.cell? ⟨g,4,none⟩=some (vi vk 0):=RB.cell 4;have z5':w'.cell? ⟨g,5,none⟩=some (vi vk 0):=RB.cell 5;have HX:=hid (blkL6 RB (vi vk a) (vi vk b) (vi vk z0) (vi vk z1) (vi vk i0) (vi vk i1));have HY:=hid (bl_put6' HB.out hg (vi vk a) (vi vk b) (vi vk z0) (vi vk z1) (vi vk i0) (vi vk i1));clear RB;have hL3:L 13=true:=by simp[haf]
    go_wp2;unfold TgI;exact⟨v37,v38,v39,v40,v41,v42,v43,v44,v45,v46,v47,v48,(.agg #[vi vk a,vi vk b,vi vk z0,vi vk z1,vi vk i0,vi vk i1]),(.pointer (some ⟨g,0,none⟩)),g,puCi,HY.out,fun _=>⟨rfl,hg⟩,fun _ h=>(by rw[mkd_same] at h;cases h),fun _=>HX.out,fun _=>tgm hL3,tgq E0,tgq E1,tgq E2,tgq E3,tgq E4,tgq E5,tgq E6,tgq E7,tgq E8,tgq E9,tgq E10,tgq E11,fun _=>rfl⟩
 case fin=>
  rintro L a1' w5 hall ⟨v37,v38,v39,v40,v41,v42,v43,v44,v45,v46,v47,v48,v49,v10,g,rfl,hb,h1,h2,h3,h4,e0,e1,e2,e3,e4,e5,e6,e7,e8,e9,e10,e11,e12⟩
  obtain rfl:=(e0 (hall 0 dc_)).symm;obtain rfl:=(e1 (hall 1 dc_)).symm;obtain rfl:=(e2 (hall 2 dc_)).symm;obtain rfl:=(e3 (hall 3 dc_)).symm;obtain rfl:=(e4 (hall 4 dc_)).symm;obtain rfl:=(e5 (hall 5 dc_)).symm;obtain rfl:=(e6 (hall 6 dc_)).symm;obtain rfl:=(e7 (hall 7 dc_)).symm;obtain rfl:=(e8 (hall 8 dc_)).symm;obtain rfl:=(e9 (hall 9 dc_)).symm;obtain rfl:=(e10 (hall 10 dc_)).symm;obtain rfl:=(e11 (hall 11 dc_)).symm;obtain rfl:=(e12 (hall 12 dc_)).symm;obtain⟨rfl,hg9⟩:=h1 (hall 13 dc_);have hD:=h3 (hall 14 dc_);have hC:=HC.out.below hb HC.out.lt;have hR:=R4.out.below hb R4.out.lt;have hB:=B4.out.trans (hb.mono B4.out.size);clear hb h1 h2 h3 h4 hall hg9;generalize g=q at hD⊢;have c0:w5.cell? ⟨gs+1,0,none⟩=some (vi vk 0):=hC.cell 0;have cl:=hC.lt;have d0:w5.cell? ⟨q,0,none⟩=some (vi vk a):=hD.cell 0;have d1:w5.cell? ⟨q,1,none⟩=some (vi vk b):=hD.cell 1;have d2:w5.cell? ⟨q,2,none⟩=some (vi vk z0):=hD.cell 2;have d3:w5.cell? ⟨q,3,none⟩=some (vi vk z1):=hD.cell 3;have d4:w5.cell? ⟨q,4,none⟩=some (vi vk i0):=hD.cell 4;have d5:w5.cell? ⟨q,5,none⟩=some (vi vk i1):=hD.cell 5;have s0:w5.cell? ⟨w.heap.size+1+1,0,none⟩=some (vi vk 0):=hR.cell 0;have s1:w5.cell? ⟨w.heap.size+1+1,1,none⟩=some (vi vk 0):=hR.cell 1;have s2:w5.cell? ⟨w.heap.size+1+1,2,none⟩=some (vi vk 0):=hR.cell 2;have s3:w5.cell? ⟨w.heap.size+1+1,3,none⟩=some (vi vk 0):=hR.cell 3;have s4:w5.cell? ⟨w.heap.size+1+1,4,none⟩=some (vi vk 0):=hR.cell 4;have s5:w5.cell? ⟨w.heap.size+1+1,5,none⟩=some (vi vk 0):=hR.cell 5;have fz: ∀j,w5.frozen? ⟨w.heap.size+1+1,j,none⟩=false:=fun j=>hR.frozen j;have sl:=hR.lt;have E6:=hid (blkL6 hR (vi vk a) (vi vk b) (vi vk z0) (vi vk z1) (vi vk i0) (vi vk i1));have B6:=hid (bl_put6' (g:=w.heap.size+1+1) hB om_ (vi vk a) (vi vk b) (vi vk z0) (vi vk z1) (vi vk i0) (vi vk i1));clear X1 XP XS R4 B4 HC L1 L2 KR hD hC hR hB;go_wp2;generalize ((((((w5.setCell ⟨w.heap.size+1+1,0,none⟩ (vi vk a)).setCell ⟨w.heap.size+1+1,1,none⟩ (vi vk b)).setCell ⟨w.heap.size+1+1,2,none⟩ (vi vk z0)).setCell ⟨w.heap.size+1+1,3,none⟩ (vi vk z1)).setCell ⟨w.heap.size+1+1,4,none⟩ (vi vk i0)).setCell ⟨w.heap.size+1+1,5,none⟩ (vi vk i1))=w6 at E6 B6⊢;have e0:=E6.out.cell 0;have e1:=E6.out.cell 1;have e2:=E6.out.cell 2;have e3:=E6.out.cell 3;have e4:=E6.out.cell 4;have e5:=E6.out.cell 5;simp at e0 e1 e2 e3 e4 e5;exact bodyPost_ret (v:=.tuple #[.agg #[vi vk a,vi vk b,vi vk z0,vi vk z1,vi vk i0,vi vk i1],vi vk 0]) (by simp[results,results8,go_sem,e0,e1,e2,e3,e4,e5]) rfl ⟨⟨_,_,rfl⟩,B6.out⟩
theorem ex_vl:Vl ((0:Int),(0:Int),(1:Int)):=(vl_iff _).1 dc_
theorem ex_box:bxI ((0:Int),(0:Int),(1:Int))=(-5400000,5400000,0,10800000):=by decide
theorem ex_fS:(fS [((0:Int),(10800000:Int))] 1).1=(0,10800000):=by decide
theorem Bounds_ex(A:Option Addr)(c:Nat)(w:World)(hr:Reads w w.heap.size 3 A 1 (cvs [((0:Int),(0:Int),(1:Int))])):
 Calls Tryz.prog 16 #[.slice A 1 c] w fun e w'=>e=.returned (.tuple #[.agg #[vi vk (-5400000),vi vk 5400000,vi vk 0,vi vk 10800000],vi vk 0])∧Below w.heap.size w w':=by
 have KB:=hid (fun W (hW:Below w.heap.size w W)=>boxes_any A 1 c [((0:Int),(0:Int),(1:Int))] W ((hr.below hW).more hW.size) dc_);rw[one_vr ex_vl] at KB;simp only[if_true,List.map_cons,List.map_nil,ex_box] at KB;have KF:=hid (fun(W:World) (A:Option Addr) (c:Nat) (h:Reads W W.heap.size 4 A 1 (bv (-5400000,5400000,0,10800000)))=>fbounds_one A c (-5400000) 5400000 0 10800000 W h (by intro x hx;obtain rfl:=List.mem_singleton.1 hx;decide));rw[ex_fS] at KF;clear hr;have B0:=hid (bl_alloc w (.cells #[vi vk 0,vi vk 0,vi vk 0,vi vk 0] 40));have Z0:=hid (K4.new w 0 0 0 0 40);go_enter func16,ntmps16;go_wp2_with fail;(with_reducible refine(KB.out _ B0.out).mono ?_)
 rintro e w1 ⟨v,rfl,hown,hb1⟩
 obtain⟨A1,c1,rfl,ra,-,-⟩:=own_form hown;have RA:Hid (Reads w1 w1.heap.size 4 A1 1 (bv (-5400000,5400000,0,10800000))):=hid (by simpa [bvs,bv] using ra);have Z1:=hid (Z0.out.below hb1 Z0.out.lt);have B1:=hid (B0.out.trans (hb1.mono B0.out.size));clear hown hb1 ra Z0 B0 KB;simp only[List.length_cons,List.length_nil];go_wp2_with fail;(with_reducible refine(KF.out _ _ _ RA.out).mono ?_)
 rintro e w2 ⟨rfl,hb2⟩
 have B2:=hid (B1.out.trans (hb2.mono B1.out.size));obtain⟨zt,z0,z1,z2,z3,zf0,zf1,zf2,zf3⟩:=Z1.out.below hb2 Z1.out.lt;go_wp2;refine bodyPost_ret (v:=.tuple #[.agg #[vi vk (-5400000),vi vk 5400000,vi vk 0,vi vk 10800000],vi vk 0]) (by simp[results,results16,go_sem, *];done) rfl ⟨rfl,?_⟩;exact bl_put4 B2.out (Nat.le_refl _)
theorem Center_ex(A:Option Addr)(c:Nat)(w:World)(hr:Reads w w.heap.size 3 A 1 (cvs [((0:Int),(0:Int),(1:Int))])):
 Calls Tryz.prog 17 #[.slice A 1 c] w fun e w'=>e=.returned (.tuple #[.agg #[vi vk 0,vi vk 5400000],vi vk 0])∧Below w.heap.size w w':=by
 have KB:=hid (fun W (hW:Below w.heap.size w W)=>Bounds_ex A c W ((hr.below hW).more hW.size));have ks:=fun W=>SignedA_any 5400000 W dc_ dc_;rw[show sgA 5400000=5400000 by decide] at ks;have KS:=hid ks;clear ks;clear hr;have B0:=hid (bl_alloc w (.cells #[vi vk 0,vi vk 0] 23));have Z0:=hid (K2.new w 0 0 23);go_enter func17,ntmps17;go_wp2_with fail;(with_reducible refine(KB.out _ B0.out).mono ?_)
 rintro e w1 ⟨rfl,hb1⟩
 have Z1:=hid ((Z0.out.below hb1 Z0.out.lt).alloc (.cells #[vi vk (-5400000),vi vk 5400000,vi vk 0,vi vk 10800000] 40));have hz1:=hb1.size;have B1:=hid ((B0.out.trans (hb1.mono B0.out.size)).alloc (by have:=B0.out.size;omega) (.cells #[vi vk (-5400000),vi vk 5400000,vi vk 0,vi vk 10800000] 40));have P1:=hid (K4.new w1 (-5400000) 5400000 0 10800000 40);go_upto_region 4 with (fail)
 obtain⟨W1,hW1⟩: ∃W1,w1.alloc (.cells #[vi vk (-5400000),vi vk 5400000,vi vk 0,vi vk 10800000] 40)=W1:=⟨_,rfl⟩;rw[hW1] at Z1 B1 P1⊢;have hlt0:w.heap.size<w1.heap.size:=by have:=B0.out.size;have:=Z0.out.lt;omega
 clear hW1 Z0 B0 KB hb1 hz1;generalize w1.heap.size=ga at*;have hn1: ¬w.heap.size=ga:=by omega
 have hn2: ¬ga=w.heap.size:=by omega
 obtain⟨pt,p0,p1,p2,p3,-,-,-,-⟩:=P1.out;have hw:IntKind.i64.wrap 10800000=10800000:=by decide
 have hw0:IntKind.i64.wrap 0=0:=by decide
 go_region_held3 (fun w'=>w'.cell? ⟨ga,0,none⟩=some (vi vk (-5400000))∧w'.cell? ⟨ga,1,none⟩=some (vi vk 5400000)∧w'.cell? ⟨ga,2,none⟩=some (vi vk 0)∧w'.cell? ⟨ga,3,none⟩=some (vi vk 10800000)) (simp[*]) (first
  |(go_at_call 41;(with_reducible refine(KS.out _).mono ?_);rintro e w9 ⟨rfl,hb9⟩;have P9:=P1.out.drew.below hb9 (by simpa using P1.out.lt);have Z9:=Z1.out.below ((bl_drew (Below.refl _ _)).trans hb9) (by simpa using Z1.out.lt);have B9:=hid (B1.out.trans (((bl_drew (Below.refl _ _)).trans hb9).mono (by simpa using B1.out.size)));obtain⟨pt9,p09,p19,p29,p39,-,-,-,-⟩:=P9;obtain⟨zt9,z09,z19,zf09,zf19⟩:=Z9;have e9:=fun(i:Nat) (u v:Value)=>(World.cell?_setCell_other (w9.setCell ⟨w.heap.size,0,none⟩ u) ⟨w.heap.size,1,none⟩ ⟨ga,i,none⟩ v (fun e=>hn1 (by injection e))).trans (World.cell?_setCell_other w9 ⟨w.heap.size,0,none⟩ ⟨ga,i,none⟩ u (fun e=>hn1 (by injection e))))
  |fail)
 go_wp2;refine bodyPost_ret (v:=.tuple #[.agg #[vi vk 0,vi vk 5400000],vi vk 0]) (by simp[results,results17,go_sem, *];done) rfl ⟨rfl,?_⟩;exact(B9.out.setCell (by simp) _).setCell (by simp) _
theorem equalInPt(a b a' b':Int)(w:World):(Op.equalIn 10000 23 (.agg #[vi vk a,vi vk b]) (.agg #[vi vk a',vi vk b'])).run Tryz.prog w=.ok (aeq a b a' b') w:=by
 have u3:=underlying3;have a3:=Tryz.isAgg3;have z3:=Tryz.sizeOf3;have hS:Tryz.prog.underlying 23=some (.struct (Tryz.prog.fieldsOf 23)):=by kernel_rfl
 have hp:Tryz.prog.stoodInHeld 23=false:=by kernel_rfl
 rw[show(10000:Nat)=9999+1 from rfl,run_equalIn_agg w 9999 23 _ _ hS hp];simp only[Program.fieldsOf,underlying23];go_simp
 by_cases h1:a=a'<;>by_cases h2:b=b'<;>simp[aeq,h1,h2]
theorem eqlPt(a b a' b':Int)(w:World):(binOp .eql 23 (.agg #[vi vk a,vi vk b]) (.agg #[vi vk a',vi vk b'])).run Tryz.prog w=.ok (.bool (aeq a b a' b')) w:=by
 rw[run_eql_struct,equalInPt];rfl
theorem awake40(w:World):Calls Tryz.prog 4 #[] w fun e w'=>e=.returned (.bool true)∧Below w.heap.size w w':=by
 have hq:=eqlPlace;have hq2:=eqlPt;have k1:peq (-5400000) 5400000 0 10800000 (-5400000) 5400000 0 10800000=true:=by decide
 have k2:aeq 0 5400000 0 5400000=true:=by decide
 have B0:=hid (bl_alloc w (.cells #[vi vk 0,vi vk 0,vi vk 1] 55));have R0:=hid (reads_new3 w 0 0 1 55 (w.heap.size+1) om_);have KB:=hid (fun(W:World) (hW:Below (w.heap.size+1) (w.alloc (.cells #[vi vk 0,vi vk 0,vi vk 1] 55)) W)=>Bounds_ex (some ⟨w.heap.size,0,none⟩) 1 W ((R0.out.below hW).more (by have:=hW.size;simpa using this)));have KC:=hid (fun(W:World) (hW:Below (w.heap.size+1) (w.alloc (.cells #[vi vk 0,vi vk 0,vi vk 1] 55)) W)=>Center_ex (some ⟨w.heap.size,0,none⟩) 1 W ((R0.out.below hW).more (by have:=hW.size;simpa using this)));have hs0:(w.alloc (.cells #[vi vk 0,vi vk 0,vi vk 1] 55)).heap.size=w.heap.size+1:=by simp
 have HS0:=hid hs0;clear hs0;go_enter func4,ntmps4;go_wp2_with fail;(with_reducible refine(KB.out _ (Below.refl _ _)).mono ?_)
 rintro e w1 ⟨rfl,hb1⟩
 have P1:=hid (K4.new w1 (-5400000) 5400000 0 10800000 40);have hb1':=hb1.mono (show w.heap.size+1≤_ from Nat.le_of_eq HS0.out.symm);have hz1:=hb1'.size;have C1:=hid (hb1'.alloc (by rw[HS0.out] at hz1;exact hz1) (.cells #[vi vk (-5400000),vi vk 5400000,vi vk 0,vi vk 10800000] 40));clear hb1 hb1' hz1 KB;go_wp2_with fail;(with_reducible refine(KC.out _ C1.out).mono ?_)
 rintro e w2 ⟨rfl,hb2⟩
 have P2:=P1.out.below hb2 (by simp);have C2:=hid (B0.out.trans ((C1.out.trans (hb2.mono (by have:=C1.out.size;rw[HS0.out] at this;exact this))).mono (Nat.le_succ _)));obtain⟨pt,p0,p1,p2,p3,-,-,-,-⟩:=P2.alloc (.cells #[vi vk 0,vi vk 5400000] 23);clear KC hb2 P1 C1 R0 P2;go_wp2;go_ret;exact⟨ret_bool (by simp),C2.out.alloc C2.out.size _⟩
theorem Tryz.infoCircle:(Tryz.prog.info? 33).map (fun i=>(i.zero,i.size,i.bytes))=some (some (.agg #[vi vk 0,vi vk 0,vi vk 0,vi vk 0,vi vk 0,vi vk 0]),6,48):=by kernel_rfl
theorem civs_one(L:List Ci): ∀u∈civs L,u.oneCell'=true:=by
 intro u hu;obtain⟨x,-,hx⟩:=List.mem_flatMap.1 hu;exact civl_one x u hx
def set6(l:List Value)(o:Nat)(x:Ci):List Value:=(((((l.set o (vi vk x.1.1)).set (o+1) (vi vk x.1.2.1)).set (o+2) (vi vk x.1.2.2.1)).set (o+3) (vi vk x.1.2.2.2)).set (o+4) (vi vk x.2.1)).set (o+5) (vi vk x.2.2)
theorem circ_reads{w:World}{g:Nat}{x:Ci}(h:Blk w g 33 (civl x).toArray):Reads w w.heap.size 6 (some ⟨g,0,none⟩) 1 (civs [x]):=by
 refine⟨rfl,fun _=>⟨_,rfl,h.lt,fun j u hu=>?_⟩⟩;have hj:j<6:=by
  have:=(List.getElem?_eq_some_iff.1 hu).1;simpa [civs,civl] using this
 have e:civs [x]=civl x:=by simp[civs]
 rw[e] at hu;rw[Go.WideShapes.add_plain,Nat.zero_add,h.cell];simpa using hu
end Go.Proofs.YtdeiofgddhbdaaaGreat
