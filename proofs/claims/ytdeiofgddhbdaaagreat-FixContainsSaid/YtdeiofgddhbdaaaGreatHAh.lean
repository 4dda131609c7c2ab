/- A region that draws its order, each operation looked at once: an invariant over the set of the operations that have been done. -/
import Derived.Laws.StructEq
import Derived.Orders
import Derived.Test.YtdeiofgddhbdaaaGreatHVi
set_option linter.unusedSimpArgs false
set_option linter.unusedVariables false
set_option maxHeartbeats 4000000
set_option maxRecDepth 100000
open Go.RowKit
open Go.Lib (hid)
open Go.Proofs.Tryz
open Go.Value renaming int→vi
open Go.IntKind renaming i64→vk
namespace Go.Proofs.YtdeiofgddhbdaaaGreat
theorem bl_same{B:Nat}{a w:World}{g:Nat}{t:TypeId}{u:Value}(hb:Below B a w)(h:Blk w g t #[u]):Below B a (w.setCell ⟨g,0,none⟩ u):=by
 have e:(w.setCell ⟨g,0,none⟩ u).heap=w.heap:=by
  unfold Blk at h;have hlt:g<w.heap.size:=by
   rcases Nat.lt_or_ge g w.heap.size with q|q
   · exact q
   · rw[Array.getElem?_eq_none q] at h;cases h
  apply Array.ext_getElem?;intro i;show(w.heap.modify g _)[i]? =w.heap[i]?
  by_cases hi:i=g
  · subst hi
    simp[Array.getElem?_modify,h]
  · simp[Array.getElem?_modify,show¬g=i from fun e=>hi e.symm]
 exact⟨hb.os,hb.tape,hb.output,by rw[e];exact hb.size,fun k hk=>by rw[e];exact hb.block k hk⟩
theorem keep_any(g:Nat)(lo hi:Int)(w:World)(h:Blk w g 157 #[vi vk 0]):
 Calls Tryz.prog 168 #[.pointer (some ⟨g,0,none⟩),.agg #[vi vk lo,vi vk hi],vi vk 0] w fun e w'=>e=.returned (.agg #[vi vk lo,vi vk hi])∧Below w.heap.size w w':=by
 have hg:=h.lt;have h1:=(h.alloc (.cells #[vi vk lo,vi vk hi] 158)).alloc (.cells #[vi vk 0,vi vk 0] 158);have c0:w.cell? ⟨g,0,none⟩=some (vi vk 0):=by rw[h.cell 0];rfl
 have f0:=h.frozen 0;have H:=hid h;have HB:=hid (bl_same (Below.refl w.heap.size w) h);clear h h1;go_enter func168,ntmps168;go_wp2;refine bodyPost_ret (v:=.agg #[vi vk lo,vi vk hi]) (by simp[results,results168,go_sem, *];done) rfl ⟨rfl,?_⟩;exact(HB.out.alloc HB.out.size _).alloc (by have:=HB.out.size;first|(simp;done)|(simp;omega)) _
theorem mul_yes(x y:Int×Int)(hx:Trig.Small x)(hy:Trig.Small y)(W:World):Calls Tryz.prog 170 #[.agg #[vi vk x.1,vi vk x.2],.agg #[vi vk y.1,vi vk y.2]] W fun e w'=>e=.returned (.tuple #[.agg #[vi vk (Trig.mulP x y).1,vi vk (Trig.mulP x y).2],vi vk 0])∧Below W.heap.size W w':=by
 rw[←fit_small (Trig.mulP_small hx hy)];exact fMul_any x.1 x.2 y.1 y.2 W (small_fv hx) (small_fv hy)
theorem add_yes(x y:Int×Int)(hx:Trig.Small x)(hy:Trig.Small y)(W:World):Calls Tryz.prog 169 #[.agg #[vi vk x.1,vi vk x.2],.agg #[vi vk y.1,vi vk y.2]] W fun e w'=>e=.returned (.tuple #[.agg #[vi vk (Trig.addP x y).1,vi vk (Trig.addP x y).2],vi vk 0])∧Below W.heap.size W w':=by
 rw[←fit_add hx hy];exact fAdd_any x.1 x.2 y.1 y.2 W (small_fv hx) (small_fv hy)
theorem sin_yes(a:Int×Int)(h:avB a.1 a.2=true)(W:World):Calls Tryz.prog 199 #[.agg #[vi vk a.1,vi vk a.2]] W fun e w'=>e=.returned (.tuple #[.agg #[vi vk (Trig.snP a).1,vi vk (Trig.snP a).2],vi vk 0])∧Below W.heap.size W w':=Sin_yes a.1 a.2 W h
theorem cos_yes(a:Int×Int)(h:avB a.1 a.2=true)(W:World):Calls Tryz.prog 200 #[.agg #[vi vk a.1,vi vk a.2]] W fun e w'=>e=.returned (.tuple #[.agg #[vi vk (Trig.csP a).1,vi vk (Trig.csP a).2],vi vk 0])∧Below W.heap.size W w':=Cos_yes a.1 a.2 W h
theorem csin_any(g:Nat)(a:Int×Int)(w:World)(ha:avB a.1 a.2=true)(h:Blk w g 157 #[vi vk 0]):
 Calls Tryz.prog 166 #[.pointer (some ⟨g,0,none⟩),.agg #[vi vk a.1,vi vk a.2]] w fun e w'=>e=.returned (.agg #[vi vk (Trig.snP a).1,vi vk (Trig.snP a).2])∧Below w.heap.size w w':=by
 have KS:=hid (fun W=>sin_yes a ha W);have KK:=hid (fun(lo hi:Int) (W:World) (h:Blk W g 157 #[vi vk 0])=>keep_any g lo hi W h);obtain⟨⟨s0,s1⟩,hs⟩: ∃z,(Trig.snP a)=z:=⟨_,rfl⟩;rw[hs] at KS⊢;simp only[] at KS⊢;clear hs;have hg:=h.lt;have H0:=hid ((h.alloc (.cells #[vi vk a.1,vi vk a.2] 31)).alloc (.cells #[vi vk 0,vi vk 0] 158));have T0:Hid (D2 ((w.alloc (.cells #[vi vk a.1,vi vk a.2] 31)).alloc (.cells #[vi vk 0,vi vk 0] 158)) (w.heap.size+1) 0 0):=hid (by
  have:=D2.new (w.alloc (.cells #[vi vk a.1,vi vk a.2] 31)) 0 0 158;rwa [World.size_alloc] at this)
 have B0:=hid ((bl_alloc w (.cells #[vi vk a.1,vi vk a.2] 31)).alloc (by simp) (.cells #[vi vk 0,vi vk 0] 158));clear h;go_enter func166,ntmps166;go_wp2_with fail;(with_reducible refine(KS.out _).mono ?_)
 rintro e w1 ⟨rfl,hb1⟩
 have H1:=hid (H0.out.below hb1 H0.out.lt);have T1:=hid (T0.out.below hb1 T0.out.lt);have B1:=hid (B0.out.trans (hb1.mono B0.out.size));clear hb1 H0 T0 B0;go_wp2_with fail;(with_reducible refine(KK.out _ _ _ H1.out).mono ?_)
 rintro e w2 ⟨rfl,hb2⟩
 have T2:=hid (T1.out.below hb2 T1.out.lt);have B2:=hid (B1.out.trans (hb2.mono B1.out.size));obtain⟨zt,z0,z1,zf0,zf1⟩:=T2.out;go_wp2;refine bodyPost_ret (v:=.agg #[vi vk s0,vi vk s1]) (by simp[results,results166,go_sem, *];done) rfl ⟨rfl,?_⟩;exact(B2.out.setCell so_ _).setCell so_ _
theorem ccos_any(g:Nat)(a:Int×Int)(w:World)(ha:avB a.1 a.2=true)(h:Blk w g 157 #[vi vk 0]):
 Calls Tryz.prog 167 #[.pointer (some ⟨g,0,none⟩),.agg #[vi vk a.1,vi vk a.2]] w fun e w'=>e=.returned (.agg #[vi vk (Trig.csP a).1,vi vk (Trig.csP a).2])∧Below w.heap.size w w':=by
 have KS:=hid (fun W=>cos_yes a ha W);have KK:=hid (fun(lo hi:Int) (W:World) (h:Blk W g 157 #[vi vk 0])=>keep_any g lo hi W h);obtain⟨⟨s0,s1⟩,hs⟩: ∃z,(Trig.csP a)=z:=⟨_,rfl⟩;rw[hs] at KS⊢;simp only[] at KS⊢;clear hs;have hg:=h.lt;have H0:=hid ((h.alloc (.cells #[vi vk a.1,vi vk a.2] 31)).alloc (.cells #[vi vk 0,vi vk 0] 158));have T0:Hid (D2 ((w.alloc (.cells #[vi vk a.1,vi vk a.2] 31)).alloc (.cells #[vi vk 0,vi vk 0] 158)) (w.heap.size+1) 0 0):=hid (by
  have:=D2.new (w.alloc (.cells #[vi vk a.1,vi vk a.2] 31)) 0 0 158;rwa [World.size_alloc] at this)
 have B0:=hid ((bl_alloc w (.cells #[vi vk a.1,vi vk a.2] 31)).alloc (by simp) (.cells #[vi vk 0,vi vk 0] 158));clear h;go_enter func167,ntmps167;go_wp2_with fail;(with_reducible refine(KS.out _).mono ?_)
 rintro e w1 ⟨rfl,hb1⟩
 have H1:=hid (H0.out.below hb1 H0.out.lt);have T1:=hid (T0.out.below hb1 T0.out.lt);have B1:=hid (B0.out.trans (hb1.mono B0.out.size));clear hb1 H0 T0 B0;go_wp2_with fail;(with_reducible refine(KK.out _ _ _ H1.out).mono ?_)
 rintro e w2 ⟨rfl,hb2⟩
 have T2:=hid (T1.out.below hb2 T1.out.lt);have B2:=hid (B1.out.trans (hb2.mono B1.out.size));obtain⟨zt,z0,z1,zf0,zf1⟩:=T2.out;go_wp2;refine bodyPost_ret (v:=.agg #[vi vk s0,vi vk s1]) (by simp[results,results167,go_sem, *];done) rfl ⟨rfl,?_⟩;exact(B2.out.setCell so_ _).setCell so_ _
theorem cmul_any(g:Nat)(x y:Int×Int)(w:World)(hx:Trig.Small x)(hy:Trig.Small y)(h:Blk w g 157 #[vi vk 0]):
 Calls Tryz.prog 119 #[.pointer (some ⟨g,0,none⟩),.agg #[vi vk x.1,vi vk x.2],.agg #[vi vk y.1,vi vk y.2]] w fun e w'=>e=.returned (.agg #[vi vk (Trig.mulP x y).1,vi vk (Trig.mulP x y).2])∧Below w.heap.size w w':=by
 have KS:=hid (fun W=>mul_yes x y hx hy W);have KK:=hid (fun(lo hi:Int) (W:World) (h:Blk W g 157 #[vi vk 0])=>keep_any g lo hi W h);obtain⟨⟨s0,s1⟩,hs⟩: ∃z,(Trig.mulP x y)=z:=⟨_,rfl⟩;rw[hs] at KS⊢;simp only[] at KS⊢;clear hs;have hg:=h.lt;have H0:=hid (((h.alloc (.cells #[vi vk x.1,vi vk x.2] 158)).alloc (.cells #[vi vk y.1,vi vk y.2] 158)).alloc (.cells #[vi vk 0,vi vk 0] 158));have T0:Hid (D2 (((w.alloc (.cells #[vi vk x.1,vi vk x.2] 158)).alloc (.cells #[vi vk y.1,vi vk y.2] 158)).alloc (.cells #[vi vk 0,vi vk 0] 158)) (w.heap.size+1+1) 0 0):=hid (by
  have:=D2.new ((w.alloc (.cells #[vi vk x.1,vi vk x.2] 158)).alloc (.cells #[vi vk y.1,vi vk y.2] 158)) 0 0 158;rwa [World.size_alloc,World.size_alloc] at this)
 have B0:=hid (((bl_alloc w (.cells #[vi vk x.1,vi vk x.2] 158)).alloc (by simp) (.cells #[vi vk y.1,vi vk y.2] 158)).alloc (by simp;omega) (.cells #[vi vk 0,vi vk 0] 158));clear h;go_enter func119,ntmps119;go_wp2_with fail;(with_reducible refine(KS.out _).mono ?_)
 rintro e w1 ⟨rfl,hb1⟩
 have H1:=hid (H0.out.below hb1 H0.out.lt);have T1:=hid (T0.out.below hb1 T0.out.lt);have B1:=hid (B0.out.trans (hb1.mono B0.out.size));clear hb1 H0 T0 B0;go_wp2_with fail;(with_reducible refine(KK.out _ _ _ H1.out).mono ?_)
 rintro e w2 ⟨rfl,hb2⟩
 have T2:=hid (T1.out.below hb2 T1.out.lt);have B2:=hid (B1.out.trans (hb2.mono B1.out.size));obtain⟨zt,z0,z1,zf0,zf1⟩:=T2.out;go_wp2;refine bodyPost_ret (v:=.agg #[vi vk s0,vi vk s1]) (by simp[results,results119,go_sem, *];done) rfl ⟨rfl,?_⟩;exact(B2.out.setCell so_ _).setCell so_ _
theorem cadd_any(g:Nat)(x y:Int×Int)(w:World)(hx:Trig.Small x)(hy:Trig.Small y)(h:Blk w g 157 #[vi vk 0]):
 Calls Tryz.prog 118 #[.pointer (some ⟨g,0,none⟩),.agg #[vi vk x.1,vi vk x.2],.agg #[vi vk y.1,vi vk y.2]] w fun e w'=>e=.returned (.agg #[vi vk (Trig.addP x y).1,vi vk (Trig.addP x y).2])∧Below w.heap.size w w':=by
 have KS:=hid (fun W=>add_yes x y hx hy W);have KK:=hid (fun(lo hi:Int) (W:World) (h:Blk W g 157 #[vi vk 0])=>keep_any g lo hi W h);obtain⟨⟨s0,s1⟩,hs⟩: ∃z,(Trig.addP x y)=z:=⟨_,rfl⟩;rw[hs] at KS⊢;simp only[] at KS⊢;clear hs;have hg:=h.lt;have H0:=hid (((h.alloc (.cells #[vi vk x.1,vi vk x.2] 158)).alloc (.cells #[vi vk y.1,vi vk y.2] 158)).alloc (.cells #[vi vk 0,vi vk 0] 158));have T0:Hid (D2 (((w.alloc (.cells #[vi vk x.1,vi vk x.2] 158)).alloc (.cells #[vi vk y.1,vi vk y.2] 158)).alloc (.cells #[vi vk 0,vi vk 0] 158)) (w.heap.size+1+1) 0 0):=hid (by
  have:=D2.new ((w.alloc (.cells #[vi vk x.1,vi vk x.2] 158)).alloc (.cells #[vi vk y.1,vi vk y.2] 158)) 0 0 158;rwa [World.size_alloc,World.size_alloc] at this)
 have B0:=hid (((bl_alloc w (.cells #[vi vk x.1,vi vk x.2] 158)).alloc (by simp) (.cells #[vi vk y.1,vi vk y.2] 158)).alloc (by simp;omega) (.cells #[vi vk 0,vi vk 0] 158));clear h;go_enter func118,ntmps118;go_wp2_with fail;(with_reducible refine(KS.out _).mono ?_)
 rintro e w1 ⟨rfl,hb1⟩
 have H1:=hid (H0.out.below hb1 H0.out.lt);have T1:=hid (T0.out.below hb1 T0.out.lt);have B1:=hid (B0.out.trans (hb1.mono B0.out.size));clear hb1 H0 T0 B0;go_wp2_with fail;(with_reducible refine(KK.out _ _ _ H1.out).mono ?_)
 rintro e w2 ⟨rfl,hb2⟩
 have T2:=hid (T1.out.below hb2 T1.out.lt);have B2:=hid (B1.out.trans (hb2.mono B1.out.size));obtain⟨zt,z0,z1,zf0,zf1⟩:=T2.out;go_wp2;refine bodyPost_ret (v:=.agg #[vi vk s0,vi vk s1]) (by simp[results,results118,go_sem, *];done) rfl ⟨rfl,?_⟩;exact(B2.out.setCell so_ _).setCell so_ _
theorem ret_bool{a b:Bool}(h:a=b):Ending.returned (.bool a)=.returned (.bool b):=by rw[h]
def ceq(x y:Cl):Bool:=decide (x=y)
theorem ceq_true{x y:Cl}:ceq x y=true↔x=y:=by simp[ceq]
theorem ceq_false{x y:Cl}:ceq x y=false↔x≠y:=by simp[ceq]
abbrev cva(x:Cl):Value:=.agg #[vi vk x.1,vi vk x.2.1,vi vk x.2.2]
theorem equalInCell(a b c a' b' c':Int)(w:World):(Op.equalIn 10000 55 (.agg #[vi vk a,vi vk b,vi vk c]) (.agg #[vi vk a',vi vk b',vi vk c'])).run Tryz.prog w=.ok (ceq (a,b,c) (a',b',c')) w:=by
 have u3:=underlying3;have a3:=Tryz.isAgg3;have z3:=Tryz.sizeOf3;have hS:Tryz.prog.underlying 55=some (.struct (Tryz.prog.fieldsOf 55)):=by kernel_rfl
 have hp:Tryz.prog.stoodInHeld 55=false:=by kernel_rfl
 rw[show(10000:Nat)=9999+1 from rfl,run_equalIn_agg w 9999 55 _ _ hS hp];simp only[Program.fieldsOf,underlying55];go_simp
 by_cases h1:a=a'<;>by_cases h2:b=b'<;>by_cases h3:c=c'<;>simp[ceq,h1,h2,h3]
theorem neqCell(a b c a' b' c':Int)(w:World):(binOp .neq 55 (.agg #[vi vk a,vi vk b,vi vk c]) (.agg #[vi vk a',vi vk b',vi vk c'])).run Tryz.prog w=.ok (.bool (!(ceq (a,b,c) (a',b',c')))) w:=by
 rw[run_neq_struct,equalInCell];rfl
theorem eqlCell(a b c a' b' c':Int)(w:World):(binOp .eql 55 (.agg #[vi vk a,vi vk b,vi vk c]) (.agg #[vi vk a',vi vk b',vi vk c'])).run Tryz.prog w=.ok (.bool (ceq (a,b,c) (a',b',c'))) w:=by
 rw[run_eql_struct,equalInCell];rfl
def gt(L:List Cl)(k:Nat):Cl:=L.getD k (0,0,0)
theorem cvs_at(L:List Cl)(k:Nat)(hk:k<L.length):(cvs L)[k*3]? =some (vi vk (gt L k).1)∧(cvs L)[k*3+1]? =some (vi vk (gt L k).2.1)∧(cvs L)[k*3+2]? =some (vi vk (gt L k).2.2):=by
 induction L generalizing k with
 |nil=>simp at hk
 |cons x r ih=>
  have hc:cvs (x::r)=vi vk x.1::vi vk x.2.1::vi vk x.2.2::cvs r:=rfl;rw[hc];match k with
  |0=>simp[gt]
  |k+1=>
   have:=ih k (by simpa using hk);have e1:(k+1)*3=k*3+3:=by omega
   have e2:(k+1)*3+1=(k*3+1)+3:=by omega
   have e3:(k+1)*3+2=(k*3+2)+3:=by omega
   rw[e3,e2,e1];simpa [gt] using this
theorem Reads.len{w:World}{B n:Nat}{A:Option Addr}{L:List Cl}(h:Reads w B 3 A n (cvs L)):L.length=n:=by
 have:=h.1;rw[cvs_length] at this;omega
theorem Reads.elem{w:World}{B n:Nat}{A:Option Addr}{L:List Cl}(h:Reads w B 3 A n (cvs L)){k:Nat}(hk:k<n):
 ∃b off,A=some ⟨b,off,none⟩∧b<B∧w.cell? ⟨b,off+k*3,none⟩=some (vi vk (gt L k).1)∧w.cell? ⟨b,off+k*3+1,none⟩=some (vi vk (gt L k).2.1)∧w.cell? ⟨b,off+k*3+2,none⟩=some (vi vk (gt L k).2.2):=by
 have hl:=h.len;obtain⟨ad,rfl,hb,hc⟩:=h.2 om_;obtain⟨b,off,spot⟩:=ad;obtain⟨z1,_,_⟩:=cvs_at L 0 om_;have hspot:spot=none:=by simpa [Addr.add] using World.cell?_spot (hc 0 _ (by simpa using z1))
 subst hspot;obtain⟨y1,y2,y3⟩:=cvs_at L k om_;refine⟨b,off,rfl,hb,?_,?_,?_⟩
 · have:=hc _ _ y1;rw[Go.WideShapes.add_plain] at this;exact this
 · have:=hc _ _ y2;rw[Go.WideShapes.add_plain] at this;exact this
 · have:=hc _ _ y3;rw[Go.WideShapes.add_plain] at this;exact this
theorem take_eq_succ{L M:List Cl}{k:Nat}(h:L.take k=M.take k)(h1:k<L.length)(h2:k<M.length)(he:gt L k=gt M k):L.take (k+1)=M.take (k+1):=by
 rw[List.take_succ_eq_append_getElem h1,List.take_succ_eq_append_getElem h2,h];simp[gt,h1,h2] at he;rw[he]
theorem ne_of_gt{L M:List Cl}{k:Nat}(he:gt L k≠gt M k):L≠M:=fun h=>he (by rw[h])
def rchB(n:Int):Bool:=decide (-1099511627776≤n∧n≤1099511627776)
theorem fitsQ_any(n:Int)(w:World):Calls Tryz.prog 78 #[vi vk n] w fun e w'=>e=.returned (.bool (rchB n))∧w'=w:=by
 unfold rchB;go_enter func78,ntmps78;go_wp2;all_goals
  go_ret;exact⟨ret_bool (by first|rfl|(simp_all;done)|(simp_all;omega)),rfl⟩
theorem avQ_parts(lo hi:Int):avB lo hi=(decide (lo≤hi)&&rchB lo&&rchB hi):=by
 unfold avB rchB;rw[Bool.eq_iff_iff];simp only[Bool.and_eq_true,decide_eq_true_eq];omega
theorem aVal_any(lo hi:Int)(w:World):Calls Tryz.prog 42 #[.agg #[vi vk lo,vi vk hi]] w fun e w'=>e=.returned (.bool (avB lo hi))∧Below w.heap.size w w':=by
 have KL:=hid (fun W=>fitsQ_any lo W);have KH:=hid (fun W=>fitsQ_any hi W);rw[avQ_parts];generalize rchB lo=s at*;generalize rchB hi=t at*;by_cases h:lo≤hi
 · have d:decide (lo≤hi)=true:=decide_eq_true h
   rw[d];cases s
   · go_enter func42,ntmps42
     go_wp2_with (go_at_call 78;(with_reducible refine(KL.out _).mono ?_);rintro e w9 ⟨rfl,rfl⟩);go_ret;refine⟨rfl,?_⟩;exact bl_
   · cases t
     all_goals
      go_enter func42,ntmps42;go_wp2_with (go_at_call 78;(first|(with_reducible refine(KL.out _).mono ?_)|(with_reducible refine(KH.out _).mono ?_));rintro e w9 ⟨rfl,rfl⟩);go_ret;refine⟨rfl,?_⟩;exact bl_
 · have d:decide (lo≤hi)=false:=decide_eq_false h
   rw[d];go_enter func42,ntmps42;go_wp2;go_ret;refine⟨rfl,?_⟩;exact bl_
def subP(x y:Int×Int):Int×Int:=(x.1-y.2,x.2-y.1)
theorem fit_sub{x y:Int×Int}(hx:Trig.Small x)(hy:Trig.Small y):fitV (subP x y).1 (subP x y).2=.tuple #[.agg #[vi vk (subP x y).1,vi vk (subP x y).2],vi vk 0]:=by
 have h:fvB (subP x y).1 (subP x y).2=true:=by
  rw[fv_iff];have:=hx.lo;have:=hx.le;have:=hx.hi;have:=hy.lo;have:=hy.le;have:=hy.hi;unfold subP;simp only[];omega
 unfold fitV;rw[if_pos h]
theorem sub_yes(x y:Int×Int)(hx:Trig.Small x)(hy:Trig.Small y)(W:World):Calls Tryz.prog 175 #[.agg #[vi vk x.1,vi vk x.2],.agg #[vi vk y.1,vi vk y.2]] W fun e w'=>e=.returned (.tuple #[.agg #[vi vk (subP x y).1,vi vk (subP x y).2],vi vk 0])∧Below W.heap.size W w':=by
 rw[←fit_sub hx hy];exact fSub_any x.1 x.2 y.1 y.2 W (small_fv hx) (small_fv hy)
def ArcS(x:Int×Int):Prop:= -1000000000≤x.1∧x.1≤x.2∧x.2≤1000000000
theorem result_yes(lo hi:Int)(w:World)(h0:rchB lo=true)(h1:rchB hi=true):Calls Tryz.prog 124 #[vi vk lo,vi vk hi] w fun e w'=>e=.returned (.tuple #[.agg #[vi vk lo,vi vk hi],vi vk 0])∧Below w.heap.size w w':=by
 have KL:=hid (fun W=>fitsQ_any lo W);have KH:=hid (fun W=>fitsQ_any hi W);rw[h0] at KL;rw[h1] at KH;clear h0 h1;go_enter func124,ntmps124;go_wp2_with (go_at_call 78;(first|(with_reducible refine(KL.out _).mono ?_)|(with_reducible refine(KH.out _).mono ?_));rintro e w9 ⟨rfl,rfl⟩);refine bodyPost_ret (v:=.tuple #[.agg #[vi vk lo,vi vk hi],vi vk 0]) (by simp[results,results124,go_sem, *];done) rfl ⟨rfl,?_⟩;exact bl_
theorem angAdd_yes(x y:Int×Int)(hx:ArcS x)(hy:ArcS y)(w:World):Calls Tryz.prog 83 #[.agg #[vi vk x.1,vi vk x.2],.agg #[vi vk y.1,vi vk y.2]] w fun e w'=>e=.returned (.tuple #[.agg #[vi vk (Trig.addP x y).1,vi vk (Trig.addP x y).2],vi vk 0])∧Below w.heap.size w w':=by
 obtain⟨x0,x1⟩:=x;obtain⟨y0,y1⟩:=y;obtain⟨a0,a1,a2⟩:=hx;obtain⟨b0,b1,b2⟩:=hy;simp only[] at a0 a1 a2 b0 b1 b2;simp only[Trig.addP];have KX:=hid (fun W=>aVal_any x0 x1 W);have KY:=hid (fun W=>aVal_any y0 y1 W);rw[avB_true.2 om_] at KX KY;have KR:=hid (fun W=>result_yes (x0+y0) (x1+y1) W (by unfold rchB;exact decide_eq_true om_) (by unfold rchB;exact decide_eq_true om_));have n0:wrap64 (x0+y0)=x0+y0:=IntWalk.wrap64_in _ om_;have n1:wrap64 (x1+y1)=x1+y1:=IntWalk.wrap64_in _ om_;have X0:=hid (((D2.new w x0 x1 31).alloc (.cells #[vi vk y0,vi vk y1] 31)).alloc (.cells #[vi vk 0,vi vk 0] 31));have yy:=(D2.new (w.alloc (.cells #[vi vk x0,vi vk x1] 31)) y0 y1 31).alloc (.cells #[vi vk 0,vi vk 0] 31);have zz:=D2.new ((w.alloc (.cells #[vi vk x0,vi vk x1] 31)).alloc (.cells #[vi vk y0,vi vk y1] 31)) 0 0 31;rw[World.size_alloc] at yy;rw[World.size_alloc,World.size_alloc] at zz;have Y0:=hid yy;have Z0:=hid zz;have B0:=hid (((bl_alloc w (.cells #[vi vk x0,vi vk x1] 31)).alloc (by simp) (.cells #[vi vk y0,vi vk y1] 31)).alloc (by simp;omega) (.cells #[vi vk 0,vi vk 0] 31));clear yy zz a0 a1 a2 b0 b1 b2;go_enter func83,ntmps83;go_wp2_with fail;(with_reducible refine(KX.out _).mono ?_)
 rintro e w1 ⟨rfl,hb1⟩
 have X1:=hid (X0.out.below hb1 X0.out.lt);have Y1:=hid (Y0.out.below hb1 Y0.out.lt);have Z1:=hid (Z0.out.below hb1 Z0.out.lt);have B1:=hid (B0.out.trans (hb1.mono B0.out.size));clear hb1 X0 Y0 Z0 B0;obtain⟨yt,y2,y3,-,-⟩:=Y1.out;go_wp2_with fail;(with_reducible refine(KY.out _).mono ?_)
 rintro e w2 ⟨rfl,hb2⟩
 clear yt y2 y3;obtain⟨xt,x2,x3,-,-⟩:=X1.out.below hb2 X1.out.lt;obtain⟨yt,y2,y3,-,-⟩:=Y1.out.below hb2 Y1.out.lt;have Z2:=hid (Z1.out.below hb2 Z1.out.lt);have B2:=hid (B1.out.trans (hb2.mono B1.out.size));clear hb2 X1 Y1 Z1 B1;go_wp2_with fail;(with_reducible refine(KR.out _).mono ?_)
 rintro e w3 ⟨rfl,hb3⟩
 have B3:=hid (B2.out.trans (hb3.mono B2.out.size));obtain⟨zt,z0,z1,zf0,zf1⟩:=Z2.out.below hb3 Z2.out.lt;clear hb3 Z2 B2 xt x2 x3 yt y2 y3;go_wp2;refine bodyPost_ret (v:=.tuple #[.agg #[vi vk (x0+y0),vi vk (x1+y1)],vi vk 0]) (by simp[results,results83,go_sem, *];done) rfl ⟨rfl,?_⟩;exact(B3.out.setCell so_ _).setCell so_ _
theorem kept_any(g:Nat)(lo hi:Int)(w:World)(h:Blk w g 70 #[vi vk 0]):
 Calls Tryz.prog 240 #[.pointer (some ⟨g,0,none⟩),.agg #[vi vk lo,vi vk hi],vi vk 0] w fun e w'=>e=.returned (.agg #[vi vk lo,vi vk hi])∧Below w.heap.size w w':=by
 have hg:=h.lt;have h1:=(h.alloc (.cells #[vi vk lo,vi vk hi] 158)).alloc (.cells #[vi vk 0,vi vk 0] 158);have c0:w.cell? ⟨g,0,none⟩=some (vi vk 0):=by rw[h.cell 0];rfl
 have f0:=h.frozen 0;have H:=hid h;have HB:=hid (bl_same (Below.refl w.heap.size w) h);clear h h1;go_enter func240,ntmps240;go_wp2;refine bodyPost_ret (v:=.agg #[vi vk lo,vi vk hi]) (by simp[results,results240,go_sem, *];done) rfl ⟨rfl,?_⟩;exact(HB.out.alloc HB.out.size _).alloc (by have:=HB.out.size;first|(simp;done)|(simp;omega)) _
theorem ksin_any(g:Nat)(a:Int×Int)(w:World)(ha:avB a.1 a.2=true)(h:Blk w g 70 #[vi vk 0]):
 Calls Tryz.prog 215 #[.pointer (some ⟨g,0,none⟩),.agg #[vi vk a.1,vi vk a.2]] w fun e w'=>e=.returned (.agg #[vi vk (Trig.snP a).1,vi vk (Trig.snP a).2])∧Below w.heap.size w w':=by
 have KS:=hid (fun W=>sin_yes a ha W);have KK:=hid (fun(lo hi:Int) (W:World) (h:Blk W g 70 #[vi vk 0])=>kept_any g lo hi W h);obtain⟨⟨s0,s1⟩,hs⟩: ∃z,(Trig.snP a)=z:=⟨_,rfl⟩;rw[hs] at KS⊢;simp only[] at KS⊢;clear hs;have hg:=h.lt;have H0:=hid ((h.alloc (.cells #[vi vk a.1,vi vk a.2] 31)).alloc (.cells #[vi vk 0,vi vk 0] 158));have T0:Hid (D2 ((w.alloc (.cells #[vi vk a.1,vi vk a.2] 31)).alloc (.cells #[vi vk 0,vi vk 0] 158)) (w.heap.size+1) 0 0):=hid (by
  have:=D2.new (w.alloc (.cells #[vi vk a.1,vi vk a.2] 31)) 0 0 158;rwa [World.size_alloc] at this)
 have B0:=hid ((bl_alloc w (.cells #[vi vk a.1,vi vk a.2] 31)).alloc (by simp) (.cells #[vi vk 0,vi vk 0] 158));clear h;go_enter func215,ntmps215;go_wp2_with fail;(with_reducible refine(KS.out _).mono ?_)
 rintro e w1 ⟨rfl,hb1⟩
 have H1:=hid ((H0.out.below hb1 H0.out.lt).alloc (.cells #[vi vk s0,vi vk s1] 158));have T1:=hid ((T0.out.below hb1 T0.out.lt).alloc (.cells #[vi vk s0,vi vk s1] 158));have B1:=hid ((B0.out.trans (hb1.mono B0.out.size)).alloc (by have:=B0.out.size;have:=hb1.size;omega) (.cells #[vi vk s0,vi vk s1] 158));clear hb1 H0 T0 B0;go_wp2_with fail;(with_reducible refine(KK.out _ _ _ H1.out).mono ?_)
 rintro e w2 ⟨rfl,hb2⟩
 have T2:=hid (T1.out.below hb2 T1.out.lt);have B2:=hid (B1.out.trans (hb2.mono B1.out.size));obtain⟨zt,z0,z1,zf0,zf1⟩:=T2.out;go_wp2;refine bodyPost_ret (v:=.agg #[vi vk s0,vi vk s1]) (by simp[results,results215,go_sem, *];done) rfl ⟨rfl,?_⟩;exact(B2.out.setCell so_ _).setCell so_ _
theorem kcos_any(g:Nat)(a:Int×Int)(w:World)(ha:avB a.1 a.2=true)(h:Blk w g 70 #[vi vk 0]):
 Calls Tryz.prog 216 #[.pointer (some ⟨g,0,none⟩),.agg #[vi vk a.1,vi vk a.2]] w fun e w'=>e=.returned (.agg #[vi vk (Trig.csP a).1,vi vk (Trig.csP a).2])∧Below w.heap.size w w':=by
 have KS:=hid (fun W=>cos_yes a ha W);have KK:=hid (fun(lo hi:Int) (W:World) (h:Blk W g 70 #[vi vk 0])=>kept_any g lo hi W h);obtain⟨⟨s0,s1⟩,hs⟩: ∃z,(Trig.csP a)=z:=⟨_,rfl⟩;rw[hs] at KS⊢;simp only[] at KS⊢;clear hs;have hg:=h.lt;have H0:=hid ((h.alloc (.cells #[vi vk a.1,vi vk a.2] 31)).alloc (.cells #[vi vk 0,vi vk 0] 158));have T0:Hid (D2 ((w.alloc (.cells #[vi vk a.1,vi vk a.2] 31)).alloc (.cells #[vi vk 0,vi vk 0] 158)) (w.heap.size+1) 0 0):=hid (by
  have:=D2.new (w.alloc (.cells #[vi vk a.1,vi vk a.2] 31)) 0 0 158;rwa [World.size_alloc] at this)
 have B0:=hid ((bl_alloc w (.cells #[vi vk a.1,vi vk a.2] 31)).alloc (by simp) (.cells #[vi vk 0,vi vk 0] 158));clear h;go_enter func216,ntmps216;go_wp2_with fail;(with_reducible refine(KS.out _).mono ?_)
 rintro e w1 ⟨rfl,hb1⟩
 have H1:=hid ((H0.out.below hb1 H0.out.lt).alloc (.cells #[vi vk s0,vi vk s1] 158));have T1:=hid ((T0.out.below hb1 T0.out.lt).alloc (.cells #[vi vk s0,vi vk s1] 158));have B1:=hid ((B0.out.trans (hb1.mono B0.out.size)).alloc (by have:=B0.out.size;have:=hb1.size;omega) (.cells #[vi vk s0,vi vk s1] 158));clear hb1 H0 T0 B0;go_wp2_with fail;(with_reducible refine(KK.out _ _ _ H1.out).mono ?_)
 rintro e w2 ⟨rfl,hb2⟩
 have T2:=hid (T1.out.below hb2 T1.out.lt);have B2:=hid (B1.out.trans (hb2.mono B1.out.size));obtain⟨zt,z0,z1,zf0,zf1⟩:=T2.out;go_wp2;refine bodyPost_ret (v:=.agg #[vi vk s0,vi vk s1]) (by simp[results,results216,go_sem, *];done) rfl ⟨rfl,?_⟩;exact(B2.out.setCell so_ _).setCell so_ _
theorem kmul_any(g:Nat)(x y:Int×Int)(w:World)(hx:Trig.Small x)(hy:Trig.Small y)(h:Blk w g 70 #[vi vk 0]):
 Calls Tryz.prog 214 #[.pointer (some ⟨g,0,none⟩),.agg #[vi vk x.1,vi vk x.2],.agg #[vi vk y.1,vi vk y.2]] w fun e w'=>e=.returned (.agg #[vi vk (Trig.mulP x y).1,vi vk (Trig.mulP x y).2])∧Below w.heap.size w w':=by
 have KS:=hid (fun W=>mul_yes x y hx hy W);have KK:=hid (fun(lo hi:Int) (W:World) (h:Blk W g 70 #[vi vk 0])=>kept_any g lo hi W h);obtain⟨⟨s0,s1⟩,hs⟩: ∃z,(Trig.mulP x y)=z:=⟨_,rfl⟩;rw[hs] at KS⊢;simp only[] at KS⊢;clear hs;have hg:=h.lt;have H0:=hid (((h.alloc (.cells #[vi vk x.1,vi vk x.2] 158)).alloc (.cells #[vi vk y.1,vi vk y.2] 158)).alloc (.cells #[vi vk 0,vi vk 0] 158));have T0:Hid (D2 (((w.alloc (.cells #[vi vk x.1,vi vk x.2] 158)).alloc (.cells #[vi vk y.1,vi vk y.2] 158)).alloc (.cells #[vi vk 0,vi vk 0] 158)) (w.heap.size+1+1) 0 0):=hid (by
  have:=D2.new ((w.alloc (.cells #[vi vk x.1,vi vk x.2] 158)).alloc (.cells #[vi vk y.1,vi vk y.2] 158)) 0 0 158;rwa [World.size_alloc,World.size_alloc] at this)
 have B0:=hid (((bl_alloc w (.cells #[vi vk x.1,vi vk x.2] 158)).alloc (by simp) (.cells #[vi vk y.1,vi vk y.2] 158)).alloc (by simp;omega) (.cells #[vi vk 0,vi vk 0] 158));clear h;go_enter func214,ntmps214;go_wp2_with fail;(with_reducible refine(KS.out _).mono ?_)
 rintro e w1 ⟨rfl,hb1⟩
 have H1:=hid ((H0.out.below hb1 H0.out.lt).alloc (.cells #[vi vk s0,vi vk s1] 158));have T1:=hid ((T0.out.below hb1 T0.out.lt).alloc (.cells #[vi vk s0,vi vk s1] 158));have B1:=hid ((B0.out.trans (hb1.mono B0.out.size)).alloc (by have:=B0.out.size;have:=hb1.size;omega) (.cells #[vi vk s0,vi vk s1] 158));clear hb1 H0 T0 B0;go_wp2_with fail;(with_reducible refine(KK.out _ _ _ H1.out).mono ?_)
 rintro e w2 ⟨rfl,hb2⟩
 have T2:=hid (T1.out.below hb2 T1.out.lt);have B2:=hid (B1.out.trans (hb2.mono B1.out.size));obtain⟨zt,z0,z1,zf0,zf1⟩:=T2.out;go_wp2;refine bodyPost_ret (v:=.agg #[vi vk s0,vi vk s1]) (by simp[results,results214,go_sem, *];done) rfl ⟨rfl,?_⟩;exact(B2.out.setCell so_ _).setCell so_ _
theorem kplus_any(g:Nat)(x y:Int×Int)(w:World)(hx:Trig.Small x)(hy:Trig.Small y)(h:Blk w g 70 #[vi vk 0]):
 Calls Tryz.prog 213 #[.pointer (some ⟨g,0,none⟩),.agg #[vi vk x.1,vi vk x.2],.agg #[vi vk y.1,vi vk y.2]] w fun e w'=>e=.returned (.agg #[vi vk (Trig.addP x y).1,vi vk (Trig.addP x y).2])∧Below w.heap.size w w':=by
 have KS:=hid (fun W=>add_yes x y hx hy W);have KK:=hid (fun(lo hi:Int) (W:World) (h:Blk W g 70 #[vi vk 0])=>kept_any g lo hi W h);obtain⟨⟨s0,s1⟩,hs⟩: ∃z,(Trig.addP x y)=z:=⟨_,rfl⟩;rw[hs] at KS⊢;simp only[] at KS⊢;clear hs;have hg:=h.lt;have H0:=hid (((h.alloc (.cells #[vi vk x.1,vi vk x.2] 158)).alloc (.cells #[vi vk y.1,vi vk y.2] 158)).alloc (.cells #[vi vk 0,vi vk 0] 158));have T0:Hid (D2 (((w.alloc (.cells #[vi vk x.1,vi vk x.2] 158)).alloc (.cells #[vi vk y.1,vi vk y.2] 158)).alloc (.cells #[vi vk 0,vi vk 0] 158)) (w.heap.size+1+1) 0 0):=hid (by
  have:=D2.new ((w.alloc (.cells #[vi vk x.1,vi vk x.2] 158)).alloc (.cells #[vi vk y.1,vi vk y.2] 158)) 0 0 158;rwa [World.size_alloc,World.size_alloc] at this)
 have B0:=hid (((bl_alloc w (.cells #[vi vk x.1,vi vk x.2] 158)).alloc (by simp) (.cells #[vi vk y.1,vi vk y.2] 158)).alloc (by simp;omega) (.cells #[vi vk 0,vi vk 0] 158));clear h;go_enter func213,ntmps213;go_wp2_with fail;(with_reducible refine(KS.out _).mono ?_)
 rintro e w1 ⟨rfl,hb1⟩
 have H1:=hid ((H0.out.below hb1 H0.out.lt).alloc (.cells #[vi vk s0,vi vk s1] 158));have T1:=hid ((T0.out.below hb1 T0.out.lt).alloc (.cells #[vi vk s0,vi vk s1] 158));have B1:=hid ((B0.out.trans (hb1.mono B0.out.size)).alloc (by have:=B0.out.size;have:=hb1.size;omega) (.cells #[vi vk s0,vi vk s1] 158));clear hb1 H0 T0 B0;go_wp2_with fail;(with_reducible refine(KK.out _ _ _ H1.out).mono ?_)
 rintro e w2 ⟨rfl,hb2⟩
 have T2:=hid (T1.out.below hb2 T1.out.lt);have B2:=hid (B1.out.trans (hb2.mono B1.out.size));obtain⟨zt,z0,z1,zf0,zf1⟩:=T2.out;go_wp2;refine bodyPost_ret (v:=.agg #[vi vk s0,vi vk s1]) (by simp[results,results213,go_sem, *];done) rfl ⟨rfl,?_⟩;exact(B2.out.setCell so_ _).setCell so_ _
theorem keptA_any(g:Nat)(lo hi:Int)(w:World)(h:Blk w g 70 #[vi vk 0]):
 Calls Tryz.prog 46 #[.pointer (some ⟨g,0,none⟩),.agg #[vi vk lo,vi vk hi],vi vk 0] w fun e w'=>e=.returned (.agg #[vi vk lo,vi vk hi])∧Below w.heap.size w w':=by
 have hg:=h.lt;have h1:=(h.alloc (.cells #[vi vk lo,vi vk hi] 31)).alloc (.cells #[vi vk 0,vi vk 0] 31);have c0:w.cell? ⟨g,0,none⟩=some (vi vk 0):=by rw[h.cell 0];rfl
 have f0:=h.frozen 0;have H:=hid h;have HB:=hid (bl_same (Below.refl w.heap.size w) h);clear h h1;go_enter func46,ntmps46;go_wp2;refine bodyPost_ret (v:=.agg #[vi vk lo,vi vk hi]) (by simp[results,results46,go_sem, *];done) rfl ⟨rfl,?_⟩;exact(HB.out.alloc HB.out.size _).alloc (by have:=HB.out.size;first|(simp;done)|(simp;omega)) _
namespace PQ
def mrg(c:Nat→Nat)(i k:Nat):Nat→Nat:=fun j=>if c j=max (c i) (c k) then min (c i) (c k) else c j
def stp(t:Nat→Nat→Bool)(c:Nat→Nat)(i k:Nat):Nat→Nat:=if t i k=true then mrg c i k else c
def row(t:Nat→Nat→Bool)(c:Nat→Nat)(i:Nat):Nat→(Nat→Nat)
 |0=>c
 |k+1=>stp t (row t c i k) i k
def cl(t:Nat→Nat→Bool):Nat→(Nat→Nat)
 |0=>fun j=>j
 |i+1=>row t (cl t i) i i
end PQ
namespace PQ
end PQ
namespace PQ
def upd(pt:Nat→Nat)(m v:Nat):Nat→Nat:=fun x=>if x=m then v else pt x
section
variable {c:Nat→Nat} {t:Nat→Nat→Bool} {n i:Nat} {pt:Nat→Nat} {T:List Nat} {k m:Nat}
end
def unm(pt:Nat→Nat)(n:Nat):Nat:=((List.range n).filter (fun x=>pt x=0)).length
theorem unm_upd{pt:Nat→Nat}{n m v:Nat}(hm:m<n)(h0:pt m=0)(hv:v≠0):unm (upd pt m v) n+1=unm pt n:=by
 induction n with
 |zero=>omega
 |succ n ih=>
  unfold unm at*;rw[List.range_succ,List.filter_append,List.filter_append,List.length_append,List.length_append];by_cases e:m=n
  · subst e
    have:(List.range m).filter (fun x=>decide (upd pt m v x=0))=(List.range m).filter (fun x=>decide (pt x=0)):=by
     apply List.filter_congr;intro x hx;have:x<m:=by simpa using hx
     simp[upd,show x≠m by omega]
    rw[this];simp[upd,h0,hv]
  · have:=ih om_
    have hn:upd pt m v n=pt n:=by unfold upd;rw[if_neg om_]
    have:(List.filter (fun x=>decide (upd pt m v x=0)) [n])=List.filter (fun x=>decide (pt x=0)) [n]:=by
     simp[List.filter_cons,hn]
    rw[this];omega
end PQ
namespace PQ
end PQ
def mkd(L:Nat→Bool)(i:Nat):Nat→Bool:=fun j=>if j=i then true else L j
theorem mkd_ne{L:Nat→Bool}{i j:Nat}(h: ¬j=i):mkd L i j=L j:=if_neg h
theorem mkd_same(L:Nat→Bool)(i:Nat):mkd L i i=true:=if_pos rfl
theorem kq{L:Nat→Bool}{i j:Nat}{p:Prop}(E:Hid (L j=true→p))(hne:(j==i)=false:=by decide):mkd L i j=true→p:=fun h=>E.out (by rwa [mkd_ne (by simpa using hne)] at h)
theorem rf_{α:Type}{a:α}{p:Prop}:p→a=a:=fun _=>rfl
theorem kr_{L:Nat→Bool}{i j:Nat}{p p':Prop}(E:Hid (L j=true→p))(hne:(j==i)=false:=by decide)(h2:p→p':=by intro q;exact⟨by simpa [mkd] using q.1,q.2⟩):mkd L i j=true→p':=fun h=>h2 (E.out (by rwa [mkd_ne (by simpa using hne)] at h))
theorem ks_{L:Nat→Bool}{i j:Nat}{p p':Prop}(E:Hid (L j=true→p))(hne:(j==i)=false:=by decide)(h2:p→p':=by intro q;simpa [mkd] using q):mkd L i j=true→p':=fun h=>h2 (E.out (by rwa [mkd_ne (by simpa using hne)] at h))
theorem wpOp_of_list{P:Program}{ops:Array Oper}{Q:Exit→Act→World→Prop}{i:Nat}{o:Oper}{K:Act→World→Prop}{a:Act}{w:World}(hi:ops[i]? =some o)(h:wpList P ops (Exit.then K Q) [o] a w):wpOp P ops Q i K a w:=by
 unfold wpOp;rw[hi];simp only[wpList] at h;simp only[];split
 · rename_i hw
   rw[if_pos hw] at h;refine h.imp (fun h1=>?_) id;unfold Oper.wp at*;generalize (execOp a.eval o).run P w=r at*;cases r with
   |ok n w'=>cases n<;>exact h1
   |halt x w'=>cases x<;>exact h1
 · rename_i hw
   rw[if_neg hw] at h;exact h
end Go.Proofs.YtdeiofgddhbdaaaGreat
