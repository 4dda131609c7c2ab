/- The walk of cosine.altitude, where nothing fails. -/
import Derived.Test.YtdeiofgddhbdaaaGreatHAh
set_option linter.unusedSimpArgs false
set_option linter.unusedVariables false
set_option maxHeartbeats 4000000
set_option maxRecDepth 100000
open Go.RowKit
open Go.Lib (hid)
open Go.Proofs.Tryz
open Go.Value renaming int→vi
open Go.IntKind renaming i64→vk
namespace Go.Proofs.YtdeiofgddhbdaaaGreat
theorem putQ_self(a:Act)(i:Nat):a.put (some i) (a.tmps.getD i undef)=a:=by
 cases a with
 |mk t d=>
  have:t.setIfInBounds i (t.getD i undef)=t:=by
   apply Array.ext
   · simp
   · intro j h1 h2
     rw[Array.getElem_setIfInBounds];split
     · rename_i e
       subst e;simp[Array.getD,h2]
     · rfl
  show Act.mk (t.setIfInBounds i (t.getD i undef)) d=_
  rw[this]
theorem wp_region_invB{P:Program}{id:Nat}{ops:Array Oper}{Q:Exit→Act→World→Prop}{a:Act}{w:World}(hm:P.follows .mixedOrders=true)(Inv:(Nat→Bool)→Act→World→Prop)
 (hwf: ∀(i:Nat) (o:Oper),ops[i]? =some o→ ∀e∈o.after,Region.binds .any e=true→e.on<i)
 (h0:Inv (fun _=>false) a w.drew)
 (hstep: ∀(L:Nat→Bool) (i:Nat) (o:Oper) (a:Act) (w:World),ops[i]? =some o→L i=false→(∀e∈o.after,Region.binds .any e=true→L e.on=true)→Inv L a w→wpList P ops (Exit.then (fun a' w'=>Inv (fun j=>if j=i then true else L j) a' w') Q) [o] a w)
 (hend: ∀(L:Nat→Bool) (a:Act) (w:World),(∀i,i<ops.size→L i=true)→Inv L a w→Q .normal a w):(Code.region id ops true).wp P Q a w:=by
 have key: ∀(fuel:Nat) (listed:Array Bool) (L:Nat→Bool) (a:Act) (w:World),listed.size=ops.size→(∀i,i<ops.size→listed.getD i true=L i∧listed.getD i false=L i)→PQ.unm (fun j=>if L j=true then 1 else 0) ops.size≤fuel→Inv L a w→wpAny P .any ops Q fuel listed a w:=by
  intro fuel;have all: ∀(listed:Array Bool) (L:Nat→Bool),(∀i,i<ops.size→listed.getD i true=L i∧listed.getD i false=L i)→Region.ready .any ops listed=[]→ ∀n i,i<n→i<ops.size→L i=true:=by
   intro listed L hL hr n;induction n with
   |zero=>intro i h;omega
   |succ n ih=>
    intro i hi his;by_cases e:i<n
    · exact ih i e his
    · obtain rfl:i=n:=by omega
      cases hl:L i with
      |true=>rfl
      |false=>
       exfalso
       have:i∈Region.ready .any ops listed:=by
        rw[mem_ready];refine⟨by rw[(hL i his).1,hl],ops[i],by rw[Array.getElem?_eq_getElem his],fun e he hbd=>?_⟩;have:=hwf i _ (by rw[Array.getElem?_eq_getElem his]) e he hbd;rw[(hL e.on om_).2];exact ih e.on this om_
       rw[hr] at this;cases this
  induction fuel with
  |zero=>
   intro listed L a w hs hL hu hI;have hall: ∀i,i<ops.size→L i=true:=by
    intro i hi;cases hl:L i with
    |true=>rfl
    |false=>
     exfalso
     have:=PQ.unm_upd (pt:=fun j=>if L j=true then 1 else 0) (v:=1) hi (by simp[hl]) om_;omega
   refine⟨?_,hend L a w hall hI⟩;cases hr:Region.ready .any ops listed with
   |nil=>rfl
   |cons i rs=>
    have hi:i∈Region.ready .any ops listed:=by rw[hr];exact List.mem_cons_self ..
    obtain⟨h1,o,ho,-⟩:=mem_ready.1 hi;have his:i<ops.size:=by
     rcases Nat.lt_or_ge i ops.size with g|g
     · exact g
     · rw[Array.getElem?_eq_none g] at ho;cases ho
    rw[(hL i his).1,hall i his] at h1;cases h1
  |succ fuel ih=>
   intro listed L a w hs hL hu hI;refine⟨fun hr=>hend L a w (fun i hi=>all listed L hL hr ops.size i hi hi) hI,fun i hi=>?_⟩;obtain⟨h1,o,ho,haf⟩:=mem_ready.1 hi;have his:i<ops.size:=by
    rcases Nat.lt_or_ge i ops.size with g|g
    · exact g
    · rw[Array.getElem?_eq_none g] at ho;cases ho
   rw[(hL i his).1] at h1;have hst:=hstep L i o a w ho h1 (fun e he hb=>by
    have:=haf e he hb;rwa [(hL e.on (by have:=hwf i o ho e he hb;omega)).2] at this) hI
   refine wpOp_mono (fun a' w' h=>?_) (wpOp_of_list ho hst);refine ih _ _ a' w' (by simpa using hs) (fun j hj=>?_) ?_ h
   · by_cases e:j=i
     · subst e
       simp[hs,his]
     · have:=hL j hj
       have e': ¬i=j:=fun h=>e h.symm;simp only[if_neg e];simp only[Array.getD_eq_getD_getElem?,Array.getElem?_setIfInBounds,if_neg e'] at this⊢;exact this
   · have:=PQ.unm_upd (pt:=fun j=>if L j=true then 1 else 0) (v:=1) his (by simp[h1]) om_
     have e2:(fun j=>if (if j=i then true else L j)=true then 1 else 0)=PQ.upd (fun j=>if L j=true then 1 else 0) i 1:=by
      funext j
      unfold PQ.upd;by_cases e:j=i
      · simp[e]
      · simp[e]
     rw[e2];omega
 refine wp_region_any hm (key ops.size _ (fun _=>false) a _ (by simp) (fun i hi=>by simp[hi]) ?_ h0);exact Nat.le_trans (by unfold PQ.unm;exact List.length_filter_le _ _) (by simp)
theorem wp_region_inv3{P:Program}{id:Nat}{ops:Array Oper}{Q:Exit→Act→World→Prop}{a:Act}{w:World}(hm:P.follows .mixedOrders=true)(Inv:Act→(Nat→Bool)→Act→World→Prop)
 (hwf: ∀(i:Nat) (o:Oper),ops[i]? =some o→ ∀e∈o.after,Region.binds .any e=true→e.on<i)
 (h0:Inv a (fun _=>false) a w.drew)
 (hstep: ∀(L:Nat→Bool) (i:Nat) (o:Oper) (a1:Act) (w:World),ops[i]? =some o→L i=false→(∀e∈o.after,Region.binds .any e=true→L e.on=true)→Inv a L a1 w→wpList P ops (Exit.then (fun a' w'=>Inv a (mkd L i) a' w') Q) [o] a1 w)
 (hend: ∀(L:Nat→Bool) (a1:Act) (w:World),(∀i,i<ops.size→L i=true)→Inv a L a1 w→Q .normal a1 w):(Code.region id ops true).wp P Q a w:=
 wp_region_invB hm (Inv a) hwf h0 hstep hend
def waitsBind(ops:Array Oper):Bool:=(List.range ops.size).all fun i=>(ops[i]?.map fun o=>o.after.all fun e=> !(Region.binds .any e)||decide (e.on<i)).getD true
theorem waits_bind{ops:Array Oper}(h:waitsBind ops=true): ∀(i:Nat) (o:Oper),ops[i]? =some o→ ∀e∈o.after,Region.binds .any e=true→e.on<i:=by
 intro i o ho e he hb;have his:i<ops.size:=by
  rcases Nat.lt_or_ge i ops.size with g|g
  · exact g
  · rw[Array.getElem?_eq_none g] at ho;cases ho
 have h1:=(List.all_eq_true.1 h) i (List.mem_range.2 his);rw[ho] at h1;simp only[Option.map_some,Option.getD_some] at h1;have:=Array.all_eq_true'.1 h1 e he;rw[hb] at this;simpa using this
section
structure MJ(W2 w:World)(L:Nat→Bool)(n A S:Nat)(g:Nat→Nat)(v:Nat→Int×Int):Prop where
 bl:Below W2.heap.size W2 w
 d: ∀i,i<n→L (S+i)=true→L (A+i)=true
 lo: ∀i,i<n→L (A+i)=true→W2.heap.size≤g i
 z: ∀i,i<n→L (A+i)=true→L (S+i)=false→D2 w (g i) 0 0
 k: ∀i,i<n→L (S+i)=true→D2 w (g i) (v i).1 (v i).2
 ne: ∀i j,i<n→j<n→i≠j→L (A+i)=true→L (A+j)=true→g i≠g j
section
variable {W2 w w':World} {L:Nat→Bool} {n A S:Nat} {g:Nat→Nat} {v:Nat→Int×Int}
theorem MJ.start(W2:World)(n A S:Nat)(g:Nat→Nat)(v:Nat→Int×Int):MJ W2 W2.drew (fun _=>false) n A S g v:=
 ⟨bl_drew (Below.refl _ _),fun _ _ h=>(by cases h),fun _ _ h=>(by cases h),fun _ _ h=>(by cases h),fun _ _ h=>(by cases h),fun _ _ _ _ _ h=>(by cases h)⟩
theorem MJ.l(h:MJ W2 w L n A S g v){i:Nat}(hi:i<n)(hA:L (A+i)=true):g i<w.heap.size:=by
 cases e:L (S+i) with
 |false=>exact(h.z i hi hA e).lt
 |true=>exact(h.k i hi e).lt
theorem MJ.call(h:MJ W2 w L n A S g v)(hb:Below w.heap.size w w'):MJ W2 w' L n A S g v:=
 ⟨h.bl.trans (hb.mono h.bl.size),h.d,h.lo,fun i hi p q=>(h.z i hi p q).below hb (h.z i hi p q).lt,fun i hi p=>(h.k i hi p).below hb (h.k i hi p).lt,h.ne⟩
theorem MJ.mark(h:MJ W2 w L n A S g v)(m:Nat)(hm:(m<A∧m<S)∨(A+n≤m∧m<S)∨(A+n≤m∧S+n≤m)):MJ W2 w (mkd L m) n A S g v:=by
 have e: ∀i,i<n→mkd L m (A+i)=L (A+i):=fun i hi=>mkd_ne om_;have f: ∀i,i<n→mkd L m (S+i)=L (S+i):=fun i hi=>mkd_ne om_;constructor
 · exact h.bl
 · intro i hi p;rw[f i hi] at p;rw[e i hi];exact h.d i hi p
 · intro i hi p;rw[e i hi] at p;exact h.lo i hi p
 · intro i hi p q;rw[e i hi] at p;rw[f i hi] at q;exact h.z i hi p q
 · intro i hi p;rw[f i hi] at p;exact h.k i hi p
 · intro i j hi hj hij p q;rw[e i hi] at p;rw[e j hj] at q;exact h.ne i j hi hj hij p q
theorem MJ.al(h:MJ W2 w L n A S g v)(m:Nat)(hm:m<n)(hAS:A+n≤S)(hL:L (A+m)=false)(t:TypeId):MJ W2 (w.alloc (.cells #[vi vk 0,vi vk 0] t)) (mkd L (A+m)) n A S (fun j=>if j=m then w.heap.size else g j) v:=by
 have c:=h.call (bl_alloc w (.cells #[vi vk 0,vi vk 0] t));have hS:L (S+m)=false:=by
  cases e:L (S+m) with
  |false=>rfl
  |true=>rw[h.d m hm e] at hL;cases hL
 have f: ∀i,i<n→mkd L (A+m) (S+i)=L (S+i):=fun i hi=>mkd_ne om_;have e: ∀i,i<n→i≠m→mkd L (A+m) (A+i)=L (A+i):=fun i hi him=>mkd_ne om_;constructor
 · exact c.bl
 · intro i hi p
   rw[f i hi] at p;by_cases him:i=m
   · subst him;exact mkd_same _ _
   · rw[e i hi him];exact h.d i hi p
 · intro i hi p
   by_cases him:i=m
   · simp only[him,if_true];exact h.bl.size
   · simp only[if_neg him];rw[e i hi him] at p;exact h.lo i hi p
 · intro i hi p q
   by_cases him:i=m
   · simp only[him,if_true];exact D2.new w 0 0 t
   · simp only[if_neg him];rw[e i hi him] at p;rw[f i hi] at q;exact c.z i hi p q
 · intro i hi p
   rw[f i hi] at p;by_cases him:i=m
   · subst him;rw[hS] at p;cases p
   · simp only[if_neg him];exact c.k i hi p
 · intro i j hi hj hij p q
   by_cases him:i=m
   · have hjm:j≠m:=fun e=>hij (him.trans e.symm)
     simp only[him,if_true,if_neg hjm];rw[e j hj hjm] at q;have:=h.l hj q;omega
   · simp only[if_neg him]
     rw[e i hi him] at p;by_cases hjm:j=m
     · simp only[hjm,if_true]
       have:=h.l hi p;omega
     · simp only[if_neg hjm];rw[e j hj hjm] at q;exact h.ne i j hi hj hij p q
theorem MJ.st(h:MJ W2 w L n A S g v)(m:Nat)(hm:m<n)(hAS:A+n≤S)(hA:L (A+m)=true)(hL:L (S+m)=false){a b:Int}(hv:v m=(a,b)):MJ W2 ((w.setCell ⟨g m,0,none⟩ (vi vk a)).setCell ⟨g m,1,none⟩ (vi vk b)) (mkd L (S+m)) n A S g v:=by
 have e: ∀i,i<n→mkd L (S+m) (A+i)=L (A+i):=fun i hi=>mkd_ne om_;have f: ∀i,i<n→i≠m→mkd L (S+m) (S+i)=L (S+i):=fun i hi him=>mkd_ne om_;have hg:=h.lo m hm hA;have z:=h.z m hm hA hL;constructor
 · exact(h.bl.setCell hg _).setCell hg _
 · intro i hi p
   rw[e i hi];by_cases him:i=m
   · subst him;exact hA
   · rw[f i hi him] at p;exact h.d i hi p
 · intro i hi p;rw[e i hi] at p;exact h.lo i hi p
 · intro i hi p q
   rw[e i hi] at p;by_cases him:i=m
   · subst him;rw[mkd_same] at q;cases q
   · rw[f i hi him] at q
     have hne:=h.ne i m hi hm him p hA;exact((h.z i hi p q).far (p:=⟨g m,0,none⟩) hne _).far (p:=⟨g m,1,none⟩) hne _
 · intro i hi p
   by_cases him:i=m
   · subst him;rw[hv];exact(z.set0 a).set1 b
   · rw[f i hi him] at p
     have hne:=h.ne i m hi hm him (h.d i hi p) hA;exact((h.k i hi p).far (p:=⟨g m,0,none⟩) hne _).far (p:=⟨g m,1,none⟩) hne _
 · intro i j hi hj hij p q;rw[e i hi] at p;rw[e j hj] at q;exact h.ne i j hi hj hij p q
end
end
theorem blk12{W:World}{g:Nat}{t:TypeId}{z:Value}(h:Blk W g t #[z,z,z,z,z,z,z,z,z,z,z,z])(u0 u1 u2 u3 u4 u5 u6 u7 u8 u9 u10 u11:Value):Blk ((((((((((((W.setCell ⟨g,0,none⟩ u0).setCell ⟨g,1,none⟩ u1).setCell ⟨g,2,none⟩ u2).setCell ⟨g,3,none⟩ u3).setCell ⟨g,4,none⟩ u4).setCell ⟨g,5,none⟩ u5).setCell ⟨g,6,none⟩ u6).setCell ⟨g,7,none⟩ u7).setCell ⟨g,8,none⟩ u8).setCell ⟨g,9,none⟩ u9).setCell ⟨g,10,none⟩ u10).setCell ⟨g,11,none⟩ u11) g t #[u0,u1,u2,u3,u4,u5,u6,u7,u8,u9,u10,u11]:=by
 have:=((((((((((((h.set_ 0 u0).set_ 1 u1).set_ 2 u2).set_ 3 u3).set_ 4 u4).set_ 5 u5).set_ 6 u6).set_ 7 u7).set_ 8 u8).set_ 9 u9).set_ 10 u10).set_ 11 u11);simp only[List.setIfInBounds_toArray,List.set_cons_zero,List.set_cons_succ] at this;exact this
theorem bl12{B:Nat}{a w:World}{g:Nat}(h:Below B a w)(hg:B≤g)(u0 u1 u2 u3 u4 u5 u6 u7 u8 u9 u10 u11:Value):Below B a ((((((((((((w.setCell ⟨g,0,none⟩ u0).setCell ⟨g,1,none⟩ u1).setCell ⟨g,2,none⟩ u2).setCell ⟨g,3,none⟩ u3).setCell ⟨g,4,none⟩ u4).setCell ⟨g,5,none⟩ u5).setCell ⟨g,6,none⟩ u6).setCell ⟨g,7,none⟩ u7).setCell ⟨g,8,none⟩ u8).setCell ⟨g,9,none⟩ u9).setCell ⟨g,10,none⟩ u10).setCell ⟨g,11,none⟩ u11):=
 ((((((((((((h.setCell hg u0).setCell hg u1).setCell hg u2).setCell hg u3).setCell hg u4).setCell hg u5).setCell hg u6).setCell hg u7).setCell hg u8).setCell hg u9).setCell hg u10).setCell hg u11)
theorem of_any(g:Nat)(a b c:Int×Int)(w:World)(ha:avB a.1 a.2=true)(hb:avB b.1 b.2=true)(hc:avB c.1 c.2=true)(h:Blk w g 157 #[vi vk 0]):
 Calls Tryz.prog 117 #[.pointer (some ⟨g,0,none⟩),.agg #[vi vk a.1,vi vk a.2,vi vk b.1,vi vk b.2,vi vk c.1,vi vk c.2]] w fun e w'=>e=.returned (.agg #[vi vk (Trig.snP a).1,vi vk (Trig.snP a).2,vi vk (Trig.csP a).1,vi vk (Trig.csP a).2,vi vk (Trig.snP b).1,vi vk (Trig.snP b).2,vi vk (Trig.csP b).1,vi vk (Trig.csP b).2,vi vk (Trig.snP c).1,vi vk (Trig.snP c).2,vi vk (Trig.csP c).1,vi vk (Trig.csP c).2])∧Below w.heap.size w w':=by
 have K1:=hid (fun W h=>csin_any g a W ha h);have K2:=hid (fun W h=>ccos_any g a W ha h);have K3:=hid (fun W h=>csin_any g b W hb h);have K4':=hid (fun W h=>ccos_any g b W hb h);have K5:=hid (fun W h=>csin_any g c W hc h);have K6:=hid (fun W h=>ccos_any g c W hc h);generalize (Trig.snP a).1=n0 at*;generalize (Trig.snP a).2=n1 at*;generalize (Trig.csP a).1=p0 at*;generalize (Trig.csP a).2=p1 at*;generalize (Trig.snP b).1=n2 at*;generalize (Trig.snP b).2=n3 at*;generalize (Trig.csP b).1=p2 at*;generalize (Trig.csP b).2=p3 at*;generalize (Trig.snP c).1=n4 at*;generalize (Trig.snP c).2=n5 at*;generalize (Trig.csP c).1=p4 at*;generalize (Trig.csP c).2=p5 at*;obtain⟨a0,a1⟩:=a;obtain⟨b0,b1⟩:=b;obtain⟨c0,c1⟩:=c;simp only[] at K1 K2 K3 K4' K5 K6⊢;clear ha hb hc;have hg:=h.lt;have H:=hid ((h.alloc (.cells #[vi vk a0,vi vk a1,vi vk b0,vi vk b1,vi vk c0,vi vk c1] 66)).alloc (.cells #[vi vk 0,vi vk 0,vi vk 0,vi vk 0,vi vk 0,vi vk 0,vi vk 0,vi vk 0,vi vk 0,vi vk 0,vi vk 0,vi vk 0] 160));clear h;go_enter func117,ntmps117;go_upto_region 1 with (fail)
 have T1:=hid ((C6.new w a0 a1 b0 b1 c0 c1 66).below (bl_alloc _ (.cells #[vi vk 0,vi vk 0,vi vk 0,vi vk 0,vi vk 0,vi vk 0,vi vk 0,vi vk 0,vi vk 0,vi vk 0,vi vk 0,vi vk 0] 160)) (by simp));have T2:Hid (Blk ((w.alloc (.cells #[vi vk a0,vi vk a1,vi vk b0,vi vk b1,vi vk c0,vi vk c1] 66)).alloc (.cells #[vi vk 0,vi vk 0,vi vk 0,vi vk 0,vi vk 0,vi vk 0,vi vk 0,vi vk 0,vi vk 0,vi vk 0,vi vk 0,vi vk 0] 160)) (w.heap.size+1) 160 #[vi vk 0,vi vk 0,vi vk 0,vi vk 0,vi vk 0,vi vk 0,vi vk 0,vi vk 0,vi vk 0,vi vk 0,vi vk 0,vi vk 0]):=hid (by
  have:=Blk.new (w.alloc (.cells #[vi vk a0,vi vk a1,vi vk b0,vi vk b1,vi vk c0,vi vk c1] 66)) 160 #[vi vk 0,vi vk 0,vi vk 0,vi vk 0,vi vk 0,vi vk 0,vi vk 0,vi vk 0,vi vk 0,vi vk 0,vi vk 0,vi vk 0];rwa [World.size_alloc] at this)
 have B0:=hid ((bl_alloc w (.cells #[vi vk a0,vi vk a1,vi vk b0,vi vk b1,vi vk c0,vi vk c1] 66)).alloc (by simp) (.cells #[vi vk 0,vi vk 0,vi vk 0,vi vk 0,vi vk 0,vi vk 0,vi vk 0,vi vk 0,vi vk 0,vi vk 0,vi vk 0,vi vk 0] 160));generalize (w.alloc (.cells #[vi vk a0,vi vk a1,vi vk b0,vi vk b1,vi vk c0,vi vk c1] 66)).alloc (.cells #[vi vk 0,vi vk 0,vi vk 0,vi vk 0,vi vk 0,vi vk 0,vi vk 0,vi vk 0,vi vk 0,vi vk 0,vi vk 0,vi vk 0] 160)=W0 at*;have hn1: ¬w.heap.size+1=w.heap.size:=by omega
 have hn2: ¬w.heap.size=w.heap.size+1:=by omega
 obtain⟨tl,x0,x1,x2,x3,x4,x5⟩:=T1.out;go_region_held3 (fun w'=>w'.cell? ⟨w.heap.size,0,none⟩=some (vi vk a0)∧w'.cell? ⟨w.heap.size,1,none⟩=some (vi vk a1)∧w'.cell? ⟨w.heap.size,2,none⟩=some (vi vk b0)∧w'.cell? ⟨w.heap.size,3,none⟩=some (vi vk b1)∧w'.cell? ⟨w.heap.size,4,none⟩=some (vi vk c0)∧w'.cell? ⟨w.heap.size,5,none⟩=some (vi vk c1)) (simp[*,World.cell?_setCell_other]) (first
  |((first|go_at_call 166|go_at_call 167);(first|(with_reducible refine(K1.out _ (by first|exact H.out|exact H.out.drew)).mono ?_)|(with_reducible refine(K2.out _ (by first|exact H.out|exact H.out.drew)).mono ?_)|(with_reducible refine(K3.out _ (by first|exact H.out|exact H.out.drew)).mono ?_)|(with_reducible refine(K4'.out _ (by first|exact H.out|exact H.out.drew)).mono ?_)|(with_reducible refine(K5.out _ (by first|exact H.out|exact H.out.drew)).mono ?_)|(with_reducible refine(K6.out _ (by first|exact H.out|exact H.out.drew)).mono ?_));rintro e w9 ⟨rfl,hb9⟩;(first|(replace hb9:=first_b hb9)|skip);have B0:=hid (B0.out.trans (hb9.mono B0.out.size));have T1:=hid (T1.out.below hb9 T1.out.lt);have T2:=hid (T2.out.below hb9 T2.out.lt);have H:=hid (H.out.below hb9 H.out.lt);clear hb9;clear x0 x1 x2 x3 x4 x5 tl;obtain⟨tl,x0,x1,x2,x3,x4,x5⟩:=T1.out;have z9:=fun i=>T2.out.cell i;have f9:=fun i=>T2.out.frozen i)
  |fail)
 all_goals
  have hB:=B0.out;have HZ:=hid T2.out;clear x0 x1 x2 x3 x4 x5 tl K1 K2 K3 K4' K5 K6 T1 H;go_wp2;clear z9 f9;generalize hW:World.setCell _ (⟨w.heap.size+1,11,none⟩:Addr) _=W12;have TB:Blk W12 (w.heap.size+1) 160 #[vi vk n0,vi vk n1,vi vk p0,vi vk p1,vi vk n2,vi vk n3,vi vk p2,vi vk p3,vi vk n4,vi vk n5,vi vk p4,vi vk p5]:=by
   rw[←hW];with_reducible exact blk12 HZ.out _ _ _ _ _ _ _ _ _ _ _ _
  have hBW:Below w.heap.size w W12:=by
   rw[←hW];with_reducible exact bl12 hB (Nat.le_succ _) _ _ _ _ _ _ _ _ _ _ _ _
  have z:=fun i=>TB.cell i;clear hW hB HZ TB;have r0:W12.cell? ⟨w.heap.size+1,0,none⟩=some (vi vk n0):=z 0;have r1:W12.cell? ⟨w.heap.size+1,1,none⟩=some (vi vk n1):=z 1;have r2:W12.cell? ⟨w.heap.size+1,2,none⟩=some (vi vk p0):=z 2;have r3:W12.cell? ⟨w.heap.size+1,3,none⟩=some (vi vk p1):=z 3;have r4:W12.cell? ⟨w.heap.size+1,4,none⟩=some (vi vk n2):=z 4;have r5:W12.cell? ⟨w.heap.size+1,5,none⟩=some (vi vk n3):=z 5;have r6:W12.cell? ⟨w.heap.size+1,6,none⟩=some (vi vk p2):=z 6;have r7:W12.cell? ⟨w.heap.size+1,7,none⟩=some (vi vk p3):=z 7;have r8:W12.cell? ⟨w.heap.size+1,8,none⟩=some (vi vk n4):=z 8;have r9:W12.cell? ⟨w.heap.size+1,9,none⟩=some (vi vk n5):=z 9;have r10:W12.cell? ⟨w.heap.size+1,10,none⟩=some (vi vk p4):=z 10;have r11:W12.cell? ⟨w.heap.size+1,11,none⟩=some (vi vk p5):=z 11;clear z;refine bodyPost_ret (v:=.agg #[vi vk n0,vi vk n1,vi vk p0,vi vk p1,vi vk n2,vi vk n3,vi vk p2,vi vk p3,vi vk n4,vi vk n5,vi vk p4,vi vk p5]) ?_ rfl ⟨rfl,hBW⟩;clear hBW;simp[results,results117,go_sem,r0,r1,r2,r3,r4,r5,r6,r7,r8,r9,r10,r11]
theorem D2.drw{W:World}{g:Nat}{a b:Int}(h:D2 W g a b):D2 W.drew g a b:=⟨h.lt,h.c0,h.c1,h.f0,h.f1⟩
theorem sA{W2 w':World}{g:Nat}{t:TypeId}{n0 n1 p0 p1 n2 n3 p2 p3 n4 n5 p4 p5:Int}(h:Blk W2 g t #[vi vk n0,vi vk n1,vi vk p0,vi vk p1,vi vk n2,vi vk n3,vi vk p2,vi vk p3,vi vk n4,vi vk n5,vi vk p4,vi vk p5])(hb:Below W2.heap.size W2 w'):
 w'.cell? ⟨g,0,none⟩=some (vi vk n0)∧w'.cell? ⟨g,1,none⟩=some (vi vk n1)∧w'.cell? ⟨g,2,none⟩=some (vi vk p0)∧w'.cell? ⟨g,3,none⟩=some (vi vk p1)∧w'.cell? ⟨g,4,none⟩=some (vi vk n2)∧w'.cell? ⟨g,5,none⟩=some (vi vk n3)∧w'.cell? ⟨g,6,none⟩=some (vi vk p2)∧w'.cell? ⟨g,7,none⟩=some (vi vk p3)∧w'.cell? ⟨g,10,none⟩=some (vi vk p4)∧w'.cell? ⟨g,11,none⟩=some (vi vk p5)∧Below W2.heap.size W2 w':=by
 have k:=h.below hb h.lt;exact⟨k.cell 0,k.cell 1,k.cell 2,k.cell 3,k.cell 4,k.cell 5,k.cell 6,k.cell 7,k.cell 10,k.cell 11,hb⟩
theorem altitude_yes(a b c:Int×Int)(w:World)(ha:avB a.1 a.2=true)(hb:avB b.1 b.2=true)(hc:avB c.1 c.2=true)(h3:(Trig.sinT a b c).1≤1073741824)(h4: -1073741824≤(Trig.sinT a b c).2):
 Calls Tryz.prog 80 #[.agg #[vi vk a.1,vi vk a.2,vi vk b.1,vi vk b.2,vi vk c.1,vi vk c.2]] w fun e w'=>e=.returned (.tuple #[.agg #[vi vk (Trig.asnV (max (Trig.sinT a b c).1 (-1073741824))),vi vk (-Trig.asnV (-(min (Trig.sinT a b c).2 1073741824)))],vi vk 0])∧Below w.heap.size w w':=by
 have hf:=Trig.sinT_fv a b c;have KA:=fun W=>Asin_yes (Trig.sinT a b c).1 (Trig.sinT a b c).2 W hf.1 hf.2.1 hf.2.2 h3 h4;have KO:=fun(g:Nat) (W:World) h=>of_any g a b c W ha hb hc h;have M1:=fun(g:Nat) (W:World) h=>cmul_any g (Trig.snP a) (Trig.snP b) W (Trig.snP_small a) (Trig.snP_small b) h;have M2:=fun(g:Nat) (W:World) h=>cmul_any g (Trig.csP a) (Trig.csP b) W (Trig.csP_small a) (Trig.csP_small b) h;have M3:=fun(g:Nat) (W:World) h=>cmul_any g (Trig.mulP (Trig.csP a) (Trig.csP b)) (Trig.csP c) W (Trig.mulP_small (Trig.csP_small a) (Trig.csP_small b)) (Trig.csP_small c) h;have M4:=fun(g:Nat) (W:World) h=>cadd_any g (Trig.mulP (Trig.snP a) (Trig.snP b)) (Trig.mulP (Trig.mulP (Trig.csP a) (Trig.csP b)) (Trig.csP c)) W (Trig.mulP_small (Trig.snP_small a) (Trig.snP_small b)) (Trig.mulP_small (Trig.mulP_small (Trig.csP_small a) (Trig.csP_small b)) (Trig.csP_small c)) h;have e0:Trig.sinT a b c=Trig.addP (Trig.mulP (Trig.snP a) (Trig.snP b)) (Trig.mulP (Trig.mulP (Trig.csP a) (Trig.csP b)) (Trig.csP c)):=rfl;rw[←e0] at M4;obtain⟨⟨s0,s1⟩,hs⟩: ∃x,Trig.sinT a b c=x:=⟨_,rfl⟩;rw[hs] at M4 KA⊢;obtain⟨⟨u0,u1⟩,hu⟩: ∃x,Trig.mulP (Trig.mulP (Trig.csP a) (Trig.csP b)) (Trig.csP c)=x:=⟨_,rfl⟩;rw[hu] at M3 M4;obtain⟨⟨v0,v1⟩,hv⟩: ∃x,Trig.mulP (Trig.csP a) (Trig.csP b)=x:=⟨_,rfl⟩;rw[hv] at M2 M3;obtain⟨⟨t0,t1⟩,ht⟩: ∃x,Trig.mulP (Trig.snP a) (Trig.snP b)=x:=⟨_,rfl⟩;rw[ht] at M1 M4;obtain⟨⟨n0,n1⟩,hn⟩: ∃x,Trig.snP a=x:=⟨_,rfl⟩;obtain⟨⟨n2,n3⟩,hn2⟩: ∃x,Trig.snP b=x:=⟨_,rfl⟩;obtain⟨⟨n4,n5⟩,hn3⟩: ∃x,Trig.snP c=x:=⟨_,rfl⟩;obtain⟨⟨p0,p1⟩,hp⟩: ∃x,Trig.csP a=x:=⟨_,rfl⟩;obtain⟨⟨p2,p3⟩,hp2⟩: ∃x,Trig.csP b=x:=⟨_,rfl⟩;obtain⟨⟨p4,p5⟩,hp3⟩: ∃x,Trig.csP c=x:=⟨_,rfl⟩;rw[hn,hn2,hn3,hp,hp2,hp3] at KO;rw[hn,hn2] at M1;rw[hp,hp2] at M2;rw[hp3] at M3;clear e0 hs hu hv ht hn hn2 hn3 hp hp2 hp3 hf h3 h4 ha hb hc;simp only[] at M1 M2 M3 M4 KA KO⊢;generalize Trig.asnV (max s0 (-1073741824))=r0 at*;generalize-Trig.asnV (-(min s1 1073741824))=r1 at*;obtain⟨a0,a1⟩:=a;obtain⟨b0,b1⟩:=b;obtain⟨c0,c1⟩:=c;simp only[] at KO⊢;have KA:=hid KA;have KO:=hid KO;have M1:=hid M1;have M2:=hid M2;have M3:=hid M3;have M4:=hid M4;have TC:Hid (Blk (((w.alloc (.cells #[vi vk a0,vi vk a1,vi vk b0,vi vk b1,vi vk c0,vi vk c1] 66)).alloc (.cells #[vi vk 0,vi vk 0] 31)).alloc (.cells #[vi vk 0] 157)) (w.heap.size+1+1) 157 #[vi vk 0]):=hid (by
  have:=Blk.new ((w.alloc (.cells #[vi vk a0,vi vk a1,vi vk b0,vi vk b1,vi vk c0,vi vk c1] 66)).alloc (.cells #[vi vk 0,vi vk 0] 31)) 157 #[vi vk 0];rwa [World.size_alloc,World.size_alloc] at this)
 have TR:Hid (D2 (((w.alloc (.cells #[vi vk a0,vi vk a1,vi vk b0,vi vk b1,vi vk c0,vi vk c1] 66)).alloc (.cells #[vi vk 0,vi vk 0] 31)).alloc (.cells #[vi vk 0] 157)) (w.heap.size+1) 0 0):=hid (by
  have:=(D2.new (w.alloc (.cells #[vi vk a0,vi vk a1,vi vk b0,vi vk b1,vi vk c0,vi vk c1] 66)) 0 0 31).alloc (.cells #[vi vk 0] 157);rwa [World.size_alloc] at this)
 have B0:=hid (((bl_alloc w (.cells #[vi vk a0,vi vk a1,vi vk b0,vi vk b1,vi vk c0,vi vk c1] 66)).alloc (by simp) (.cells #[vi vk 0,vi vk 0] 31)).alloc (by simp;omega) (.cells #[vi vk 0] 157));go_enter func80,ntmps80;go_wp2_with fail;(with_reducible refine(KO.out _ _ TC.out).mono ?_)
 rintro e w1 ⟨rfl,hb1⟩
 have TC1:=hid (TC.out.below hb1 TC.out.lt);have TR1:=hid (TR.out.below hb1 TR.out.lt);have B1:=hid (B0.out.trans (hb1.mono B0.out.size));clear hb1 TC TR B0;go_upto_region 3 with (fail)
 have X1:=hid (Blk.new w1 160 #[vi vk n0,vi vk n1,vi vk p0,vi vk p1,vi vk n2,vi vk n3,vi vk p2,vi vk p3,vi vk n4,vi vk n5,vi vk p4,vi vk p5]);have HC:=hid (TC1.out.alloc (.cells #[vi vk n0,vi vk n1,vi vk p0,vi vk p1,vi vk n2,vi vk n3,vi vk p2,vi vk p3,vi vk n4,vi vk n5,vi vk p4,vi vk p5] 160));have TR2:=hid (TR1.out.alloc (.cells #[vi vk n0,vi vk n1,vi vk p0,vi vk p1,vi vk n2,vi vk n3,vi vk p2,vi vk p3,vi vk n4,vi vk n5,vi vk p4,vi vk p5] 160));have B2:=hid (B1.out.alloc B1.out.size (.cells #[vi vk n0,vi vk n1,vi vk p0,vi vk p1,vi vk n2,vi vk n3,vi vk p2,vi vk p3,vi vk n4,vi vk n5,vi vk p4,vi vk p5] 160));have hg:w.heap.size+1+1<w1.heap.size:=TC1.out.lt;generalize w1.alloc (.cells #[vi vk n0,vi vk n1,vi vk p0,vi vk p1,vi vk n2,vi vk n3,vi vk p2,vi vk p3,vi vk n4,vi vk n5,vi vk p4,vi vk p5] 160)=W2 at*;generalize w1.heap.size=g at*;clear TC1 TR1 B1 KO;have hl:=HC.out.lt;go_cut [6] (fun s6 wy=> ∃q:Nat,s6=.pointer (some ⟨q,0,none⟩)∧D2 wy q s0 s1∧Blk wy (w.heap.size+1+1) 157 #[vi vk 0]∧D2 wy (w.heap.size+1) 0 0∧Below w.heap.size w wy)
 case first=>
  obtain⟨y0,y1,y2,y3,y4,y5,y6,y7,y8,y9,Z0⟩:=sA X1.out (Below.refl _ _);go_region_held3 (fun w'=>w'.cell? ⟨g,0,none⟩=some (vi vk n0)∧w'.cell? ⟨g,1,none⟩=some (vi vk n1)∧w'.cell? ⟨g,2,none⟩=some (vi vk p0)∧w'.cell? ⟨g,3,none⟩=some (vi vk p1)∧w'.cell? ⟨g,4,none⟩=some (vi vk n2)∧w'.cell? ⟨g,5,none⟩=some (vi vk n3)∧w'.cell? ⟨g,6,none⟩=some (vi vk p2)∧w'.cell? ⟨g,7,none⟩=some (vi vk p3)∧w'.cell? ⟨g,10,none⟩=some (vi vk p4)∧w'.cell? ⟨g,11,none⟩=some (vi vk p5)∧Below W2.heap.size W2 w') (exact sA X1.out (bl_)) (first
   |(go_at_call 119;(first|(with_reducible refine(M1.out _ _ (HC.out.below (show Below W2.heap.size W2 _ from bl_) HC.out.lt)).mono ?_)|(with_reducible refine(M2.out _ _ (HC.out.below (show Below W2.heap.size W2 _ from bl_) HC.out.lt)).mono ?_)|(with_reducible refine(M3.out _ _ (HC.out.below (show Below W2.heap.size W2 _ from bl_) HC.out.lt)).mono ?_));rintro e w9 ⟨rfl,hb9⟩;have Z9:=(show Below W2.heap.size W2 _ from bl_).trans (hb9.mono (by first|exact Nat.le_refl _|(simp;done)|(simp;omega)|omega));have z9:=Z9.size;obtain⟨y0,y1,y2,y3,y4,y5,y6,y7,y8,y9,-⟩:=sA X1.out Z9;(first|(have NN:=hid ((D2.new W2 0 0 158).drw.below hb9 (by simp));have nn:=NN.out;(try simp only[World.size_alloc,World.size_drew] at nn);obtain⟨nt,m0,m1,nf0,nf1⟩:=nn)|(have NN:=hid ((D2.new _ 0 0 158).below hb9 (by simp));have nn:=NN.out;(try simp only[World.size_alloc,World.size_drew] at nn);obtain⟨nt,m0,m1,nf0,nf1⟩:=nn)|(have NN:=hid (NN.out.below hb9 NN.out.lt);have nn:=NN.out;(try simp only[World.size_alloc,World.size_drew] at nn);obtain⟨nt,m0,m1,nf0,nf1⟩:=nn)|skip))
   |(go_at_call 118;(with_reducible refine(M4.out _ _ (HC.out.below (show Below W2.heap.size W2 _ from bl_) HC.out.lt)).mono ?_);rintro e w9 ⟨rfl,hb9⟩;have Z9:=(show Below W2.heap.size W2 _ from bl_).trans (hb9.mono (by first|exact Nat.le_refl _|(simp;done)|(simp;omega)|omega));have z9:=Z9.size;obtain⟨y0,y1,y2,y3,y4,y5,y6,y7,y8,y9,-⟩:=sA X1.out Z9;(first|(have NN:=hid ((D2.new W2 0 0 158).drw.below hb9 (by simp));have nn:=NN.out;(try simp only[World.size_alloc,World.size_drew] at nn);obtain⟨nt,m0,m1,nf0,nf1⟩:=nn)|(have NN:=hid ((D2.new _ 0 0 158).below hb9 (by simp));have nn:=NN.out;(try simp only[World.size_alloc,World.size_drew] at nn);obtain⟨nt,m0,m1,nf0,nf1⟩:=nn)|(have NN:=hid (NN.out.below hb9 NN.out.lt);have nn:=NN.out;(try simp only[World.size_alloc,World.size_drew] at nn);obtain⟨nt,m0,m1,nf0,nf1⟩:=nn)|skip))
   |fail)
  all_goals
   try go_wp2_with fail
   go_meet
   case rel=>
    have hl2:=HC.out.lt;have hZ:=B2.out.trans (Z9.mono B2.out.size);first
     |exact⟨_,rfl,D2.new w9 s0 s1 _,(HC.out.below Z9 HC.out.lt).alloc _,(TR2.out.below Z9 TR2.out.lt).alloc _,hZ.alloc hZ.size _⟩
     |exact⟨_,rfl,(NN.out.set0 s0).set1 s1,((HC.out.below Z9 HC.out.lt).far so_ _).far so_ _,((TR2.out.below Z9 TR2.out.lt).far so_ _).far so_ _,(hZ.setCell so_ _).setCell so_ _⟩
     |(trace_state;fail)
 case rest=>
  obtain⟨q,rfl,hD,hC,hR,hB⟩:=hcut;rename World=>w3
  have R3:=hid hR;have c0:w3.cell? ⟨w.heap.size+1+1,0,none⟩=some (vi vk 0):=by rw[hC.cell 0];rfl
  have cl:=hC.lt;clear hR X1 TR2 B2 M1 M2 M3 M4;obtain⟨xt,xa,xb,xc,xd⟩:=hD;go_wp2_with fail;(with_reducible refine(KA.out _).mono ?_)
  rintro e w4 ⟨rfl,hb4⟩
  have B4:=hB.trans (hb4.mono hB.size);have R4:=R3.out.below hb4 R3.out.lt;clear hb4 R3 xt xa xb xc xd hC hB c0;obtain⟨rt,ra,rb,rf0,rf1⟩:=R4;go_wp2;refine bodyPost_ret (v:=.tuple #[.agg #[vi vk r0,vi vk r1],vi vk 0]) (by simp[results,results80,go_sem, *];done) rfl ⟨rfl,?_⟩;exact(B4.setCell so_ _).setCell so_ _
end Go.Proofs.YtdeiofgddhbdaaaGreat
