/- The walk of slices.Compact at int. -/
import Derived.Test.YtdeiofgddhbdaaaGreatRows
import Derived.Below
import Derived.ProofKit
import Derived.Lib.SmallJoins
import Derived.Deep.Slices
import Derived.Deep.Strs
import Derived.Deep.Fields
import Derived.ChangeSame
import Derived.Carry
import Derived.Lib.SliceRun
import Derived.Test.YtdeiofgddhbdaaaGreatHRj
set_option linter.unusedSimpArgs false
set_option linter.unusedVariables false
set_option maxHeartbeats 4000000
set_option maxRecDepth 100000
open Go.ChangeShapes Go.WideShapes Go.ChangeAt Go.RowKit Go.Joins Go.Deep
open Go.Lib (hid)
open Go.Proofs.Tryz
open Go.Value renaming int→vi
open Go.IntKind renaming i64→vk
namespace Go.Proofs.YtdeiofgddhbdaaaGreat
def latB(a:Sp):Bool:=decide (-5400000≤a.1)&&(decide (a.1≤a.2)&&decide (a.2≤5400000))
def vlB(a:Sp):Bool:=decide ((a.1= -10800000∧a.2=10800000)∨(-10800000≤a.1∧a.1<10800000∧a.1≤a.2∧a.2-a.1<21600000))
theorem vlB_iff(a:Sp):vlB a=true↔VL a:=by unfold vlB VL;exact decide_eq_true_iff
def vpB(q:Bx):Bool:=latB (q.1,q.2.1)&&vlB (q.2.2.1,q.2.2.2)
theorem vpB_iff(q:Bx):vpB q=true↔VP q:=by
 unfold vpB latB;rw[Bool.and_eq_true,Bool.and_eq_true,Bool.and_eq_true,decide_eq_true_eq,decide_eq_true_eq,decide_eq_true_eq,vlB_iff];constructor
 · rintro⟨⟨h1,h2,h3⟩,h4⟩;exact⟨h2,h1,h3,h4⟩
 · rintro⟨h1,h2,h3,h4⟩;exact⟨⟨h2,h1,h3⟩,h4⟩
def vciB(k:Ci):Bool:=latB (k.1.1,k.1.2.1)&&(vlB (k.1.2.2.1,k.1.2.2.2)&&(decide (0≤k.2.1)&&(decide (k.2.1≤k.2.2)&&decide (k.2.2≤10800000))))
theorem vciB_iff(k:Ci):vciB k=true↔VCi k:=by
 have h:=vpB_iff k.1;unfold vpB at h;rw[Bool.and_eq_true] at h;unfold vciB;rw[Bool.and_eq_true,Bool.and_eq_true,Bool.and_eq_true,Bool.and_eq_true,decide_eq_true_eq,decide_eq_true_eq,decide_eq_true_eq];constructor
 · rintro⟨h1,h2,h3,h4,h5⟩;exact⟨h.1 ⟨h1,h2⟩,h3,h4,h5⟩
 · rintro⟨h1,h3,h4,h5⟩;exact⟨(h.2 h1).1,(h.2 h1).2,h3,h4,h5⟩
theorem rValidLat_all(lo hi:Int)(w:World):Calls Tryz.prog 49 #[.agg #[vi vk lo,vi vk hi]] w fun e w'=>e=.returned (.bool (latB (lo,hi)))∧Below w.heap.size w w':=by
 unfold latB;cases d0:decide (-5400000≤lo)<;>cases d1:decide (lo≤hi)<;>cases d2:decide (hi≤5400000)
 all_goals
  go_enter func49,ntmps49;go_wp2;go_ret;refine⟨rfl,?_⟩;exact bl_
theorem rValidLon_all(lo hi:Int)(w:World):Calls Tryz.prog 50 #[.agg #[vi vk lo,vi vk hi]] w fun e w'=>e=.returned (.bool (vlB (lo,hi)))∧Below w.heap.size w w':=by
 by_cases hv:VL (lo,hi)
 · rw[(vlB_iff (lo,hi)).2 hv]
   exact rValidLon_vl lo hi w hv
 · have hf:vlB (lo,hi)=false:=by
    cases h:vlB (lo,hi) with
    |false=>rfl
    |true=>exact absurd ((vlB_iff _).1 h) hv
   rw[hf];have h': ¬((lo= -10800000∧hi=10800000)∨(-10800000≤lo∧lo<10800000∧lo≤hi∧hi-lo<21600000)):=hv;have hN2:aeq lo hi (-10800000) 10800000=false:=by simp[aeq];omega
   have hd:(decide (-10800000≤lo)=false)∨(decide (-10800000≤lo)=true∧decide (lo<10800000)=false)∨(decide (-10800000≤lo)=true∧decide (lo<10800000)=true∧decide (lo≤hi)=false)∨(decide (-10800000≤lo)=true∧decide (lo<10800000)=true∧decide (lo≤hi)=true∧decide (hi<lo+21600000)=false∧IntKind.i64.wrap (lo+21600000)=lo+21600000):=by
    simp only[decide_eq_false_iff_not,decide_eq_true_eq];by_cases c0: -10800000≤lo
    · by_cases c1:lo<10800000
      · by_cases c2:lo≤hi
        · exact .inr (.inr (.inr ⟨c0,c1,c2,om_,IntWalk.i64_in _ om_⟩))
        · exact .inr (.inr (.inl ⟨c0,c1,c2⟩))
      · exact .inr (.inl ⟨c0,c1⟩)
    · exact .inl c0
   have hq:=eqlArc;have KA:=hid rAll_any;have hb0:=hid (bl_alloc w (.cells #[vi vk lo,vi vk hi] 31));have D0:=hid (D2.new w lo hi 31);clear hv hf h';rcases hd with q0|⟨q0,q1⟩|⟨q0,q1,q2⟩|⟨q0,q1,q2,q3,s1⟩
   all_goals
    go_enter func50,ntmps50;go_upto_region 1 with (fail)
    generalize w.alloc (.cells #[vi vk lo,vi vk hi] 31)=w1 at hb0 D0⊢;have c0: ∀s:BV w1,s.w.cell? ⟨w.heap.size,0,none⟩=some (vi vk lo):=fun s=>(s.hb.cell (p:=⟨w.heap.size,0,none⟩) D0.out.lt).trans D0.out.c0;have c1: ∀s:BV w1,s.w.cell? ⟨w.heap.size,1,none⟩=some (vi vk hi):=fun s=>(s.hb.cell (p:=⟨w.heap.size,1,none⟩) D0.out.lt).trans D0.out.c1;refine wp_region_bv w1 (by kernel_rfl) (by kernel_rfl) (Below.refl _ _) ?_;(repeat (go_big_quiet_step (first|(go_at_call 85;with_reducible exact quiet_bv (KA.out _))|fail)))
    refine wpQuiet_nil ?_;intro w9 hb9;clear c0 c1;go_wp2;go_ret;exact⟨ret_bool (by simp),hb0.out.trans (hb9.mono hb0.out.size)⟩
theorem rValid35_all(k:Ci)(w:World):Calls Tryz.prog 48 #[civ k] w fun e w'=>e=.returned (.bool (vciB k))∧Below w.heap.size w w':=by
 obtain⟨⟨a0,a1,o0,o1⟩,r0,r1⟩:=k;unfold civ vciB;simp only[];have K1:=fun W=>rValidLat_all a0 a1 W;have K2:=fun W=>rValidLon_all o0 o1 W;generalize latB (a0,a1)=b1 at K1⊢;generalize vlB (o0,o1)=b2 at K2⊢;have C0:=hid (Blk.new w 33 #[vi vk a0,vi vk a1,vi vk o0,vi vk o1,vi vk r0,vi vk r1]);have B0:=hid (bl_alloc w (.cells #[vi vk a0,vi vk a1,vi vk o0,vi vk o1,vi vk r0,vi vk r1] 33));cases b1 with
 |false=>
  have K1:=hid K1;clear K2;go_enter func48,ntmps48;go_wp2_with fail;(with_reducible refine(K1.out _).mono ?_)
  rintro e w1 ⟨rfl,hb1⟩
  have B1:=hid (B0.out.trans (hb1.mono B0.out.size));clear hb1 C0 B0;go_wp2;go_ret;exact⟨ret_bool (by simp),B1.out⟩
 |true=>
  have K1:=hid K1;cases b2 with
  |false=>
   have K2:=hid K2;go_enter func48,ntmps48;go_wp2_with fail;(with_reducible refine(K1.out _).mono ?_)
   rintro e w1 ⟨rfl,hb1⟩
   have B1:=hid (B0.out.trans (hb1.mono B0.out.size));have C1:=hid (C0.out.below hb1 C0.out.lt);have y2:w1.cell? ⟨w.heap.size,2,none⟩=some (vi vk o0):=C1.out.cell 2;have y3:w1.cell? ⟨w.heap.size,3,none⟩=some (vi vk o1):=C1.out.cell 3;clear hb1 C0 B0;go_wp2_with fail;(with_reducible refine(K2.out _).mono ?_)
   rintro e w2 ⟨rfl,hb2⟩
   have B2:=hid (B1.out.trans (hb2.mono B1.out.size));clear hb2 y2 y3;go_wp2;go_ret;exact⟨ret_bool (by simp),B2.out⟩
  |true=>
   have K2:=hid K2;cases d3:decide (0≤r0)<;>cases d4:decide (r0≤r1)<;>cases d5:decide (r1≤10800000)
   all_goals
    go_enter func48,ntmps48;go_wp2_with fail;(with_reducible refine(K1.out _).mono ?_)
    rintro e w1 ⟨rfl,hb1⟩
    have B1:=hid (B0.out.trans (hb1.mono B0.out.size));have C1:=hid (C0.out.below hb1 C0.out.lt);have y2:w1.cell? ⟨w.heap.size,2,none⟩=some (vi vk o0):=C1.out.cell 2;have y3:w1.cell? ⟨w.heap.size,3,none⟩=some (vi vk o1):=C1.out.cell 3;clear hb1 C0 B0;go_wp2_with fail;(with_reducible refine(K2.out _).mono ?_)
    rintro e w2 ⟨rfl,hb2⟩
    have B2:=hid (B1.out.trans (hb2.mono B1.out.size));have C2:=hid (C1.out.below hb2 C1.out.lt);have k4:w2.cell? ⟨w.heap.size,4,none⟩=some (vi vk r0):=C2.out.cell 4;have k5:w2.cell? ⟨w.heap.size,5,none⟩=some (vi vk r1):=C2.out.cell 5;clear hb2 y2 y3;go_wp2;go_ret;exact⟨ret_bool (by simp),B2.out⟩
def civl(k:Ci):List Value:=[vi vk k.1.1,vi vk k.1.2.1,vi vk k.1.2.2.1,vi vk k.1.2.2.2,vi vk k.2.1,vi vk k.2.2]
def civs(L:List Ci):List Value:=L.flatMap civl
def gci(L:List Ci)(k:Nat):Ci:=L.getD k ((0,0,0,0),0,0)
theorem civs_length(L:List Ci):(civs L).length=L.length*6:=by
 induction L with
 |nil=>rfl
 |cons x r ih=>simp[civs,civl] at ih⊢;omega
theorem civs_append(L M:List Ci):civs (L++M)=civs L++civs M:=by simp[civs]
theorem civl_one(x:Ci): ∀u∈civl x,u.oneCell'=true:=by
 intro u hu;simp[civl] at hu;rcases hu with rfl|rfl|rfl|rfl|rfl|rfl<;>rfl
theorem gci_mem(L:List Ci)(k:Nat)(hk:k<L.length):gci L k∈L:=by simp[gci,hk]
theorem civs_at: ∀(L:List Ci) (k:Nat),k<L.length→ ∀j,j<6→(civs L)[k*6+j]? =(civl (gci L k))[j]?
 | [],k,hk=>by simp at hk
 |x::r,0,hk=>fun j hj=>by
  have hc:civs (x::r)=civl x++civs r:=rfl;rw[hc,Nat.zero_mul,Nat.zero_add,List.getElem?_append_left (by simp[civl];omega)];rfl
 |x::r,k+1,hk=>fun j hj=>by
  have hc:civs (x::r)=civl x++civs r:=rfl;have hl:(civl x).length=6:=rfl;have e1:(k+1)*6+j-6=k*6+j:=by omega
  rw[hc,List.getElem?_append_right (by rw[hl];omega),hl,e1,civs_at r k (by simpa using hk) j hj];rfl
theorem Reads.lenC{w:World}{B n:Nat}{A:Option Addr}{L:List Ci}(h:Reads w B 6 A n (civs L)):L.length=n:=by
 have:=h.1;rw[civs_length] at this;omega
structure CAt(w:World)(b o:Nat)(x:Ci):Prop where
 c0:w.cell? ⟨b,o,none⟩=some (vi vk x.1.1)
 c1:w.cell? ⟨b,o+1,none⟩=some (vi vk x.1.2.1)
 c2:w.cell? ⟨b,o+2,none⟩=some (vi vk x.1.2.2.1)
 c3:w.cell? ⟨b,o+3,none⟩=some (vi vk x.1.2.2.2)
 c4:w.cell? ⟨b,o+4,none⟩=some (vi vk x.2.1)
 c5:w.cell? ⟨b,o+5,none⟩=some (vi vk x.2.2)
theorem CAt.below{w w':World}{b o B:Nat}{x:Ci}(h:CAt w b o x)(hb:Below B w w')(hB:b<B):CAt w' b o x:=
 ⟨(hb.cell (p:=⟨b,o,none⟩) hB).trans h.c0,(hb.cell (p:=⟨b,o+1,none⟩) hB).trans h.c1,(hb.cell (p:=⟨b,o+2,none⟩) hB).trans h.c2,(hb.cell (p:=⟨b,o+3,none⟩) hB).trans h.c3,(hb.cell (p:=⟨b,o+4,none⟩) hB).trans h.c4,(hb.cell (p:=⟨b,o+5,none⟩) hB).trans h.c5⟩
theorem Reads.elemC{w:World}{B n:Nat}{A:Option Addr}{L:List Ci}(h:Reads w B 6 A n (civs L)){k:Nat}(hk:k<n):
 ∃b off,A=some ⟨b,off,none⟩∧b<B∧CAt w b (off+k*6) (gci L k):=by
 have hl:=h.lenC;obtain⟨ad,rfl,hb,hc⟩:=h.2 om_;obtain⟨b,off,spot⟩:=ad;have z1:=civs_at L 0 om_ 0 om_;have hspot:spot=none:=by simpa [Addr.add] using World.cell?_spot (hc 0 _ (by simpa [civl] using z1))
 subst hspot;have y:=civs_at L k om_;have c: ∀j u,j<6→(civl (gci L k))[j]? =some u→w.cell? ⟨b,off+(k*6+j),none⟩=some u:=by
  intro j u hj hu;have:=hc (k*6+j) u ((y j hj).trans hu);rw[Go.WideShapes.add_plain] at this;exact this
 exact⟨b,off,rfl,hb,c 0 _ om_ rfl,c 1 _ om_ rfl,c 2 _ om_ rfl,c 3 _ om_ rfl,c 4 _ om_ rfl,c 5 _ om_ rfl⟩
theorem anyC_take(L:List Ci)(p:Ci→Bool)(k:Nat)(hk:k<L.length)(h:(L.take k).any p=false):p (gci L k)=false→(L.take (k+1)).any p=false:=by
 intro hp;rw[List.take_succ_eq_append_getElem hk,List.any_append,h];simpa [gci,hk] using hp
theorem anyC_of(L:List Ci)(p:Ci→Bool)(k:Nat)(hk:k<L.length):p (gci L k)=true→L.any p=true:=fun hp=>List.any_eq_true.2 ⟨_,gci_mem L k hk,hp⟩
theorem idxC_any(g:Nat)(lb:Array Value)(p:Ci→Bool)(eg: ∀args w,(callFunc g args).run Tryz.prog w=.ok (.enter g args) w)(A:Option Addr)(n c:Nat)(L:List Ci)(w:World)
 (hr:Reads w w.heap.size 6 A n (civs L)) (hn:n≤maxLen) (hp: ∀(W:World) (x:Ci),x∈L→Below w.heap.size w W→Calls Tryz.prog g (#[civ x]++lb) W fun e w'=>e=.returned (.bool (p x))∧Below W.heap.size W w'):
 Calls Tryz.prog 96 #[.slice A n c,.func (.func g) #[] lb] w (IdxPost w (L.any p)):=by
 have HL:=hid hr.lenC;have HR:=hid hr;have HP:=hid hp;clear hr hp;unfold maxLen at hn;go_enter func96,ntmps96;go_wp2;go_loopg [8] n (fun gg s8 wr=> ∃kk:Nat,kk≤n∧n-kk≤gg∧s8=vi vk kk∧Below w.heap.size w wr∧(L.take kk).any p=false)
 case atStart=>exact⟨0,Nat.zero_le _,om_,rfl,Below.refl _ w,rfl⟩
 case round=>
  obtain⟨kk,hkk,hg,rfl,BW,HA⟩:=hrel;have HA:=hid HA;by_cases hlt:kk<n
  · obtain⟨b,off,rfl,hb,hx⟩:=HR.out.elemC hlt
    obtain⟨y0,y1,y2,y3,y4,y5⟩:=hx.below BW hb;clear hx;have hcall:=HP.out wr (gci L kk) (gci_mem L kk (by rw[HL.out];exact hlt)) BW;have h1:=hid (anyC_take L p kk (by rw[HL.out];exact hlt) HA.out);have h2:=hid (anyC_of L p kk (by rw[HL.out];exact hlt));unfold civ at hcall;cases hq:p (gci L kk) with
    |true=>
     have h3:=hid (h2.out hq);rw[hq] at hcall;have hcall:=hid hcall;clear hq h1 h2;go_wp2_with (go_at_fn g;refine hcall.out.mono ?_;rintro e w' ⟨rfl,hb'⟩);go_ret;exact⟨kk,rfl,by rw[h3.out];simp,BW.trans (hb'.mono BW.size)⟩
    |false=>
     have h3:=hid (h1.out hq);rw[hq] at hcall;have hcall:=hid hcall;clear hq h1 h2;go_wp2_with (go_at_fn g;refine hcall.out.mono ?_;rintro e w' ⟨rfl,hb'⟩);go_roundg (n-(kk+1))
     case measure=>omega
     case rel=>exact⟨kk+1,om_,om_,by go_num,BW.trans (hb'.mono BW.size),h3.out⟩
  · go_wp2
    go_ret;have h:=HA.out;rw[List.take_of_length_le (by rw[HL.out];omega)] at h;exact⟨-1,rfl,by rw[h];rfl,BW⟩
theorem contC_any(g:Nat)(lb:Array Value)(p:Ci→Bool)(eg: ∀args w,(callFunc g args).run Tryz.prog w=.ok (.enter g args) w)(A:Option Addr)(n c:Nat)(L:List Ci)(w:World)
 (hr:Reads w w.heap.size 6 A n (civs L)) (hn:n≤maxLen) (hp: ∀(W:World) (x:Ci),x∈L→Below w.heap.size w W→Calls Tryz.prog g (#[civ x]++lb) W fun e w'=>e=.returned (.bool (p x))∧Below W.heap.size W w'):
 Calls Tryz.prog 55 #[.slice A n c,.func (.func g) #[] lb] w fun e w'=>e=.returned (.bool (L.any p))∧Below w.heap.size w w':=by
 have H:=hid (idxC_any g lb p eg A n c L w hr hn hp);clear hp hr hn eg;go_enter func55,ntmps55;go_wp2_with (go_at_call 96;refine H.out.mono ?_;rintro e w1 ⟨k,rfl,hk,hb⟩;have HK:=hid hk;clear hk);go_ret;exact⟨ret_bool HK.out,hb⟩
theorem allC_take(L:List Ci)(p:Ci→Bool)(k:Nat)(hk:k<L.length)(h:(L.take k).all p=true):p (gci L k)=true→(L.take (k+1)).all p=true:=by
 intro hp;rw[List.take_succ_eq_append_getElem hk,List.all_append,h];simpa [gci,hk] using hp
theorem allC_of(L:List Ci)(p:Ci→Bool)(k:Nat)(hk:k<L.length):p (gci L k)=false→L.all p=false:=fun hp=>by
 cases h:L.all p with
 |false=>rfl
 |true=>rw[List.all_eq_true.1 h _ (gci_mem L k hk)] at hp;cases hp
theorem rValid39_any(A:Option Addr)(n c:Nat)(L:List Ci)(w:World)(hr:Reads w w.heap.size 6 A n (civs L))(hn:n≤maxLen):
 Calls Tryz.prog 26 #[.slice A n c] w fun e w'=>e=.returned (.bool (L.all vciB))∧Below w.heap.size w w':=by
 have HL:=hid hr.lenC;have HR:=hid hr;clear hr;unfold maxLen at hn;go_enter func26,ntmps26;go_wp2;go_loopg [3] n (fun gg s3 wr=> ∃kk:Nat,kk≤n∧n-kk≤gg∧s3=vi vk kk∧Below w.heap.size w wr∧(L.take kk).all vciB=true)
 case atStart=>exact⟨0,Nat.zero_le _,om_,rfl,Below.refl _ w,rfl⟩
 case round=>
  obtain⟨kk,hkk,hg,rfl,BW,HA⟩:=hrel;have HA:=hid HA;by_cases hlt:kk<n
  · obtain⟨b,off,rfl,hb,hx⟩:=HR.out.elemC hlt
    obtain⟨y0,y1,y2,y3,y4,y5⟩:=hx.below BW hb;clear hx;have hcall:=rValid35_all (gci L kk) wr;have h1:=hid (allC_take L vciB kk (by rw[HL.out];exact hlt) HA.out);have h2:=hid (allC_of L vciB kk (by rw[HL.out];exact hlt));unfold civ at hcall;cases hq:vciB (gci L kk) with
    |true=>
     have h3:=hid (h1.out hq);rw[hq] at hcall;have hcall:=hid hcall;clear hq h1 h2;go_wp2_with fail;(with_reducible refine(hcall.out).mono ?_)
     rintro e w' ⟨rfl,hb'⟩
     go_wp2;go_roundg (n-(kk+1))
     case measure=>omega
     case rel=>exact⟨kk+1,om_,om_,by go_num,BW.trans (hb'.mono BW.size),h3.out⟩
    |false=>
     have h3:=hid (h2.out hq);rw[hq] at hcall;have hcall:=hid hcall;clear hq h1 h2;go_wp2_with fail;(with_reducible refine(hcall.out).mono ?_)
     rintro e w' ⟨rfl,hb'⟩
     go_wp2;go_ret;exact⟨ret_bool h3.out.symm,BW.trans (hb'.mono BW.size)⟩
  · go_wp2
    go_ret;have h:=HA.out;rw[List.take_of_length_le (by rw[HL.out];omega)] at h;exact⟨ret_bool h.symm,BW⟩
section
theorem Tryz.own:ownKnob Tryz.prog.godebug=none:=by kernel_rfl
section
variable {H:Type} {enc:TypeId×Value→H} {P:Program}
theorem post_of_below{f:Func}{s:ChangeSpec}{apart fresh handsOn again:Bool}{W W':World}{args:Array Value}{v:Value}{ds gs:List (DataW H)}{before pa pv:List MemPlace}
 (hW:DataW.Whole enc P f.params.toList s.vars apart W args.toList ds gs before)
 (hres: ∀(b:Nat) (sp:Nat→Bool) (hd:Bool),DataW.TrodAll enc P W' b sp hd f.resultTypes.toList (v.resultList f.resultTypes.size) (s.fn H (ds++gs)).results [])
 (hargs: ∀sp:Nat→Bool,(∀p∈before,sp p.block=true)→DataW.TrodAll enc P W' 0 sp true f.params.toList args.toList (s.fn H (ds++gs)).args pa)
 (hvars: ∀sp:Nat→Bool,(∀p∈before,sp p.block=true)→DataW.TrodVars enc P W' sp s.vars (s.fn H (ds++gs)).vars pv)
 (hps:before=pa++pv) (hb:Below W.heap.size W W')
 (hok: ∀(j:Nat) (t:TypeId) (r:Value),f.resultTypes[j]? =some t→(v.resultList f.resultTypes.size)[j]? =some r→Value.okWide P W' .any 0 t r):
 s.post enc P f apart fresh handsOn again W args v W':=by
 have hlt: ∀p∈before,p.block<W.heap.size:=fun p hp=>hW.lt p hp;have hold: ∀p∈before,(fun b=>decide (b<W.heap.size)) p.block=true:=fun p hp=>by simpa using hlt p hp
 refine⟨ds,gs,before,[],pa,pv,hW,hres _ _ _,hargs _ hold,hvars _ hold,World.keptBut_mono (fun p hp=>⟨hp,?_⟩) (hb.frame (· ∈before)),fun _=>?_⟩
 · rw[hps,List.mem_append] at hp
   exact Or.inr hp
 · obtain⟨_,_,_,_,_,hz,hn⟩:=hW
   refine⟨hok,_,_,([]++pa)++pv,⟨[]++pa,pv,trodAll_append (hargs _ (fun _ _=>rfl)) (hres _ _ _),hvars _ (fun _ _=>rfl),rfl,?_,?_⟩,?_⟩
   · intro b off hp
     have hin:MemPlace.cell b off∈before:=by rw[hps];simpa using hp
     rw[hb.frozen (hlt _ hin)];exact hz b off hin
   · intro ha
     have:=hn ha;rw[hps] at this;simpa using this
   · intro p hp _
     rw[hps];simpa using hp
end
end
section
section
variable {H:Type} {enc:TypeId×Value→H} {P:Program} {w:World} {base:Nat} {spare:Nat→Bool} {held:Bool}
end
theorem Tryz.laidOutB:laidOutB Tryz.prog=true:=by kernel_rfl
end
section
section
variable {H:Type} {enc:TypeId×Value→H} {P:Program} {w:World} {base:Nat} {spare:Nat→Bool} {held:Bool}
theorem open_pair{t:TypeId}{f0 f1:Field}{c0 c1:Value}{x:DataW H×List MemPlace}{fuel:Nat}(hs:P.underlying t=some (.struct #[f0,f1]))(hone:oneCellFields P #[f0,f1]=true)
 (h:DataW.trod enc P w base spare held fuel t [c0,c1]=some x):
 ∃y0 y1 n,DataW.trod enc P w base spare held n f0.type [c0]=some y0∧DataW.trod enc P w base spare held n f1.type [c1]=some y1:=by
 obtain⟨y0,y1,n,_,_,h0,h1⟩:=trod_struct2 hs h;obtain⟨o0,k0⟩:=hone_of hone 0 f0 rfl;obtain⟨o1,k1⟩:=hone_of hone 1 f1 rfl;exact⟨y0,y1,n,by simpa [o0,k0] using h0,by simpa [o1,k1] using h1⟩
end
section
variable {H:Type} {enc:TypeId×Value→H} {w:World} {base:Nat} {spare:Nat→Bool} {held:Bool}
end
theorem Tryz.readPoint:Tryz.prog.readableRec 23=true:=by kernel_rfl
theorem Tryz.rowPoint:23<Tryz.prog.types.size:=of_decide_eq_true (by kernel_rfl)
section
variable {H:Type} {enc:TypeId×Value→H} {W W':World} {sp:Nat→Bool} {v:Value} {d:DataW H} {ps:List MemPlace}
theorem point_stay(h:DataW.Trod enc Tryz.prog W 0 (fun _=>true) true 23 v d ps)(hb:Below W.heap.size W W')(hlt: ∀x∈ps,x.block<W.heap.size)(hsp: ∀p∈ps,sp p.block=true):DataW.Trod enc Tryz.prog W' 0 sp true 23 v d ps:=
 WideElems.Trod_stays Tryz.laidOutB Tryz.readPoint Tryz.rowPoint h (fun x hx=>hb.same (hlt x hx)) hsp
end
end
section
open Go.Sort Go.Shelf
def ivs(X:List Int):List Value:=X.map (Value.int .i64)
theorem ivs_length(X:List Int):(ivs X).length=X.length:=by simp[ivs]
theorem ivs_at(X:List Int)(k:Nat)(hk:k<X.length):(ivs X)[k]? =some (vi vk (ge X k)):=by simp[ivs,ge,hk]
theorem ivs_append(X Y:List Int):ivs (X++Y)=ivs X++ivs Y:=by simp[ivs]
theorem ivs_one(X:List Int): ∀u∈ivs X,u.oneCell'=true:=by
 intro u hu;simp only[ivs,List.mem_map] at hu;obtain⟨x,_,rfl⟩:=hu;rfl
theorem spvs_one(D:List Sp): ∀u∈spvs D,u.oneCell'=true:=by
 intro u hu;simp only[spvs,List.mem_flatMap] at hu;obtain⟨x,_,hx⟩:=hu;exact spv_one x u hx
def sortI(X:List Int):List Int:=X.mergeSort fun x y=>decide (x≤y)
theorem sortI_length(X:List Int):(sortI X).length=X.length:=List.length_mergeSort _
theorem putRow_ints(w:World)(g:Nat)(X:List Int):putRow (Value.int .i64) w g 0 X.toArray=putRow id w g 0 (ivs X).toArray:=by
 unfold putRow;congr 1
 funext c
 unfold putCells;simp only[List.size_toArray,ivs_length];congr 1
 funext i
 by_cases h:0≤i∧i<0+X.length
 · have h2:i<X.length:=by omega
   simp[h2,ivs]
 · have h2: ¬i<X.length:=by omega
   simp[h2]
theorem sortInt_any(base:Nat)(v:Value)(X:List Int)(w:World)(h:w.ownsRow base 3 1 v X.length (ivs X))(hn:X.length<4611686018427387904):
 Calls Tryz.prog 67 #[v] w fun e w'=>e=.returned (.tuple #[])∧w'.ownsRow base 3 1 v X.length (ivs (sortI X))∧w.grownBy w' v.ownBlock:=by
 rcases Nat.eq_zero_or_pos X.length with h0|h0
 · have hX:X=[]:=List.eq_nil_of_length_eq_zero h0
   subst hX;have hs:sortI []=[]:=by simp[sortI]
   rw[hs];obtain⟨A,c,rfl,_⟩:=own_form h;have hcon:=Any.slices_Sort_int_none Tryz.sortInt A c w;change Calls Tryz.prog 67 _ _ _ at hcon;refine hcon.mono ?_;rintro e w' ⟨rfl,rfl⟩
   exact⟨rfl,h,World.grownBy.refl _ _⟩
 · obtain⟨g,cap,rfl,hg,hlt⟩:=h.form h0
   have hH:Holds (Value.int .i64) w g 0 X.toArray:=by
    intro j hj;have hj':j<X.length:=by simpa using hj
    have hu:(ivs X)[j]? =some (vi vk (X.toArray[j]!)):=by simp[ivs,hj']
    have:=own_cell h j _ hu;simpa using this
   have hcon:=Any.slices_Sort_int Tryz.sortInt g 0 cap X w hH hlt hn;change Calls Tryz.prog 67 _ _ _ at hcon;refine hcon.mono ?_;rintro e w' ⟨rfl,m,os,rfl⟩
   have hr:=own_row w base _ 1 X.length cap g m _ (ivs (sortI X)).toArray os h (by simp[ivs,sortI]);have hp:=putRow_ints (Sort.ahead w m) g (sortI X);unfold sortI at hp;rw[hp];exact⟨rfl,hr.1,hr.2⟩
theorem Clone_any(A:Option Addr)(n ca:Nat)(D:List Sp)(w:World)(hr:Reads w w.heap.size 2 A n (spvs D))(hn:n≤1000000):
 Calls Tryz.prog 66 #[.slice A n ca] w (RetSpans w D):=by
 have hl:D.length=n:=by have:=hr.1;rw[spvs_length] at this;omega
 obtain⟨i0,hi0,hz0,hz1,hzb⟩:=info_parts Tryz.infoSpan;have RD:=hid hr;cases A with
 |none=>
  have hn0:n=0:=by
   rcases Nat.eq_zero_or_pos n with h|h
   · exact h
   · obtain⟨ad,e,_⟩:=hr.2 h
     cases e
  subst hn0;have hD:D=[]:=List.eq_nil_of_length_eq_zero hl;subst hD;have hq: ∀(W:World) (c:Nat),(binOp .eql 84 (.slice none 0 c) (.slice none 0 0)).run Tryz.prog W=.ok (.bool true) W:=fun W c=>Go.Lib.run_eql_slice_nil W 84 115 none 0 c 0 0 underlying84;clear hr RD;go_enter func66,ntmps66;go_wp2;go_ret;exact⟨_,rfl,own_nil _ _ _ _,Below.refl _ _⟩
 |some ad=>
  have hq: ∀(W:World) (n c:Nat),(binOp .eql 84 (.slice (some ad) n c) (.slice none 0 0)).run Tryz.prog W=.ok (.bool false) W:=fun W n c=>Go.Lib.run_eql_slice_nil W 84 115 (some ad) n c 0 0 underlying84;clear hr;go_enter func66,ntmps66;go_wp2_with (at_builtin;(refine wpList_append_any _ rfl (.tmp 5) (.tmp 6) _ rfl w.heap.size 115 i0 _ 2 16 underlying84 hi0 hz0 hz1 hzb rfl dc_ (.slice (some ⟨w.heap.size,0,none⟩) 0 0) 0 [] rfl (own_new w w.heap.size 115 2 0 _ #[] rfl (Nat.le_refl _) rfl (by simp[maxLen])) w.heap.size (some ad) n ca (spvs D) rfl (RD.out.alloc (Nat.le_refl _) _) (spvs_one D) (by simp only[maxLen];omega) om_ (by simp) ?_);intro v2 w2 hown2 hg2 hat2);go_ret;rw[Nat.zero_add,List.nil_append] at hown2;exact⟨_,rfl,by rw[hl];exact hown2,((Below.refl _ _).alloc (Nat.le_refl _) _).grown hg2 (by simp) (fun k hk=>by simp[Value.ownBlock] at hk;omega)⟩
end
def cptF(acc:List Int)(x:Int):List Int:=if acc.getLast?=some x then acc else acc++[x]
def cpt(X:List Int):List Int:=X.foldl cptF []
theorem cpt_snoc(X:List Int)(x:Int):cpt (X++[x])=cptF (cpt X) x:=by simp[cpt]
theorem cptF_last(acc:List Int)(x:Int):(cptF acc x).getLast?=some x:=by
 unfold cptF;split
 · assumption
 · simp
theorem cptF_len(acc:List Int)(x:Int):(cptF acc x).length≤acc.length+1:=by
 unfold cptF;split<;>simp
theorem takeI(X:List Int)(k:Nat)(hk:k<X.length):X.take (k+1)=X.take k++[ge X k]:=by
 rw[List.take_succ_eq_append_getElem hk];simp[ge,hk]
theorem cpt_last(X:List Int)(k:Nat)(hk:k<X.length):(cpt (X.take (k+1))).getLast?=some (ge X k):=by
 rw[takeI X k hk,cpt_snoc,cptF_last]
theorem cpt_same(X:List Int)(k:Nat)(hk:k+1<X.length)(h:ge X (k+1)=ge X k):cpt (X.take (k+2))=cpt (X.take (k+1)):=by
 rw[takeI X (k+1) hk,cpt_snoc];unfold cptF;rw[if_pos (by rw[cpt_last X k om_,h])]
theorem cpt_new(X:List Int)(k:Nat)(hk:k+1<X.length)(h: ¬ge X (k+1)=ge X k):cpt (X.take (k+2))=cpt (X.take (k+1))++[ge X (k+1)]:=by
 rw[takeI X (k+1) hk,cpt_snoc];unfold cptF;rw[if_neg (by rw[cpt_last X k om_];intro e;exact h (Option.some.inj e).symm)]
theorem cpt_len(X:List Int):(cpt X).length≤X.length:=by
 have: ∀(X acc:List Int),(X.foldl cptF acc).length≤acc.length+X.length:=by
  intro X;induction X with
  |nil=>intro acc;simp
  |cons x r ih=>
   intro acc;have h1:=ih (cptF acc x);have h2:=cptF_len acc x;simp only[List.foldl_cons,List.length_cons];omega
 simpa [cpt] using this X []
theorem cpt_one(X:List Int)(h:0<X.length):cpt (X.take 1)=X.take 1:=by
 match X,h with
 |x::r,_=>simp[cpt,cptF]
theorem cpt_few(X:List Int)(h:X.length<2):cpt X=X:=by
 match X,h with
 | [],_=>rfl
 | [x],_=>simp[cpt,cptF]
theorem fold_cpt: ∀(X acc:List Int),acc.Pairwise (· < ·)→(∀a∈acc,∀x∈X,a≤x)→X.Pairwise (· ≤ ·)→(X.foldl cptF acc).Pairwise (· < ·)∧ ∀y,y∈X.foldl cptF acc↔(y∈acc∨y∈X)
 | [],acc,h,_,_=>⟨h,fun y=>by simp⟩
 |x::X,acc,h,hle,hX=>by
  rw[List.pairwise_cons] at hX;have hc:(cptF acc x).Pairwise (· < ·)∧ ∀y,y∈cptF acc x↔(y∈acc∨y=x):=by
   unfold cptF;by_cases hl:acc.getLast?=some x
   · rw[if_pos hl]
     refine⟨h,fun y=>⟨.inl,?_⟩⟩;rintro(hy|rfl)
     · exact hy
     · exact List.mem_of_getLast? hl
   · rw[if_neg hl]
     refine⟨?_,fun y=>by simp⟩;rw[List.pairwise_append];refine⟨h,by simp,fun a ha b hb=>?_⟩;rw[List.mem_singleton] at hb;subst hb;have hab:=hle a ha b (by simp);rcases Int.lt_or_eq_of_le hab with h1|h1
     · exact h1
     · exfalso
       subst h1;rcases List.eq_nil_or_concat acc with h0|⟨M,t,h0⟩
       · rw[h0] at ha;cases ha
       · rw[List.concat_eq_append] at h0
         subst h0;have ht:=hle t (by simp) a (by simp);rw[List.pairwise_append] at h;rw[List.mem_append,List.mem_singleton] at ha;rcases ha with ha|ha
         · have:=h.2.2 a ha t (by simp)
           omega
         · subst ha
           simp at hl
  obtain⟨g1,g2⟩:=fold_cpt X (cptF acc x) hc.1 (fun a ha y hy=>by
   rcases (hc.2 a).1 ha with h1|h1
   · exact hle a h1 y (by simp[hy])
   · rw[h1];exact hX.1 y hy) hX.2
  refine⟨g1,fun y=>?_⟩;rw[List.foldl_cons,g2,hc.2,List.mem_cons];constructor
  · rintro((h1|h1)|h1)
    · exact .inl h1
    · exact .inr (.inl h1)
    · exact .inr (.inr h1)
  · rintro(h1|h1|h1)
    · exact .inl (.inl h1)
    · exact .inl (.inr h1)
    · exact .inr h1
theorem cpt_sorted(X:List Int):(cpt (sortI X)).Pairwise (· < ·)∧ ∀y,y∈cpt (sortI X)↔y∈X:=by
 have hs:(sortI X).Pairwise (· ≤ ·):=by
  have h:=List.pairwise_mergeSort (le:=fun x y:Int=>decide (x≤y)) (by intro a b c h1 h2;simp only[decide_eq_true_eq] at*;omega) (by intro a b;simp only[Bool.or_eq_true,decide_eq_true_eq];omega) X;exact Canon.pairs_less (fun a b h=>by simpa using h) h
 obtain⟨h1,h2⟩:=fold_cpt (sortI X) [] (by simp) (by simp) hs;refine⟨h1,fun y=>?_⟩;rw[cpt,h2];simp[sortI,List.mem_mergeSort]
theorem own_take{w:World}{base g cap:Nat}{e:TypeId}{size n k:Nat}{xs:List Value}(h:w.ownsRow base e size (.slice (some ⟨g,0,none⟩) n cap) n xs)(hk:k≤n):
 w.ownsRow base e size (.slice (some ⟨g,0,none⟩) k cap) k (xs.take (k*size)):=by
 have hks:k*size≤n*size:=Nat.mul_le_mul_right _ hk;refine⟨by rw[List.length_take,h.1];omega,?_⟩;rcases h.2 with ⟨h1,_⟩|⟨g',cap',cur,hv,hg,hh,hnc,hcm,hcs,htk⟩
 · cases h1
 · injection hv with e1 e2 e3
   injection e1 with e1
   injection e1 with e1
   subst e1 e3;refine .inr ⟨g,cap,cur,rfl,hg,hh,om_,hcm,hcs,?_⟩;rw[←htk,List.take_take];congr 1
   omega
theorem own_setCells{base g cap:Nat}{e:TypeId}{n:Nat}: ∀(vs:List Value) (o:Nat) (w:World) (xs:List Value),w.ownsRow base e 1 (.slice (some ⟨g,0,none⟩) n cap) n xs→o+vs.length≤n→
 ∃ys,(w.setCells g o vs).ownsRow base e 1 (.slice (some ⟨g,0,none⟩) n cap) n ys∧ys.take o=xs.take o
 | [],o,w,xs,h,_=>⟨xs,h,rfl⟩
 |v::vs,o,w,xs,h,ho=>by
  simp only[List.length_cons] at ho;obtain⟨ys,h1,h2⟩:=own_setCells vs (o+1) (w.setCell ⟨g,o,none⟩ v) (xs.set o v) (own_set h o v om_) om_;refine⟨ys,h1,?_⟩;have h3:=congrArg (List.take o) h2;rw[List.take_take,List.take_take,show min o (o+1)=o by omega] at h3;rw[h3,List.take_set_of_le (Nat.le_refl _)]
theorem bl_setCells{base g:Nat}{w0:World}(hg:base≤g): ∀(vs:List Value) (o:Nat) (w:World),Below base w0 w→Below base w0 (w.setCells g o vs)
 | [],_,_,h=>h
 |v::vs,o,w,h=>bl_setCells hg vs (o+1) _ (h.setCell (p:=⟨g,o,none⟩) hg v)
theorem ivs_take(X:List Int)(k:Nat):(ivs X).take k=ivs (X.take k):=by simp[ivs,List.map_take]
theorem ivs_set(X:List Int)(k:Nat)(u:Int):(ivs X).set k (vi vk u)=ivs (X.set k u):=by simp[ivs,List.map_set]
theorem ge_set_ne(X:List Int)(k j:Nat)(u:Int)(h: ¬k=j):ge (X.set k u) j=ge X j:=by simp[ge,List.getElem?_set,h]
theorem Tryz.zeroInt: ∀w,(zeroValue 3).run Tryz.prog w=.ok (vi vk 0) w:=fun w=>by go_simp
theorem takeY(Y:List Int)(k:Nat)(a:Int)(hk:k<Y.length):(Y.set k a).take (k+1)=Y.take k++[a]:=by
 rw[takeI _ k (by simpa using hk),List.take_set_of_le (Nat.le_refl _)];simp[ge,hk]
theorem Compact_any(base:Nat)(v:Value)(X:List Int)(w:World)(h:w.ownsRow base 3 1 v X.length (ivs X))(hn:X.length≤1000000):
 Calls Tryz.prog 68 #[v] w fun e w'=> ∃v',e=.returned v'∧w'.ownsRow base 3 1 v' (cpt X).length (ivs (cpt X))∧Below base w w':=by
 by_cases hs:X.length<2
 · have hC:=hid (cpt_few X hs)
   have HO:=hid h;obtain⟨A,c,rfl,-⟩:=own_form h;clear h;generalize hXn:X.length=n at HO hn hs;have HX:=hid hXn;clear hXn;go_enter func68,ntmps68;go_wp2;go_ret;exact⟨_,rfl,by rw[hC.out,HX.out];exact HO.out,Below.refl _ _⟩
 · obtain⟨g,cap,rfl,hg,hlt⟩:=h.form om_
   obtain⟨n,hXn⟩: ∃n,n=X.length:=⟨_,rfl⟩;rw[←hXn] at h hn hs⊢;obtain⟨_,_,e,_,hnc,hcm⟩:=own_form h;cases e
   have HX:=hid hXn;have HO:=hid h;have HG:=hid hg;unfold maxLen at hcm;clear h hXn hg;go_enter func68,ntmps68;go_wp2;go_loopw [3] (fun i wr=> ∃k j q:Nat,k=j+1∧k≤n∧i=vi vk k∧wr=w.drewN q∧cpt (X.take k)=X.take k) (fun i _=>n-(intOf i).toNat)
   case atStart=>exact⟨1,0,0,rfl,om_,rfl,rfl,cpt_one X (by rw[←HX.out];omega)⟩
   case round=>
    obtain⟨k,j,q,hkj,hk,rfl,rfl,hcp⟩:=hrel;by_cases hlt2:k<n
    · have hj:j<n:=by omega
      obtain⟨y1,-⟩:=own_cell HO.out k _ (ivs_at X k (by rw[←HX.out];omega));obtain⟨y2,-⟩:=own_cell HO.out j _ (ivs_at X j (by rw[←HX.out];omega));have SJ:Hid (IntKind.i64.wrap ((k:Int)-1)=(j:Int)):=hid ((IntWalk.i64_in _ om_).trans om_);have c1:Hid (ge X k=ge X j→cpt (X.take (k+1))=X.take k):=hid (by rw[←hcp];subst hkj;exact cpt_same X j (by rw[←HX.out];omega));have c2:Hid (¬ge X k=ge X j→cpt (X.take (k+1))=X.take (k+1)):=hid (fun hne=>by rw[takeI X k (by rw[←HX.out];omega),←takeI X k (by rw[←HX.out];omega)];have h2:cpt (X.take (k+1))=cpt (X.take k)++[ge X k]:=(by subst hkj;exact cpt_new X j (by rw[←HX.out];omega) hne);rw[h2,hcp,takeI X k (by rw[←HX.out];omega)]);have HKJ:=hid hkj;clear hkj hcp;generalize hxk:ge X k=xk at y1 c1 c2;generalize ge X j=xj at y2 c1 c2;clear hxk;go_upto_region 6 with (fail)
      have sj:=SJ.out;by_cases he:xk=xj
      · have hC1:=hid (c1.out he)
        subst he;clear c1 c2;go_quiet (fail);clear sj y1 y2;go_wp2;go_loopw [3,5] (fun i3 i5 wr=> ∃(kk k2 p:Nat) (Y:List Int),k2=p+1∧k+k2≤n∧i3=vi vk kk∧i5=vi vk k2∧kk<k+k2∧Y.length=n∧Y.take kk=cpt (X.take (k+k2))∧(∀t,k+p≤t→ge Y t=ge X t)∧wr.ownsRow base 3 1 (.slice (some ⟨g,0,none⟩) n cap) n (ivs Y)∧Below base w wr) (fun _ i5 _=>n-(intOf i5).toNat)
        case atStart=>exact⟨k,1,0,X,rfl,om_,rfl,rfl,om_,HX.out.symm,hC1.out.symm,fun _ _=>rfl,own_bl HO.out (bl_drewN (Below.refl _ _) _) (Nat.le_refl _),bl_drewN (Below.refl _ _) _⟩
        case round=>
         obtain⟨kk,k2,p,Y,hkp,hle,rfl,rfl,hkk,hYl,hYt,hYx,hown,hbr⟩:=hrel;have hg2:=HG.out;by_cases hlt3:k2<n-k
         · have e1:=hYx (k+k2) om_
           have e2:=hYx (k+p) om_;obtain⟨z1,-⟩:=own_cell hown (k+k2) _ (ivs_at Y (k+k2) om_);obtain⟨z2,-⟩:=own_cell hown (k+p) _ (ivs_at Y (k+p) om_);obtain⟨z3,z4⟩:=own_cell hown kk _ (ivs_at Y kk om_);rw[e1] at z1;rw[e2] at z2;have SP:Hid (IntKind.i64.wrap ((k2:Int)-1)=(p:Int)):=hid ((IntWalk.i64_in _ om_).trans om_);have hp2:p<n-k:=by omega
           have d1:Hid (ge X (k+k2)=ge X (k+p)→cpt (X.take (k+(k2+1)))=cpt (X.take (k+k2))):=hid (by subst hkp;exact cpt_same X (k+p) (by rw[←HX.out];omega));have d2:Hid (¬ge X (k+k2)=ge X (k+p)→cpt (X.take (k+(k2+1)))=cpt (X.take (k+k2))++[ge X (k+k2)]):=hid (by subst hkp;exact cpt_new X (k+p) (by rw[←HX.out];omega));have HKP:=hid hkp;have hkkn:kk<n:=by omega
           clear hkp e1 e2;generalize ge X (k+k2)=a at z1 d1 d2;generalize ge X (k+p)=b at z2 d1 d2;have HYX:=hid hYx;have HYT:=hid hYt;clear hYx hYt;go_upto_region 11 with (fail)
           have sp:=SP.out;by_cases he:a=b
           · have hd:=hid (d1.out he)
             subst he;clear d1 d2 z3 z4;go_quiet (fail);clear sp z1 z2;go_wp2;go_roundw
             case rel=>exact⟨kk,k2+1,p+1,Y,by have:=HKP.out;omega,om_,rfl,by go_num,om_,hYl,by rw[hd.out];exact HYT.out,fun t ht=>HYX.out t om_,own_bl hown (bl_drewN (Below.refl _ _) _) (Nat.le_refl _),bl_drewN hbr _⟩
             case measure=>simp[intOf];omega
           · have hd:=hid (d2.out he)
             have hbne:(a != b)=true:=by simp[he]
             clear d1 d2 he;go_quiet (fail);clear sp;go_wp2;go_roundw
             case rel=>exact⟨kk+1,k2+1,p+1,Y.set kk a,by have:=HKP.out;omega,om_,by go_num,by go_num,om_,by simpa using hYl,by rw[takeY Y kk a om_,HYT.out,hd.out],fun t ht=>by rw[ge_set_ne _ _ _ _ (by have:=HKP.out;omega)];exact HYX.out t om_,by rw[←ivs_set];exact own_set (own_bl hown (bl_drewN (Below.refl _ _) _) (Nat.le_refl _)) kk _ om_,(bl_drewN hbr _).setCell (p:=⟨g,kk,none⟩) hg2 _⟩
             case measure=>simp[intOf];omega
         · have hm:k+k2=n:=by omega
           have hcl: ∀(ty:TypeId) (c:Nat),(Builtin.clear_ #[112] ty #[.slice (some ⟨g,kk,none⟩) (n-kk) c]).run Tryz.prog wr=.ok (.tuple #[]) (wr.setCells g kk (List.replicate (n-kk) (vi vk 0))):=fun ty c=>
            Go.Lib.run_clear_slice wr 112 3 ty (vi vk 0) underlying112 Tryz.zeroInt rfl rfl g kk (n-kk) c om_
             (fun t ht=>by rw[(own_cell hown (kk+t) _ (ivs_at Y (kk+t) om_)).1];rfl) (fun t ht=>(own_cell hown (kk+t) _ (ivs_at Y (kk+t) om_)).2)
           have HYT:=hid hYt;obtain⟨ys,o1,o2⟩:=own_setCells (List.replicate (n-kk) (vi vk 0)) kk wr (ivs Y) hown (by simp;omega);have o3:=own_take o1 (k:=kk) om_;rw[Nat.mul_one,o2,ivs_take,hYt,hm,List.take_of_length_le (by rw[←HX.out];omega)] at o3;have hb3:=bl_setCells hg2 (List.replicate (n-kk) (vi vk 0)) kk wr hbr;have hkl:kk=(cpt X).length:=by
            have:=congrArg List.length HYT.out;rw[List.length_take,hm,List.take_of_length_le (l:=X) (by rw[←HX.out];omega)] at this;omega
           have hkkn:kk≤n:=by omega
           have HK:=hid hkl;have O3:=hid o3;clear hYx hYt hown hkl o1 o2 o3;go_wp2;go_ret;exact⟨_,rfl,by rw[←HK.out];exact O3.out,hb3⟩
      · have hC2:=hid (c2.out he)
        have hbne:(xk==xj)=false:=by simp[he]
        clear c1 c2 he;go_quiet (fail);clear sj;go_wp2;go_roundw
        case rel=>exact⟨k+1,k,q+nq,rfl,om_,by go_num,rfl,hC2.out⟩
        case measure=>simp[intOf];omega
    · have hkn:k=n:=by omega
      have hX:X.take k=X:=List.take_of_length_le (by rw[←HX.out];omega);rw[hX] at hcp;have HCP:=hid hcp;clear hcp hX hkj hkn;go_wp2;go_ret;exact⟨_,rfl,by rw[HCP.out,←HX.out];exact own_bl HO.out (bl_drewN (Below.refl _ _) _) (Nat.le_refl _),bl_drewN (Below.refl _ _) _⟩
end Go.Proofs.YtdeiofgddhbdaaaGreat
