/- slices.ContainsFunc at cells, where the function that is asked changes what there is and always says no. -/
import Derived.Deep.AppendSrc
import Derived.Test.YtdeiofgddhbdaaaGreatHJq
import Derived.Test.YtdeiofgddhbdaaaGreatHNc
set_option linter.unusedSimpArgs false
set_option linter.unusedVariables false
set_option maxHeartbeats 4000000
set_option maxRecDepth 100000
open Go.RowKit
open Go.Lib (hid)
open Go.Proofs.Tryz
open Go.Value renaming int→vi
open Go.IntKind renaming i64→vk
namespace Go.Proofs.YtdeiofgddhbdaaaGreat
theorem puGl{p:Prop}(h:p:=by simp only[Act.put,List.setIfInBounds_toArray,List.set_cons_zero,List.set_cons_succ]):p:=h
section
theorem meet08_any(a0 a1 a2 a3 b0 b1 b2 b3:Int)(w:World)(ha:VP (a0,a1,a2,a3))(hb:VP (b0,b1,b2,b3)):
 Calls Tryz.prog 86 #[.agg #[vi vk a0,vi vk a1,vi vk a2,vi vk a3],.agg #[vi vk b0,vi vk b1,vi vk b2,vi vk b3]] w fun e w'=> ∃r0 r1 r2 r3:Int,e=.returned (.tuple #[.agg #[vi vk r0,vi vk r1,vi vk r2,vi vk r3],vi vk (if meetB (a0,a1,a2,a3) (b0,b1,b2,b3)=true then 0 else 23)])∧Below w.heap.size w w':=by
 have oa:(a2= -10800000∧a3=10800000)∨(-10800000≤a2∧a2<10800000∧a2≤a3∧a3-a2<21600000):=ha.o;have ob:(b2= -10800000∧b3=10800000)∨(-10800000≤b2∧b2<10800000∧b2≤b3∧b3-b2<21600000):=hb.o;have KC':=fun W=>parts08_any a2 a3 b2 b3 W om_ om_;have hlen:=pr_lonM (a2,a3) (b2,b3) so_ so_;have hok:OkR (prF (a2,a3) (b2,b3) 3):=prF_mem (a2,a3) (b2,b3) so_ 3;have hl3:=prF_len (a2,a3) (b2,b3) 3;obtain⟨L,hL⟩: ∃L,L=prF (a2,a3) (b2,b3) 3:=⟨_,rfl⟩;rw[←hL] at KC' hlen hok hl3;have KC:=hid KC';have HOK:=hid hok;obtain⟨N,hN⟩: ∃N,N=L.length:=⟨_,rfl⟩;rw[←hN] at hl3;have HLN:=hid hN;have KM:=hid (fun W=>meets05_any a0 a1 b0 b1 W);have KI:=hid (fun W=>meet05_any a0 a1 b0 b1 W);obtain⟨R,hR⟩: ∃R:Int,R=if meetB (a0,a1,a2,a3) (b0,b1,b2,b3)=true then 0 else 23:=⟨_,rfl⟩
 rw[←hR];obtain⟨T,hT⟩: ∃T,T=decide (a0≤b1∧b0≤a1):=⟨_,rfl⟩;rw[←hT] at KM;have hRR:Hid (R=if T=true∧N≠0 then 0 else 23):=hid (by
  rw[hR,hN];unfold meetB;simp only[];rw[←hT];cases hm:lonM (a2,a3) (b2,b3) with
  |false=>
   have:=hlen.2 hm;simp[this]
  |true=>
   have h0:L.length≠0:=fun e=>by rw[hlen.1 e] at hm;cases hm
   simp[h0])
 clear hR hN hlen hok hL KC' oa ob ha hb hT;have HA:=hid (((K4.new w a0 a1 a2 a3 40).alloc (.cells #[vi vk b0,vi vk b1,vi vk b2,vi vk b3] 40)).alloc (.cells #[vi vk 0,vi vk 0,vi vk 0,vi vk 0] 40));have HB:Hid (K4 (((w.alloc (.cells #[vi vk a0,vi vk a1,vi vk a2,vi vk a3] 40)).alloc (.cells #[vi vk b0,vi vk b1,vi vk b2,vi vk b3] 40)).alloc (.cells #[vi vk 0,vi vk 0,vi vk 0,vi vk 0] 40)) (w.heap.size+1) b0 b1 b2 b3):=hid (by
  have:=(K4.new (w.alloc (.cells #[vi vk a0,vi vk a1,vi vk a2,vi vk a3] 40)) b0 b1 b2 b3 40).alloc (.cells #[vi vk 0,vi vk 0,vi vk 0,vi vk 0] 40);simpa using this)
 have HZ:Hid (K4 (((w.alloc (.cells #[vi vk a0,vi vk a1,vi vk a2,vi vk a3] 40)).alloc (.cells #[vi vk b0,vi vk b1,vi vk b2,vi vk b3] 40)).alloc (.cells #[vi vk 0,vi vk 0,vi vk 0,vi vk 0] 40)) (w.heap.size+1+1) 0 0 0 0):=hid (by
  have:=K4.new ((w.alloc (.cells #[vi vk a0,vi vk a1,vi vk a2,vi vk a3] 40)).alloc (.cells #[vi vk b0,vi vk b1,vi vk b2,vi vk b3] 40)) 0 0 0 0 40;simpa using this)
 have b0':Below w.heap.size w (((w.alloc (.cells #[vi vk a0,vi vk a1,vi vk a2,vi vk a3] 40)).alloc (.cells #[vi vk b0,vi vk b1,vi vk b2,vi vk b3] 40)).alloc (.cells #[vi vk 0,vi vk 0,vi vk 0,vi vk 0] 40)):=(((Below.refl _ _).alloc (Nat.le_refl _) _).alloc (by simp) _).alloc (by simp;omega) _;go_enter func86,ntmps86;go_wp2_with fail;(with_reducible refine(KC.out _).mono ?_)
 rintro e w3 ⟨v,rfl,hown,hb3⟩
 have HA3:=hid (HA.out.below hb3 HA.out.lt);have HB3:=hid (HB.out.below hb3 HB.out.lt);have HZ3:=hid (HZ.out.below hb3 HZ.out.lt);have B3:=hid (b0'.trans (hb3.mono b0'.size));rw[←HLN.out] at hown;obtain⟨A4,k4,rfl,ra,-,-⟩:=own_form hown;have RA:=hid ra;clear HA HB HZ b0' hb3 hown ra;obtain⟨at2,a0',a1',a2',a3',-,-,-,-⟩:=HA3.out;obtain⟨bt2,c0,c1,c2,c3,-,-,-,-⟩:=HB3.out;by_cases hN0:N=0
 · subst hN0
   obtain rfl:=hRR.out.trans (if_neg (fun h=>h.2 rfl));obtain⟨zt,z0,z1,z2,z3,zf0,zf1,zf2,zf3⟩:=HZ3.out;go_wp2;refine bodyPost_ret (v:=.tuple #[.agg #[vi vk 0,vi vk 0,vi vk 0,vi vk 0],vi vk 23]) (by simp[results,results86,go_sem, *];done) rfl ⟨_,_,_,_,rfl,?_⟩;exact(((B3.out.setCell so_ _).setCell so_ _).setCell so_ _).setCell so_ _
 · have d2:((N:Int)==0)=false:=by simp;exact hN0
   go_wp2_with fail;(with_reducible refine(KM.out _).mono ?_)
   rintro e w4 ⟨rfl,hb4⟩
   have HA4:=hid (HA3.out.below hb4 HA3.out.lt);have HB4:=hid (HB3.out.below hb4 HB3.out.lt);have HZ4:=hid (HZ3.out.below hb4 HZ3.out.lt);have B4:=hid (B3.out.trans (hb4.mono B3.out.size));have RA4:=hid ((RA.out.below hb4).more hb4.size);clear HA3 HB3 HZ3 B3 RA hb4 at2 a0' a1' a2' a3' bt2 c0 c1 c2 c3;obtain⟨at2,a0',a1',a2',a3',-,-,-,-⟩:=HA4.out;obtain⟨bt2,c0,c1,c2,c3,-,-,-,-⟩:=HB4.out;cases T with
   |false=>
    obtain rfl:=hRR.out.trans (if_neg (fun h=>by cases h.1));obtain⟨zt,z0,z1,z2,z3,zf0,zf1,zf2,zf3⟩:=HZ4.out;go_wp2;refine bodyPost_ret (v:=.tuple #[.agg #[vi vk 0,vi vk 0,vi vk 0,vi vk 0],vi vk 23]) (by simp[results,results86,go_sem, *];done) rfl ⟨_,_,_,_,rfl,?_⟩;exact(((B4.out.setCell so_ _).setCell so_ _).setCell so_ _).setCell so_ _
   |true=>
    obtain rfl:=hRR.out.trans (if_pos ⟨rfl,hN0⟩);obtain⟨P1,hP1⟩: ∃P,max a0 b0=P:=⟨_,rfl⟩;obtain⟨P2,hP2⟩: ∃P,min a1 b1=P:=⟨_,rfl⟩;rw[hP1,hP2] at KI;obtain⟨⟨r0,r1⟩,hr⟩: ∃r,rarn L=r:=⟨_,rfl⟩;have KA:=fun(W:World) (h:Reads W W.heap.size 2 A4 N (spvs L))=>around08_any A4 N k4 L W h om_ HOK.out;rw[hr] at KA;have KA:=hid KA;clear hP1 hP2 hr;go_wp2_with fail;(with_reducible refine(KI.out _).mono ?_)
    rintro e w5 ⟨rfl,hb5⟩
    have HZ5:=hid (HZ4.out.below hb5 HZ4.out.lt);have B5:=hid (B4.out.trans (hb5.mono B4.out.size));have RA5:=hid ((RA4.out.below hb5).more hb5.size);clear HA4 HB4 HZ4 B4 RA4 hb5 at2 a0' a1' a2' a3' bt2 c0 c1 c2 c3;go_wp2_with fail;(with_reducible refine(KA.out _ RA5.out).mono ?_)
    rintro e w6 ⟨rfl,hb6⟩
    have B6:=hid (B5.out.trans (hb6.mono B5.out.size));obtain⟨zt,z0,z1,z2,z3,zf0,zf1,zf2,zf3⟩:=HZ5.out.below hb6 HZ5.out.lt;go_wp2;refine bodyPost_ret (v:=.tuple #[.agg #[vi vk P1,vi vk P2,vi vk r0,vi vk r1],vi vk 0]) (by simp[results,results86,go_sem, *];done) rfl ⟨_,_,_,_,rfl,?_⟩;exact(((B6.out.setCell so_ _).setCell so_ _).setCell so_ _).setCell so_ _
theorem K4.drew{W:World}{g:Nat}{a b c d:Int}(h:K4 W g a b c d):K4 W.drew g a b c d:=h.below (bl_drew (Below.refl _ _)) h.lt
theorem bl_put4{B:Nat}{a w:World}{g:Nat}{x y z u:Value}(h:Below B a w)(hg:B≤g):Below B a ((((w.setCell ⟨g,0,none⟩ x).setCell ⟨g,1,none⟩ y).setCell ⟨g,2,none⟩ z).setCell ⟨g,3,none⟩ u):=(((h.setCell hg _).setCell hg _).setCell hg _).setCell hg _
section
variable {W2 w w':World} {L:Nat→Bool} {g5 g6:Nat} {a0 a1 a2 a3 b0 b1 b2 b3:Int}
end
end
def MgI(n₀ B:Nat)(v:Value)(W2:World)(L0 L1:List Cl)(x:Cl)(x0 x1 x2 x3 x4 x5 x6 x7 x10:Value)(a:Act)(M:Nat→Bool)(a':Act)(w':World):Prop:=
 ∃v42 v43 v44 v45 v46 v47 v48 v49 v50 v51 v52:Value,a'=(((((((((((a.put (some 42) v42).put (some 43) v43).put (some 44) v44).put (some 45) v45).put (some 46) v46).put (some 47) v47).put (some 48) v48).put (some 49) v49).put (some 50) v50).put (some 51) v51).put (some 52) v52)∧XK B v W2 w'∧
  (M 9=false→St n₀ B w' v L0)∧
  (M 8=true→M 9=false→ ∃g,v50=.slice (some ⟨g,0,none⟩) 1 1∧Blk w' g 55 #[vi vk x.1,vi vk x.2.1,vi vk x.2.2])∧
  (M 9=true→M 11=false→ ∃u,v51=u∧w'.ownsRow n₀ 55 3 u L1.length (cvs L1)∧Boxed w' B 44 v∧Nx W2 v u)∧
  (M 11=true→Goes n₀ B v W2 L1 w')∧
  (M 11=true→M 9=true)∧
  (M 9=true→M 6=true)∧
  (M 6=true→M 3=true)∧
  (M 9=true→M 8=true)∧
  (M 0=true→v42=x0)∧
  (M 1=true→v43=x1)∧
  (M 2=true→v44=x2)∧
  (M 3=true→v45=x3)∧
  (M 4=true→v46=x4)∧
  (M 5=true→v47=x5)∧
  (M 6=true→v48=x6)∧
  (M 7=true→v49=x7)∧
  (M 10=true→v52=x10)
theorem MgI.start{n₀ B:Nat}{v:Value}{W2:World}{L0 L1:List Cl}{x:Cl}{x0 x1 x2 x3 x4 x5 x6 x7 x10:Value}(a:Act)(h:St n₀ B W2 v L0):MgI n₀ B v W2 L0 L1 x x0 x1 x2 x3 x4 x5 x6 x7 x10 a (fun _=>false) a W2.drew:=
 ⟨_,_,_,_,_,_,_,_,_,_,_,by rw[putQ_self a 42,putQ_self a 43,putQ_self a 44,putQ_self a 45,putQ_self a 46,putQ_self a 47,putQ_self a 48,putQ_self a 49,putQ_self a 50,putQ_self a 51,putQ_self a 52],XK.of_below (bl_drew (Below.refl _ _)),fun _=>h.below (bl_drew (Below.refl _ _)),nofun,nofun,nofun,nofun,nofun,nofun,nofun,nofun,nofun,nofun,nofun,nofun,nofun,nofun,nofun,nofun⟩
theorem cell_reads{w:World}{g:Nat}{x:Cl}(h:Blk w g 55 #[vi vk x.1,vi vk x.2.1,vi vk x.2.2]):Reads w w.heap.size 3 (some ⟨g,0,none⟩) 1 (cvs [x]):=by
 refine⟨rfl,fun _=>⟨_,rfl,h.lt,fun j u hu=>?_⟩⟩;rw[show((⟨g,0,none⟩:Addr).add j)=⟨g,j,none⟩ by simpa using Go.WideShapes.add_plain g 0 j,h.cell j];simpa [cvs,cv] using hu
theorem four_small{L:List Cl}(h:L.length<4):four4 L=false:=by unfold four4;rw[decide_eq_false om_];rfl
theorem four_top{L:List Cl}(h:4≤L.length)(h0:(gt L (L.length-4)).1=0):four4 L=false:=by
 unfold four4;rw[h0];simp
theorem four_eq{L:List Cl}(h:4≤L.length)(h0:0<(gt L (L.length-4)).1):four4 L=decide (kidsC (parC (gt L (L.length-4)))=L.drop (L.length-4)):=by
 unfold four4;rw[decide_eq_true h,decide_eq_true h0];simp
theorem slice_tail(g n cap:Nat)(h4:4≤n)(hc:n≤cap)(W:World):(Instr.slice 44 (.slice (some ⟨g,0,none⟩) n cap) (some (vi vk ((n:Int)-4))) none none).run Tryz.prog W=.ok (.slice (some ⟨g,(n-4)*3,none⟩) 4 (cap-(n-4))) W:=by
 have h1:((n:Int)-4).toNat=n-4:=by omega
 have h3:n-(n-4)=4:=by omega
 rw[run_slice_l W 44 (some ⟨g,0,none⟩) n cap underlying44 .i64 ((n:Int)-4) om_ om_];simp[go_sem,Addr.add,h1,h3];rw[if_neg om_];by_cases hz:(n-4)*3=0
 · rw[if_pos hz,hz]
 · rw[if_neg hz]
theorem slice_head(g n cap:Nat)(h4:4≤n)(hc:n≤cap)(W:World):(Instr.slice 44 (.slice (some ⟨g,0,none⟩) n cap) none (some (vi vk ((n:Int)-4))) none).run Tryz.prog W=.ok (.slice (some ⟨g,0,none⟩) (n-4) cap) W:=by
 have h1:((n:Int)-4).toNat=n-4:=by omega
 rw[run_slice_h W 44 (some ⟨g,0,none⟩) n cap underlying44 .i64 ((n:Int)-4) om_ om_];simp[go_sem,Addr.add,h1]
theorem merge_any(n₀ B:Nat)(v:Value)(LL:List Cl)(w:World)(h:St n₀ B w v LL)(hsz:n₀≤w.heap.size)(hv:AllV LL)(hlen:LL.length≤100000):
 Calls Tryz.prog 100 #[.pointer (some ⟨B,0,none⟩)] w fun e w'=>e=.returned (.bool (four4 LL))∧Goes n₀ B v w (if four4 LL=true then mg1 LL else LL) w':=by
 have HS:=hid h;by_cases h4:LL.length<4
 · have f4:=four_small h4
   rw[f4];obtain⟨A,c,rfl,hr,hc,hcm⟩:=own_form h.row;have hcc:=h.box.cell;have hd:decide ((LL.length:Int)<4)=true:=decide_eq_true om_;clear h hr f4;go_enter func100,ntmps100;go_wp2;go_ret;exact⟨rfl,_,HS.out,XK.refl _ _ _,Nx.refl _ _⟩
 · obtain⟨g,cap,rfl,-,hg⟩:=h.row.form om_
   obtain⟨A',c',e,hr,hc,hcm⟩:=own_form h.row;cases e
   have hcc:=h.box.cell;have hBl:=h.box.lt;have hd:decide ((LL.length:Int)<4)=false:=decide_eq_false om_;obtain⟨n,hn⟩: ∃n,LL.length=n:=⟨_,rfl⟩;rw[hn] at hc hr hd hcc hlen h4 HS⊢;have hn4:4≤n:=by omega
   have HR:=hid hr;have F4:=hid (fun h0=>four_top (L:=LL) om_ h0);have FE:=hid (fun h0=>four_eq (L:=LL) om_ h0);have HX:Hid (Vl (gt LL (LL.length-4))):=hid (gt_v hv om_);have HM:Hid (mg1 LL=LL.take (n-4)++[parC (gt LL (n-4))]):=hid (by unfold mg1;rw[hn]);rw[hn] at F4 FE HX;obtain⟨b',off',e,hb',x1,x2,x3⟩:=HR.out.elem (show n-4<n by omega);cases e
   simp only[Nat.zero_add] at x1 x2 x3;have hsl:=slice_tail g n cap hn4 hc;have hsh:=slice_head g n cap hn4 hc;have HD:=hid (HR.out.drop (n-4) om_);rw[show n-(n-4)=4 by omega] at HD;simp only[Nat.zero_add] at HD;have HN:=hid hn;have HV:=hid hv;clear h hr hv hn;obtain⟨x,hx⟩: ∃x,gt LL (n-4)=x:=⟨_,rfl⟩;rw[hx] at x1 x2 x3 F4 FE HX HM;clear hx;by_cases h0:x.1=0
   · have f4:=F4.out h0
     rw[f4];have KP:=hid (fun W=>Parent_top x.1 x.2.1 x.2.2 W ((vl_iff x).2 HX.out) (by simp[h0]));clear f4 F4 FE h0;obtain⟨l,r,c⟩:=x;simp only[] at x1 x2 x3 KP;go_enter func100,ntmps100;go_wp2_with fail;(with_reducible refine(KP.out _).mono ?_)
     rintro e w1 ⟨rfl,hb1⟩
     have HB1:=hid (hb1.alloc hb1.size (.cells #[vi vk 0,vi vk 0,vi vk 0] 55));clear hb1;go_wp2;go_ret;exact⟨rfl,_,HS.out.below HB1.out,XK.of_below HB1.out,Nx.refl _ _⟩
   · have hx0:0<x.1:=by have:=HX.out.l0;omega
     have HP:Hid (Vl (parC x)):=hid (par_vl HX.out hx0);have f4:=FE.out hx0;have KP:=hid (fun W=>Parent_yes x.1 x.2.1 x.2.2 W ((vl_iff x).2 HX.out) (by simp[h0]));have hl15:(parC x).1<16:=by have:=HX.out.l1;unfold parC;simp only[];omega
     have KC:=hid (fun W=>Children_yes (parC x).1 (parC x).2.1 (parC x).2.2 W ((vl_iff _).2 HP.out) (by simp;omega));rw[show kids (parC x).1 (parC x).2.1 (parC x).2.2=kidsC (parC x) from rfl] at KC;have hkl:(kidsC (parC x)).length=4:=rfl;have hp:parC x=(x.1-1,x.2.1/2,x.2.2/2):=rfl;obtain⟨K,hK⟩: ∃K,kidsC (parC x)=K:=⟨_,rfl⟩;rw[hK] at KC f4 hkl;rw[f4];have HF:=hid f4;have HPL:=hid hp;clear hK F4 FE h0 hx0 f4;obtain⟨p,hp'⟩: ∃p,parC x=p:=⟨_,rfl⟩;rw[hp'] at HP KC HM HPL hp hl15;clear hp';obtain⟨l,r,c⟩:=x;obtain⟨pl,pr,pc⟩:=p;simp only[Prod.mk.injEq] at hp;obtain⟨rfl,rfl,rfl⟩:=hp;simp only[] at x1 x2 x3 KP KC hl15;cases hq:decide (K=LL.drop (n-4)) with
     |false=>
      go_enter func100,ntmps100;go_wp2_with fail;(with_reducible refine(KP.out _).mono ?_)
      rintro e w1 ⟨rfl,hb1⟩
      have HB1:=hid (hb1.alloc hb1.size (.cells #[vi vk (l-1),vi vk (r/2),vi vk (c/2)] 55));have G1:=hid (Blk.new w1 55 #[vi vk (l-1),vi vk (r/2),vi vk (c/2)]);have hs1:=hb1.size;clear hb1;go_wp2_with fail;(with_reducible refine(KC.out _).mono ?_)
      rintro e w2 ⟨vk,rfl,hownk,hb2⟩
      obtain⟨Ak,ck,rfl,hrk,-,-⟩:=own_form hownk;rw[hkl] at hrk⊢;have HB2:=hid (HB1.out.trans (hb2.mono HB1.out.size));have G2:=hid (G1.out.below hb2 G1.out.lt);have ke:=(Equal_any Ak (some ⟨g,(n-4)*3,none⟩) 4 4 ck (cap-(n-4)) K (LL.drop (n-4)) w2 _ _ hrk (HD.out.below HB2.out) dc_ dc_);rw[hq] at ke;have KE:=hid ke;clear hq ke hownk hb2 hrk HB1 G1 KP KC x1 x2 x3;go_wp2_with fail;(with_reducible refine(KE.out).mono ?_)
      rintro e w3 ⟨rfl,q,rfl⟩
      have HB3:=hid (bl_drewN HB2.out q);go_wp2;go_ret;exact⟨rfl,_,HS.out.below HB3.out,XK.of_below HB3.out,Nx.refl _ _⟩
     |true=>
      go_enter func100,ntmps100;go_wp2_with fail;(with_reducible refine(KP.out _).mono ?_)
      rintro e w1 ⟨rfl,hb1⟩
      have HB1:=hid (hb1.alloc hb1.size (.cells #[vi vk (l-1),vi vk (r/2),vi vk (c/2)] 55));have G1:=hid (Blk.new w1 55 #[vi vk (l-1),vi vk (r/2),vi vk (c/2)]);have hs1:=hb1.size;clear hb1;go_wp2_with fail;(with_reducible refine(KC.out _).mono ?_)
      rintro e w2 ⟨vk,rfl,hownk,hb2⟩
      obtain⟨Ak,ck,rfl,hrk,-,-⟩:=own_form hownk;rw[hkl] at hrk⊢;have HB2:=hid (HB1.out.trans (hb2.mono HB1.out.size));have G2:=hid (G1.out.below hb2 G1.out.lt);have ke:=(Equal_any Ak (some ⟨g,(n-4)*3,none⟩) 4 4 ck (cap-(n-4)) K (LL.drop (n-4)) w2 _ _ hrk (HD.out.below HB2.out) dc_ dc_);rw[hq] at ke;have KE:=hid ke;clear hq ke hownk hb2 hrk HB1 G1 KP KC x1 x2 x3;go_wp2_with fail;(with_reducible refine(KE.out).mono ?_)
      rintro e w3 ⟨rfl,q,rfl⟩
      have HB3:=hid (bl_drewN HB2.out q);have G3:=hid (G2.out.drewN q);generalize w2.drewN q=w3 at*;have S3:=hid (HS.out.below HB3.out);have hs3:=HB3.out.size;go_upto_region 11 with (fail)
      obtain⟨i0,hi0,hz0,hz1,hzb⟩:=info_parts Tryz.infoCell;have hszB:n₀≤w3.heap.size:=by omega
      generalize w1.heap.size=gp at*;refine wp_region_inv3 (by kernel_rfl) (MgI n₀ B (.slice (some ⟨g,0,none⟩) n cap) w3 (LL) (LL.take (n-4)++[(l-1,r/2,c/2)]) ((l-1,r/2,c/2)) (.pointer (some ⟨B,0,none⟩)) (.pointer (some ⟨B,0,none⟩)) (.pointer (some ⟨B,0,none⟩)) (.slice (some ⟨g,0,none⟩) n cap) (vi vk (n:Int)) (vi vk ((n:Int)-4)) (.slice (some ⟨g,0,none⟩) (n-4) cap) (.agg #[vi vk (l-1),vi vk (r/2),vi vk (c/2)]) (.pointer (some ⟨B,0,none⟩))) (waits_bind (by kernel_rfl)) ?start ?step ?fin
      case start=>exact MgI.start _ S3.out
      case step=>
       rintro M i o a1' w' ho hL haf ⟨v42,v43,v44,v45,v46,v47,v48,v49,v50,v51,v52,rfl,hk,h1,h2,h3,h4,h5,hn9_6,hn6_3,hn9_8,e0,e1,e2,e3,e4,e5,e6,e7,e10⟩
       have HK:=hid hk;have H1:=hid h1;have H2:=hid h2;have H3:=hid h3;have H4:=hid h4;have H5:=hid h5;have HN9_6:=hid hn9_6;have HN6_3:=hid hn6_3;have HN9_8:=hid hn9_8;have E0:=hid e0;have E1:=hid e1;have E2:=hid e2;have E3:=hid e3;have E4:=hid e4;have E5:=hid e5;have E6:=hid e6;have E7:=hid e7;have E10:=hid e10;clear hk h1 h2 h3 h4 h5 hn9_6 hn6_3 hn9_8 e0 e1 e2 e3 e4 e5 e6 e7 e10;rcases i with _|_|_|_|_|_|_|_|_|_|_|_|i
       all_goals (simp at ho;try subst ho)
       all_goals (try simp[Region.binds] at haf)
       · go_wp2
         unfold MgI;exact⟨(.pointer (some ⟨B,0,none⟩)),v43,v44,v45,v46,v47,v48,v49,v50,v51,v52,puGl,HK.out,fun h=>H1.out (by simpa [mkd] using h),fun h k=>H2.out (by simpa [mkd] using h) (by simpa [mkd] using k),fun h k=>H3.out (by simpa [mkd] using h) (by simpa [mkd] using k),fun h=>H4.out (by simpa [mkd] using h),ks_ H5,ks_ HN9_6,ks_ HN6_3,ks_ HN9_8,rf_,kq E1,kq E2,kq E3,kq E4,kq E5,kq E6,kq E7,kq E10⟩
       · go_wp2
         unfold MgI;exact⟨v42,(.pointer (some ⟨B,0,none⟩)),v44,v45,v46,v47,v48,v49,v50,v51,v52,puGl,HK.out,fun h=>H1.out (by simpa [mkd] using h),fun h k=>H2.out (by simpa [mkd] using h) (by simpa [mkd] using k),fun h k=>H3.out (by simpa [mkd] using h) (by simpa [mkd] using k),fun h=>H4.out (by simpa [mkd] using h),ks_ H5,ks_ HN9_6,ks_ HN6_3,ks_ HN9_8,kq E0,rf_,kq E2,kq E3,kq E4,kq E5,kq E6,kq E7,kq E10⟩
       · obtain rfl:=(E1.out (by simp[haf])).symm
         go_wp2;unfold MgI;exact⟨v42,(.pointer (some ⟨B,0,none⟩)),(.pointer (some ⟨B,0,none⟩)),v45,v46,v47,v48,v49,v50,v51,v52,puGl,HK.out,fun h=>H1.out (by simpa [mkd] using h),fun h k=>H2.out (by simpa [mkd] using h) (by simpa [mkd] using k),fun h k=>H3.out (by simpa [mkd] using h) (by simpa [mkd] using k),fun h=>H4.out (by simpa [mkd] using h),ks_ H5,ks_ HN9_6,ks_ HN6_3,ks_ HN9_8,kq E0,rf_,rf_,kq E3,kq E4,kq E5,kq E6,kq E7,kq E10⟩
       · have hA:M 9=false:=by
          cases q:M 9 with
          |false=>rfl
          |true=>
           have q0:=HN9_6.out q;have q1:=HN6_3.out q0;rw[hL] at q1;cases q1
         have hcc:=(H1.out hA).box.cell;obtain rfl:=(E2.out (by simp[haf])).symm;go_wp2;unfold MgI;exact⟨v42,v43,(.pointer (some ⟨B,0,none⟩)),(.slice (some ⟨g,0,none⟩) n cap),v46,v47,v48,v49,v50,v51,v52,puGl,HK.out,fun h=>H1.out (by simpa [mkd] using h),fun h k=>H2.out (by simpa [mkd] using h) (by simpa [mkd] using k),fun h k=>H3.out (by simpa [mkd] using h) (by simpa [mkd] using k),fun h=>H4.out (by simpa [mkd] using h),ks_ H5,ks_ HN9_6,fun _=>mkd_same _ _,ks_ HN9_8,kq E0,kq E1,rf_,rf_,kq E4,kq E5,kq E6,kq E7,kq E10⟩
       · go_wp2
         unfold MgI;exact⟨v42,v43,v44,v45,(vi vk (n:Int)),v47,v48,v49,v50,v51,v52,puGl,HK.out,fun h=>H1.out (by simpa [mkd] using h),fun h k=>H2.out (by simpa [mkd] using h) (by simpa [mkd] using k),fun h k=>H3.out (by simpa [mkd] using h) (by simpa [mkd] using k),fun h=>H4.out (by simpa [mkd] using h),ks_ H5,ks_ HN9_6,ks_ HN6_3,ks_ HN9_8,kq E0,kq E1,kq E2,kq E3,rf_,kq E5,kq E6,kq E7,kq E10⟩
       · obtain rfl:=(E4.out (by simp[haf])).symm
         go_wp2;unfold MgI;exact⟨v42,v43,v44,v45,(vi vk (n:Int)),(vi vk ((n:Int)-4)),v48,v49,v50,v51,v52,puGl,HK.out,fun h=>H1.out (by simpa [mkd] using h),fun h k=>H2.out (by simpa [mkd] using h) (by simpa [mkd] using k),fun h k=>H3.out (by simpa [mkd] using h) (by simpa [mkd] using k),fun h=>H4.out (by simpa [mkd] using h),ks_ H5,ks_ HN9_6,ks_ HN6_3,ks_ HN9_8,kq E0,kq E1,kq E2,kq E3,rf_,rf_,kq E6,kq E7,kq E10⟩
       · obtain rfl:=(E3.out (by simp[haf])).symm
         obtain rfl:=(E5.out (by simp[haf])).symm;go_wp2;unfold MgI;exact⟨v42,v43,v44,(.slice (some ⟨g,0,none⟩) n cap),v46,(vi vk ((n:Int)-4)),(.slice (some ⟨g,0,none⟩) (n-4) cap),v49,v50,v51,v52,puGl,HK.out,fun h=>H1.out (by simpa [mkd] using h),fun h k=>H2.out (by simpa [mkd] using h) (by simpa [mkd] using k),fun h k=>H3.out (by simpa [mkd] using h) (by simpa [mkd] using k),fun h=>H4.out (by simpa [mkd] using h),ks_ H5,fun _=>mkd_same _ _,fun _=>(by have r:M 3=true:=(by simp[haf]);simpa [mkd] using r),ks_ HN9_8,kq E0,kq E1,kq E2,rf_,kq E4,rf_,rf_,kq E7,kq E10⟩
       · have hp9:=HK.out.blk G3.out om_ (by simp[Value.ownBlock];omega)
         have y0:=hp9.cell 0;have y1:=hp9.cell 1;have y2:=hp9.cell 2;simp only[List.getElem?_toArray,List.getElem?_cons_zero,List.getElem?_cons_succ] at y0 y1 y2;go_wp2;unfold MgI;exact⟨v42,v43,v44,v45,v46,v47,v48,(.agg #[vi vk (l-1),vi vk (r/2),vi vk (c/2)]),v50,v51,v52,puGl,HK.out,fun h=>H1.out (by simpa [mkd] using h),fun h k=>H2.out (by simpa [mkd] using h) (by simpa [mkd] using k),fun h k=>H3.out (by simpa [mkd] using h) (by simpa [mkd] using k),fun h=>H4.out (by simpa [mkd] using h),ks_ H5,ks_ HN9_6,ks_ HN6_3,ks_ HN9_8,kq E0,kq E1,kq E2,kq E3,kq E4,kq E5,kq E6,rf_,kq E10⟩
       · have hA:M 9=false:=by
          cases q:M 9 with
          |false=>rfl
          |true=>
           have q0:=HN9_8.out q;rw[hL] at q0;cases q0
         obtain rfl:=(E7.out (by simp[haf])).symm;have hb9:=bl_alloc w' (.cells #[vi vk ((l-1,r/2,c/2)).1,vi vk ((l-1,r/2,c/2)).2.1,vi vk ((l-1,r/2,c/2)).2.2] 55);have NB:=hid (Blk.new w' 55 #[vi vk ((l-1,r/2,c/2)).1,vi vk ((l-1,r/2,c/2)).2.1,vi vk ((l-1,r/2,c/2)).2.2]);simp only[] at hb9 NB;have HB9:=hid hb9;clear hb9;go_wp2;unfold MgI;exact⟨v42,v43,v44,v45,v46,v47,v48,(.agg #[vi vk (l-1),vi vk (r/2),vi vk (c/2)]),(.slice (some ⟨w'.heap.size,0,none⟩) 1 1),v51,v52,puGl,HK.out.trans (Nx.refl _ _) (XK.of_below HB9.out),fun _=>(H1.out hA).below HB9.out,fun _ _=>⟨_,rfl,NB.out⟩,fun h=>(by have q:M 9=true:=(by simpa [mkd] using h);rw[hA] at q;cases q),fun h=>(by have q:=H5.out (by simpa [mkd] using h);rw[hA] at q;cases q),ks_ H5,ks_ HN9_6,ks_ HN6_3,fun _=>mkd_same _ _,kq E0,kq E1,kq E2,kq E3,kq E4,kq E5,kq E6,rf_,kq E10⟩
       · obtain rfl:=(E6.out (by simp[haf])).symm
         have hst:=H1.out hL;obtain⟨g9,rfl,hB9⟩:=H2.out (by simp[haf]) hL;have O1:=(by have q:=own_take3 (by have z:=hst.row;rw[HN.out] at z;exact z) (n-4) om_;rw[cvs_take] at q;exact q);have R9:=cell_reads hB9;have hzz:=HK.out.size;have hn0:n₀≤w'.heap.size:=Nat.le_trans hszB hzz;simp only[Act.put,List.setIfInBounds_toArray,List.set_cons_zero,List.set_cons_succ];refine wpList_append_any _ rfl (.tmp 48) (.tmp 50) _ rfl n₀ 55 i0 _ 3 24 underlying44 hi0 hz0 hz1 hzb rfl dc_ _ (n-4) (cvs (LL.take (n-4))) (by simp[Act.eval]) O1 w'.heap.size (some ⟨g9,0,none⟩) 1 1 (cvs [(l-1,r/2,c/2)]) (by simp[Act.eval]) R9 (cvs_one _) (by simp only[maxLen];omega) om_ hn0 ?_;intro v9 w9 hown9 hg9 hat9;have hbx9:=hst.box.kept hg9 (by have:=hst.box.not_row dc_ O1;exact this);rw[←cvs_append,show n-4+1=(LL.take (n-4)++[(l-1,r/2,c/2)]).length by rw[List.length_append,List.length_take];have:=HN.out;simp;omega] at hown9;have HXK:=hid (HK.out.grown hg9);have HNX:Hid (Nx w3 (.slice (some ⟨g,0,none⟩) n cap) v9):=hid (hat9.elim .inl fun q=>.inr fun k hk=>(by rw[q] at hk;cases hk;exact hzz));have HO9:=hid hown9;have HX9:=hid hbx9;clear hown9 hg9 hat9 hbx9 hst O1 R9 hB9;go_wp2;unfold MgI;exact⟨v42,v43,v44,v45,v46,v47,(.slice (some ⟨g,0,none⟩) (n-4) cap),v49,(.slice (some ⟨g9,0,none⟩) 1 1),(v9),v52,puGl,HXK.out,fun h=>(by simp[mkd] at h),fun _ h=>(by simp[mkd] at h),fun _ _=>⟨v9,rfl,HO9.out,HX9.out,HNX.out⟩,fun h=>(by have q:=H5.out (by simpa [mkd] using h);rw[hL] at q;cases q),fun _=>mkd_same _ _,fun _=>(by have r:M 6=true:=(by simp[haf]);simpa [mkd] using r),ks_ HN6_3,fun _=>(by have r:M 8=true:=(by simp[haf]);simpa [mkd] using r),kq E0,kq E1,kq E2,kq E3,kq E4,kq E5,rf_,kq E7,kq E10⟩
       · obtain rfl:=(E0.out (by simp[haf])).symm
         go_wp2;unfold MgI;exact⟨(.pointer (some ⟨B,0,none⟩)),v43,v44,v45,v46,v47,v48,v49,v50,v51,(.pointer (some ⟨B,0,none⟩)),puGl,HK.out,fun h=>H1.out (by simpa [mkd] using h),fun h k=>H2.out (by simpa [mkd] using h) (by simpa [mkd] using k),fun h k=>H3.out (by simpa [mkd] using h) (by simpa [mkd] using k),fun h=>H4.out (by simpa [mkd] using h),ks_ H5,ks_ HN9_6,ks_ HN6_3,ks_ HN9_8,rf_,kq E1,kq E2,kq E3,kq E4,kq E5,kq E6,kq E7,rf_⟩
       · obtain rfl:=(E10.out (by simp[haf])).symm
         obtain⟨u,rfl,hown9,hbx9,hnx9⟩:=H3.out (by simp[haf]) hL;obtain⟨N1,hN1⟩: ∃N1,List.length (LL.take (n-4)++[(l-1,r/2,c/2)])=N1:=⟨_,rfl⟩;rw[hN1] at hown9;obtain⟨A9,c9,rfl,-,-⟩:=own_form hown9;have HG:Hid (Goes n₀ B (.slice (some ⟨g,0,none⟩) n cap) w3 (LL.take (n-4)++[(l-1,r/2,c/2)]) (w'.setCell ⟨B,0,none⟩ (.slice A9 N1 c9))):=hid ⟨_,⟨hbx9.set _,by rw[hN1];exact hown9.kept (grownBy_setCell' w' B _) (.inr (hbx9.not_row dc_ hown9).symm)⟩,HK.out.set _,hnx9⟩;have hc9:=hbx9.cell;have hf9:=hbx9.frozen;have HS:=hid (HK.out.set (.slice A9 N1 c9));clear hown9 hbx9 hnx9 hN1;go_wp2;unfold MgI;exact⟨v42,v43,v44,v45,v46,v47,v48,v49,v50,(.slice A9 N1 c9),(.pointer (some ⟨B,0,none⟩)),puGl,HS.out,fun h=>(by have q:M 9=false:=(by simpa [mkd] using h);have r:M 9=true:=(by simp[haf]);rw[q] at r;cases r),fun _ h=>(by have q:M 9=false:=(by simpa [mkd] using h);have r:M 9=true:=(by simp[haf]);rw[q] at r;cases r),fun _ h=>(by simp[mkd] at h),fun _=>HG.out,fun _=>(by have r:M 9=true:=(by simp[haf]);simpa [mkd] using r),ks_ HN9_6,ks_ HN6_3,ks_ HN9_8,kq E0,kq E1,kq E2,kq E3,kq E4,kq E5,kq E6,kq E7,rf_⟩
      case fin=>
       rintro M a1' w8 hall ⟨v42,v43,v44,v45,v46,v47,v48,v49,v50,v51,v52,rfl,hk,h1,h2,h3,h4,h5,hn9_6,hn6_3,hn9_8,e0,e1,e2,e3,e4,e5,e6,e7,e10⟩
       obtain rfl:=(e0 (hall 0 dc_)).symm;obtain rfl:=(e1 (hall 1 dc_)).symm;obtain rfl:=(e2 (hall 2 dc_)).symm;obtain rfl:=(e3 (hall 3 dc_)).symm;obtain rfl:=(e4 (hall 4 dc_)).symm;obtain rfl:=(e5 (hall 5 dc_)).symm;obtain rfl:=(e6 (hall 6 dc_)).symm;obtain rfl:=(e7 (hall 7 dc_)).symm;obtain rfl:=(e10 (hall 10 dc_)).symm;have hG:=h4 (hall 11 dc_);clear hk h1 h2 h3 h4 h5 hn9_6 hn6_3 hn9_8;go_wp2;go_ret;exact⟨rfl,(HM.out▸hG.after HB3.out:_)⟩
section
namespace PQ
end PQ
section
variable {W W':World} {g n:Nat} {f f':Nat→Nat}
end
theorem grown_bl{w1 W W':World}{B:Nat}{row:Option Nat}(h:w1.grownBy W row)(hb:Below B W W')(hB:w1.heap.size≤B):w1.grownBy W' row:=
 ⟨hb.os.trans h.os,hb.tape.trans h.tape,hb.output.trans h.output,Nat.le_trans h.size hb.size,fun k hk hr=>(hb.block k om_).trans (h.block k hk hr)⟩
theorem grown_set2{w1 W:World}{g o:Nat}{v:Value}(h:w1.grownBy W (some g)):w1.grownBy (W.setCell ⟨g,o,none⟩ v) (some g):=
 ⟨h.os,h.tape,h.output,by simpa using h.size,fun k hk hr=>(Below.heap_setCell _ _ _ k (fun e=>hr (by rw[e]))).trans (h.block k hk hr)⟩
section
variable {w1 W W':World} {g n:Nat} {c:Nat→Nat} {t:Nat→Nat→Bool} {i:Nat} {pt:Nat→Nat} {A:Option Addr} {nT cT:Nat} {T:List Nat} {k m:Nat}
end
end
structure K3(W:World)(g:Nat)(x:Cl):Prop where
 lt:g<W.heap.size
 c0:W.cell? ⟨g,0,none⟩=some (vi vk x.1)
 c1:W.cell? ⟨g,1,none⟩=some (vi vk x.2.1)
 c2:W.cell? ⟨g,2,none⟩=some (vi vk x.2.2)
theorem idxSt_any(g:Nat)(lb:Array Value)(J:Nat→World→Prop)(eg: ∀args w,(callFunc g args).run Tryz.prog w=.ok (.enter g args) w)(A:Option Addr)(n c:Nat)(L:List Cl)(w:World)(hl:L.length=n)
 (hr: ∀k W,J k W→Reads W W.heap.size 3 A n (cvs L)) (hn:n≤maxLen) (h0:J 0 w) (hp: ∀(W:World) (k:Nat),k<n→J k W→Calls Tryz.prog g (#[cva (gt L k)]++lb) W fun e w'=>e=.returned (.bool false)∧J (k+1) w'):
 Calls Tryz.prog 106 #[.slice A n c,.func (.func g) #[] lb] w fun e w'=>e=.returned (vi vk (-1))∧J n w':=by
 have HR:=hid hr;have HP:=hid hp;have H0:=hid h0;clear hr hp hl h0;unfold maxLen at hn;go_enter func106,ntmps106;go_wp2;go_loopg [8] n (fun gg s8 wr=> ∃kk:Nat,kk≤n∧n-kk≤gg∧s8=vi vk kk∧J kk wr)
 case atStart=>exact⟨0,Nat.zero_le _,om_,rfl,H0.out⟩
 case round=>
  obtain⟨kk,hkk,hg,rfl,hJ⟩:=hrel;have HJ:=hid hJ;clear hJ;by_cases hlt:kk<n
  · obtain⟨b,off,rfl,hb,y1,y2,y3⟩:=(HR.out kk wr HJ.out).elem hlt
    have hcall:=hid (HP.out wr kk hlt HJ.out);go_wp2_with (go_at_fn g;refine hcall.out.mono ?_;rintro e w' ⟨rfl,hj'⟩);go_roundg (n-(kk+1))
    case measure=>omega
    case rel=>exact⟨kk+1,om_,om_,by go_num,hj'⟩
  · go_wp2
    go_ret;have h:=HJ.out;rw[show kk=n by omega] at h;exact⟨rfl,h⟩
theorem contSt_any(g:Nat)(lb:Array Value)(J:Nat→World→Prop)(eg: ∀args w,(callFunc g args).run Tryz.prog w=.ok (.enter g args) w)(A:Option Addr)(n c:Nat)(L:List Cl)(w:World)(hl:L.length=n)
 (hr: ∀k W,J k W→Reads W W.heap.size 3 A n (cvs L)) (hn:n≤maxLen) (h0:J 0 w) (hp: ∀(W:World) (k:Nat),k<n→J k W→Calls Tryz.prog g (#[cva (gt L k)]++lb) W fun e w'=>e=.returned (.bool false)∧J (k+1) w'):
 Calls Tryz.prog 60 #[.slice A n c,.func (.func g) #[] lb] w fun e w'=>e=.returned (.bool false)∧J n w':=by
 have H:=hid (idxSt_any g lb J eg A n c L w hl hr hn h0 hp);clear hp hr hn eg h0;go_enter func60,ntmps60;go_wp2_with (go_at_call 106;refine H.out.mono ?_;rintro e w1 ⟨rfl,hj⟩);go_ret;exact⟨rfl,hj⟩
end Go.Proofs.YtdeiofgddhbdaaaGreat
