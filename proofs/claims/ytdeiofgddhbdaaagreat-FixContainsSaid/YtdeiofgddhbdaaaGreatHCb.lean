/- The walk of arctrig's Bearing at any intervals. -/
import Derived.Test.YtdeiofgddhbdaaaGreatHBe
set_option linter.unusedSimpArgs false
set_option linter.unusedVariables false
set_option maxHeartbeats 4000000
set_option maxRecDepth 100000
open Go.RowKit
open Go.Lib (hid)
open Go.Proofs.Tryz
open Go.Value renaming int→vi
open Go.IntKind renaming i64→vk
namespace Go.Proofs.YtdeiofgddhbdaaaGreat
def rnd(x y:Int):Nat:=if 0<x∧0≤y then 0 else if x≤0∧0<y then 1 else if x<0∧y≤0 then 2 else 3
theorem rnd_turn{x y:Int}(hne:x≠0∨y≠0)(h: ¬(0<x∧0≤y)):rnd y (-x)+1=rnd x y:=by
 unfold rnd;repeat' split
 all_goals omega
theorem rnd_le(x y:Int):rnd x y≤3:=by
 unfold rnd;repeat' split
 all_goals omega
def AngR(e:Ending):Prop:= ∃(lo:Int) (bo:Bool),e=.returned (.tuple #[vi vk lo,.bool bo])∧0≤lo∧lo<21600000
theorem angle_any(x y:Int)(w:World)(hx0: -1099511627776≤x)(hx1:x≤1099511627776)(hy0: -1099511627776≤y)(hy1:y≤1099511627776)(hne:x≠0∨y≠0):
 Calls Tryz.prog 177 #[.agg #[vi vk x,vi vk y]] w fun e w'=>AngR e∧Below w.heap.size w w':=by
 have P0:=hid (Blk.new w 206 #[vi vk x,vi vk y]);have B0:=hid (bl_alloc w (.cells #[vi vk x,vi vk y] 206));have HN:=hid hne;clear hne;go_enter func177,ntmps177;go_wp2;go_loopg [4] 3 (fun gg s4 wr=> ∃x' y' t:Int,rnd x' y'≤gg∧0≤t∧t+5400000*rnd x' y'≤16200000∧s4=vi vk t∧(x'≠0∨y'≠0)∧(-1099511627776≤x'∧x'≤1099511627776∧ -1099511627776≤y'∧y'≤1099511627776)∧Blk wr w.heap.size 206 #[vi vk x',vi vk y']∧Below w.heap.size w wr)
 case atStart=>exact⟨x,y,0,rnd_le _ _,Int.le_refl _,by have:=rnd_le x y;omega,rfl,HN.out,⟨hx0,hx1,hy0,hy1⟩,P0.out,B0.out⟩
 case round=>
  obtain⟨x',y',t,hg,ht0,ht1,rfl,hne,hbd,hP,hB⟩:=hrel;clear P0 B0 HN;have HP:=hid hP;have HB:=hid hB;have p0:wr.cell? ⟨w.heap.size,0,none⟩=some (vi vk x'):=hP.cell 0;have p1:wr.cell? ⟨w.heap.size,1,none⟩=some (vi vk y'):=hP.cell 1;have f0:=hP.frozen 0;have f1:=hP.frozen 1;have hl0:=hP.lt;clear hP hB;by_cases hq:0<x'∧0≤y'
  · have d0:decide (0<x')=true:=decide_eq_true hq.1
    have d1:decide (0≤y')=true:=decide_eq_true hq.2;have ht2:t≤16200000:=by omega
    have hq0:=hq.1;have hq1:=hq.2;have KL:=hid (fun m (h0:0<m) (h1:m<5400000) W=>reaches_any x' y' m W om_ hbd.2.1 hq1 hbd.2.2.2 h0 h1);clear hne hg ht1 f0 f1 hq hl0;go_wp2;clear d0 d1;go_loopw [5,6] (fun v5 v6 ws=> ∃lo hi:Int,v5=vi vk lo∧v6=vi vk hi∧0≤lo∧lo<hi∧hi≤5400000∧Blk ws w.heap.size 206 #[vi vk x',vi vk y']∧Below w.heap.size w ws) (fun v5 v6 _=>(intOf v6-intOf v5).toNat)
    case atStart=>exact⟨0,5400000,rfl,rfl,om_,om_,om_,HP.out,HB.out⟩
    case round=>
     obtain⟨lo,hi,rfl,rfl,hl0,hlh,hh,hP,hB⟩:=hrel;clear HP HB p0 p1;have HP:=hid hP;have HB:=hid hB;have p0:wr.cell? ⟨w.heap.size,0,none⟩=some (vi vk x'):=hP.cell 0;have p1:wr.cell? ⟨w.heap.size,1,none⟩=some (vi vk y'):=hP.cell 1;clear hP hB;by_cases h1:1<hi-lo
     · obtain⟨m,hm⟩: ∃m,(lo+hi)/2=m:=⟨_,rfl⟩
       have hm0:0<m:=by omega
       have hm1:m<5400000:=by omega
       have hm2:lo<m∧m<hi:=by omega
       have n0:wrap64 (hi-lo)=hi-lo:=IntWalk.wrap64_in _ om_;have n1:wrap64 (lo+hi)=lo+hi:=IntWalk.wrap64_in _ om_;have n2:Int.tdiv (lo+hi) 2=m:=by rw[Int.tdiv_eq_ediv_of_nonneg om_];exact hm
       have n3:wrap64 m=m:=IntWalk.wrap64_in _ om_;have hd1:decide (1<hi-lo)=true:=decide_eq_true h1;clear hm h1;go_wp2_with fail;(with_reducible refine(KL.out m hm0 hm1 _).mono ?_)
       rintro e w1 ⟨⟨bo,rfl⟩,hb1⟩
       clear p0 p1;cases bo with
       |true=>
        go_wp2;go_roundw
        case rel=>exact⟨m,hi,rfl,rfl,om_,om_,hh,HP.out.below hb1 HP.out.lt,HB.out.trans (hb1.mono HB.out.size)⟩
        case measure=>simp[intOf];omega
       |false=>
        go_wp2;go_roundw
        case rel=>exact⟨lo,m,rfl,rfl,om_,om_,om_,HP.out.below hb1 HP.out.lt,HB.out.trans (hb1.mono HB.out.size)⟩
        case measure=>simp[intOf];omega
     · have n0:wrap64 (hi-lo)=hi-lo:=IntWalk.wrap64_in _ om_
       have hd1:decide (1<hi-lo)=false:=decide_eq_false h1;have n1:wrap64 (t+lo)=t+lo:=IntWalk.wrap64_in _ om_;have n4:wrap64 lo=lo:=IntWalk.wrap64_in _ om_;have hr:0≤t+lo∧t+lo<21600000:=by omega
       clear h1 KL;obtain⟨b1,e1⟩: ∃b,(lo==0)=b:=⟨_,rfl⟩;obtain⟨b2,e2⟩: ∃b,(y'==0)=b:=⟨_,rfl⟩;obtain⟨b3,e3⟩: ∃b,(lo==2700000)=b:=⟨_,rfl⟩;obtain⟨b4,e4⟩: ∃b,(x'==y')=b:=⟨_,rfl⟩;clear hl0 hlh hh hbd hq0 hq1 ht0 ht2;obtain⟨bo,hbo⟩: ∃bo,((b1&&b2)||(b3&&b4))=bo:=⟨_,rfl⟩;have HBo:=hid hbo;clear hbo;cases b1<;>cases b2<;>cases b3<;>cases b4
       all_goals
        go_wp2;go_quiet (fail);rename_i nq;go_wp2;have hbo:=HBo.out;simp only[Bool.and_true,Bool.true_and,Bool.and_false,Bool.false_and,Bool.or_true,Bool.true_or,Bool.or_false,Bool.false_or] at hbo;exact bodyPost_ret (v:=.tuple #[vi vk (t+lo),.bool bo]) (by simp[results,results177,go_sem,←hbo]) rfl ⟨⟨_,_,rfl,hr.1,hr.2⟩,bl_drewN HB.out nq⟩
  · have hrt:=rnd_turn hne hq
    have n0:wrap64 (-x')= -x':=IntWalk.wrap64_in _ om_;have n1:wrap64 (t+5400000)=t+5400000:=IntWalk.wrap64_in _ om_;have S:=hid ((HP.out.set_ 0 (vi vk y')).set_ 1 (vi vk (-x')));have SB:=hid ((HB.out.setCell (p:=⟨w.heap.size,0,none⟩) (Nat.le_refl _) (vi vk y')).setCell (p:=⟨w.heap.size,1,none⟩) (Nat.le_refl _) (vi vk (-x')));have HNE:=hid hne;have HBD:=hid hbd;clear hne;by_cases h0:0<x'
    · have d0:decide (0<x')=true:=decide_eq_true h0
      have d1:decide (0≤y')=false:=decide_eq_false om_;clear hq h0;go_wp2;go_roundg (rnd y' (-x'))
      case measure=>omega
      case rel=>exact⟨y',-x',t+5400000,Nat.le_refl _,om_,om_,by go_num,by have:=HNE.out;omega,by have:=HBD.out;omega,S.out,SB.out⟩
    · have d0:decide (0<x')=false:=decide_eq_false h0
      clear hq h0;go_wp2;go_roundg (rnd y' (-x'))
      case measure=>omega
      case rel=>exact⟨y',-x',t+5400000,Nat.le_refl _,om_,om_,by go_num,by have:=HNE.out;omega,by have:=HBD.out;omega,S.out,SB.out⟩
theorem corner_at0(a0 a1 a2 a3 a4 a5 a6 a7:Int)(W:World):(Instr.index 207 (.agg #[vi vk a0,vi vk a1,vi vk a2,vi vk a3,vi vk a4,vi vk a5,vi vk a6,vi vk a7]) (vi vk 0)).run Tryz.prog W=.ok (.agg #[vi vk a0,vi vk a1]) W:=by
 have u:=underlying207;have up:=underlying206;have sp:=Tryz.sizeOf206;have ap:=Tryz.isAgg206;simp[Instr.index,run_underlying u,asIntOf,go_sem,part]
theorem corner_at1(a0 a1 a2 a3 a4 a5 a6 a7:Int)(W:World):(Instr.index 207 (.agg #[vi vk a0,vi vk a1,vi vk a2,vi vk a3,vi vk a4,vi vk a5,vi vk a6,vi vk a7]) (vi vk 1)).run Tryz.prog W=.ok (.agg #[vi vk a2,vi vk a3]) W:=by
 have u:=underlying207;have up:=underlying206;have sp:=Tryz.sizeOf206;have ap:=Tryz.isAgg206;simp[Instr.index,run_underlying u,asIntOf,go_sem,part]
theorem corner_at2(a0 a1 a2 a3 a4 a5 a6 a7:Int)(W:World):(Instr.index 207 (.agg #[vi vk a0,vi vk a1,vi vk a2,vi vk a3,vi vk a4,vi vk a5,vi vk a6,vi vk a7]) (vi vk 2)).run Tryz.prog W=.ok (.agg #[vi vk a4,vi vk a5]) W:=by
 have u:=underlying207;have up:=underlying206;have sp:=Tryz.sizeOf206;have ap:=Tryz.isAgg206;simp[Instr.index,run_underlying u,asIntOf,go_sem,part]
theorem corner_at3(a0 a1 a2 a3 a4 a5 a6 a7:Int)(W:World):(Instr.index 207 (.agg #[vi vk a0,vi vk a1,vi vk a2,vi vk a3,vi vk a4,vi vk a5,vi vk a6,vi vk a7]) (vi vk 3)).run Tryz.prog W=.ok (.agg #[vi vk a6,vi vk a7]) W:=by
 have u:=underlying207;have up:=underlying206;have sp:=Tryz.sizeOf206;have ap:=Tryz.isAgg206;simp[Instr.index,run_underlying u,asIntOf,go_sem,part]
section
def BearA(e:Ending):Prop:= ∃lo hi:Int,e=.returned (.tuple #[.agg #[vi vk lo,vi vk hi],vi vk 0])∧0≤lo∧lo<21600000∧lo≤hi∧hi≤43200000
def NZp(x y:Int):Prop:=(x≠0∨y≠0)∧ -2147483648≤x∧x≤2147483648∧ -2147483648≤y∧y≤2147483648
theorem prod_fits{a b:Int}(h0: -2147483648≤a)(h1:a≤2147483648)(h2: -2147483648≤b)(h3:b≤2147483648):wrap64 (a*b)=a*b:=by
 have a1:a*b≤4611686018427387904:=by
  have:=Int.mul_nonneg (show 0≤2147483648-a by omega) (show 0≤2147483648+b by omega);have:=Int.mul_nonneg (show 0≤2147483648+a by omega) (show 0≤2147483648-b by omega);simp only[Int.sub_mul,Int.mul_add,Int.add_mul,Int.mul_sub] at*;omega
 have a2: -4611686018427387904≤a*b:=by
  have:=Int.mul_nonneg (show 0≤2147483648-a by omega) (show 0≤2147483648-b by omega);have:=Int.mul_nonneg (show 0≤2147483648+a by omega) (show 0≤2147483648+b by omega);simp only[Int.sub_mul,Int.mul_add,Int.add_mul,Int.mul_sub] at*;omega
 exact IntWalk.wrap64_in _ om_
theorem before_nz(x y x' y':Int)(w:World)(h:NZp x y)(h':NZp x' y'):Calls Tryz.prog 176 #[.agg #[vi vk x,vi vk y],.agg #[vi vk x',vi vk y']] w fun e w'=>AnyBool e∧Below w.heap.size w w':=
 (ptBefore_any x y x' y' w (prod_fits h.2.1 h.2.2.1 h'.2.2.2.1 h'.2.2.2.2) (prod_fits h.2.2.2.1 h.2.2.2.2 h'.2.1 h'.2.2.1)).mono fun _ _ ⟨he,hb⟩=>⟨⟨_,he⟩,hb⟩
theorem angle_nz(x y:Int)(w:World)(h:NZp x y):Calls Tryz.prog 177 #[.agg #[vi vk x,vi vk y]] w fun e w'=>AngR e∧Below w.heap.size w w':=
 angle_any x y w (by have:=h.2;omega) (by have:=h.2;omega) (by have:=h.2;omega) (by have:=h.2;omega) h.1
structure BSt(w wr:World)(g7 g8:Nat)(u v u' v':Int):Prop where
 ne:g7≠g8
 h7:w.heap.size+1+1<g7
 h8:w.heap.size+1+1<g8
 n:NZp u v
 n':NZp u' v'
 S:Blk wr g7 206 #[vi vk u,vi vk v]
 L:Blk wr g8 206 #[vi vk u',vi vk v']
 Z:Blk wr (w.heap.size+1+1) 31 #[vi vk 0,vi vk 0]
 B:Below w.heap.size w wr
section
variable {w wr w':World} {g7 g8:Nat} {u v u' v':Int}
theorem BSt.below(h:BSt w wr g7 g8 u v u' v')(hb:Below wr.heap.size wr w'):BSt w w' g7 g8 u v u' v':=
 ⟨h.ne,h.h7,h.h8,h.n,h.n',h.S.below hb h.S.lt,h.L.below hb h.L.lt,h.Z.below hb h.Z.lt,h.B.trans (hb.mono h.B.size)⟩
theorem BSt.set7(h:BSt w wr g7 g8 u v u' v'){a b:Int}(hn:NZp a b):BSt w ((wr.setCell ⟨g7,0,none⟩ (vi vk a)).setCell ⟨g7,1,none⟩ (vi vk b)) g7 g8 a b u' v':=
 ⟨h.ne,h.h7,h.h8,hn,h.n',(h.S.set_ 0 (vi vk a)).set_ 1 (vi vk b),(h.L.far (p:=⟨g7,0,none⟩) h.ne.symm _).far (p:=⟨g7,1,none⟩) h.ne.symm _,(h.Z.far (p:=⟨g7,0,none⟩) (by have:=h.h7;simp only[];omega) _).far (p:=⟨g7,1,none⟩) (by have:=h.h7;simp only[];omega) _,(h.B.setCell (p:=⟨g7,0,none⟩) (by have:=h.h7;simp only[];omega) _).setCell (p:=⟨g7,1,none⟩) (by have:=h.h7;simp only[];omega) _⟩
theorem BSt.set8(h:BSt w wr g7 g8 u v u' v'){a b:Int}(hn:NZp a b):BSt w ((wr.setCell ⟨g8,0,none⟩ (vi vk a)).setCell ⟨g8,1,none⟩ (vi vk b)) g7 g8 u v a b:=
 ⟨h.ne,h.h7,h.h8,h.n,hn,(h.S.far (p:=⟨g8,0,none⟩) h.ne _).far (p:=⟨g8,1,none⟩) h.ne _,(h.L.set_ 0 (vi vk a)).set_ 1 (vi vk b),(h.Z.far (p:=⟨g8,0,none⟩) (by have:=h.h8;simp only[];omega) _).far (p:=⟨g8,1,none⟩) (by have:=h.h8;simp only[];omega) _,(h.B.setCell (p:=⟨g8,0,none⟩) (by have:=h.h8;simp only[];omega) _).setCell (p:=⟨g8,1,none⟩) (by have:=h.h8;simp only[];omega) _⟩
end
theorem four_nat{k:Nat}(h:k<4):k=0∨k=1∨k=2∨k=3:=by omega
theorem corner_ex(x0 x1 y0 y1:Int)(h00:NZp x0 y0)(h01:NZp x0 y1)(h10:NZp x1 y0)(h11:NZp x1 y1)(k:Nat)(hk:k<4):
 ∃cx cy,NZp cx cy∧ ∀W,(Instr.index 207 (.agg #[vi vk x0,vi vk y0,vi vk x0,vi vk y1,vi vk x1,vi vk y0,vi vk x1,vi vk y1]) (vi vk (k:Int))).run Tryz.prog W=.ok (.agg #[vi vk cx,vi vk cy]) W:=by
 rcases four_nat hk with rfl|rfl|rfl|rfl
 · exact⟨_,_,h00,fun W=>corner_at0 _ _ _ _ _ _ _ _ W⟩
 · exact⟨_,_,h01,fun W=>corner_at1 _ _ _ _ _ _ _ _ W⟩
 · exact⟨_,_,h10,fun W=>corner_at2 _ _ _ _ _ _ _ _ W⟩
 · exact⟨_,_,h11,fun W=>corner_at3 _ _ _ _ _ _ _ _ W⟩
theorem Bearing_any(y0 y1 x0 x1:Int)(w:World)(hy:fvB y0 y1=true)(hx:fvB x0 x1=true):
 Calls Tryz.prog 123 #[.agg #[vi vk y0,vi vk y1],.agg #[vi vk x0,vi vk x1]] w fun e w'=>BearA e∧Below w.heap.size w w':=by
 have KV0:=fun W=>fValid_any y0 y1 W;have KV1:=fun W=>fValid_any x0 x1 W;rw[hy] at KV0;rw[hx] at KV1;unfold fvB at hx hy;rw[decide_eq_true_eq] at hx hy;have KV0:=hid KV0;have KV1:=hid KV1;have KA:=hid angle_nz;have KB:=hid before_nz;have yy:=((Blk.new w 158 #[vi vk y0,vi vk y1]).alloc (.cells #[vi vk x0,vi vk x1] 158)).alloc (.cells #[vi vk 0,vi vk 0] 31);have xx:=(Blk.new (w.alloc (.cells #[vi vk y0,vi vk y1] 158)) 158 #[vi vk x0,vi vk x1]).alloc (.cells #[vi vk 0,vi vk 0] 31);have zz:=Blk.new ((w.alloc (.cells #[vi vk y0,vi vk y1] 158)).alloc (.cells #[vi vk x0,vi vk x1] 158)) 31 #[vi vk 0,vi vk 0];rw[World.size_alloc] at xx;rw[World.size_alloc,World.size_alloc] at zz;have Y0:=hid yy;have X0:=hid xx;have Z0:=hid zz;have B0:=hid (((bl_alloc w (.cells #[vi vk y0,vi vk y1] 158)).alloc (by simp) (.cells #[vi vk x0,vi vk x1] 158)).alloc (by simp;omega) (.cells #[vi vk 0,vi vk 0] 31));clear xx zz yy;go_enter func123,ntmps123;go_wp2_with fail;(with_reducible refine(KV1.out _).mono ?_)
 rintro e w1 ⟨rfl,hb1⟩
 have Y1:=hid (Y0.out.below hb1 Y0.out.lt);have X1:=hid (X0.out.below hb1 X0.out.lt);have Z1:=hid (Z0.out.below hb1 Z0.out.lt);have B1:=hid (B0.out.trans (hb1.mono B0.out.size));clear hb1 Y0 X0 Z0 B0;have p0:w1.cell? ⟨w.heap.size,0,none⟩=some (vi vk y0):=Y1.out.cell 0;have p1:w1.cell? ⟨w.heap.size,1,none⟩=some (vi vk y1):=Y1.out.cell 1;go_wp2_with fail;(with_reducible refine(KV0.out _).mono ?_)
 rintro e w2 ⟨rfl,hb2⟩
 clear p0 p1;have Y2:=hid (Y1.out.below hb2 Y1.out.lt);have X2:=hid (X1.out.below hb2 X1.out.lt);have Z2:=hid (Z1.out.below hb2 Z1.out.lt);have B2:=hid (B1.out.trans (hb2.mono B1.out.size));clear hb2 Y1 X1 Z1 B1;have p0:w2.cell? ⟨w.heap.size,0,none⟩=some (vi vk y0):=Y2.out.cell 0;have p1:w2.cell? ⟨w.heap.size,1,none⟩=some (vi vk y1):=Y2.out.cell 1;have q0:w2.cell? ⟨w.heap.size+1,0,none⟩=some (vi vk x0):=X2.out.cell 0;have q1:w2.cell? ⟨w.heap.size+1,1,none⟩=some (vi vk x1):=X2.out.cell 1;by_cases ho:x0≤0∧0≤x1∧y0≤0∧0≤y1
 · have o0:decide (x0≤0)=true:=decide_eq_true ho.1
   have o1:decide (0≤x1)=true:=decide_eq_true ho.2.1;have o2:decide (y0≤0)=true:=decide_eq_true ho.2.2.1;have o3:decide (0≤y1)=true:=decide_eq_true ho.2.2.2;have z0:w2.cell? ⟨w.heap.size+1+1,0,none⟩=some (vi vk 0):=Z2.out.cell 0;have z1:w2.cell? ⟨w.heap.size+1+1,1,none⟩=some (vi vk 0):=Z2.out.cell 1;have f0:w2.frozen? ⟨w.heap.size+1+1,0,none⟩=false:=Z2.out.frozen 0;have f1:w2.frozen? ⟨w.heap.size+1+1,1,none⟩=false:=Z2.out.frozen 1;have hl:=Z2.out.lt;clear ho hx hy;go_wp2;refine bodyPost_ret (v:=.tuple #[.agg #[vi vk 0,vi vk 21600000],vi vk 0]) (by simp[results,results123,go_sem,z0,z1]) rfl ⟨⟨_,_,rfl,om_,om_,om_,om_⟩,?_⟩;exact(B2.out.setCell so_ _).setCell so_ _
 have h00:NZp x0 y0:=⟨om_,om_,om_,om_,om_⟩;have h01:NZp x0 y1:=⟨om_,om_,om_,om_,om_⟩;have h10:NZp x1 y0:=⟨om_,om_,om_,om_,om_⟩;have h11:NZp x1 y1:=⟨om_,om_,om_,om_,om_⟩;have hcase:decide (x0≤0)=false∨(decide (x0≤0)=true∧decide (0≤x1)=false)∨(decide (x0≤0)=true∧decide (0≤x1)=true∧decide (y0≤0)=false)∨(decide (x0≤0)=true∧decide (0≤x1)=true∧decide (y0≤0)=true∧decide (0≤y1)=false):=by
  simp only[decide_eq_false_iff_not,decide_eq_true_eq];omega
 have HC:=hid hcase;clear hcase ho hx hy;have HCo:=hid (corner_ex x0 x1 y0 y1 h00 h01 h10 h11);have H00:=hid h00;clear h00 h01 h10 h11;go_upto_region 3 with (fail)
 go_cut [41] from 24 to 41 (fun s41 wy=>s41=.bool false∧wy=w2)
 case first=>
  rcases HC.out with o0|⟨o0,o1⟩|⟨o0,o1,o2⟩|⟨o0,o1,o2,o3⟩
  all_goals
   clear HC;go_wp2;go_meet
   case rel=>exact⟨rfl,rfl⟩
 case rest=>
 obtain⟨rfl,hwy⟩:=hcut;subst hwy;rename World=>w2
 clear HC;go_upto_region 6 with (fail)
 have C3:=hid (Blk.new w2 207 #[vi vk x0,vi vk y0,vi vk x0,vi vk y1,vi vk x1,vi vk y0,vi vk x1,vi vk y1]);have Z3:=hid (Z2.out.alloc (.cells #[vi vk x0,vi vk y0,vi vk x0,vi vk y1,vi vk x1,vi vk y0,vi vk x1,vi vk y1] 207));have B3:=hid (B2.out.alloc B2.out.size (.cells #[vi vk x0,vi vk y0,vi vk x0,vi vk y1,vi vk x1,vi vk y0,vi vk x1,vi vk y1] 207));obtain⟨w3,hw3⟩: ∃w3,w2.alloc (.cells #[vi vk x0,vi vk y0,vi vk x0,vi vk y1,vi vk x1,vi vk y0,vi vk x1,vi vk y1] 207)=w3:=⟨_,rfl⟩;rw[hw3] at C3 Z3 B3⊢;clear hw3 p0 p1 q0 q1 X2 Y2 Z2 B2 KV0 KV1;generalize w2.heap.size=g6 at*;have c0:w3.cell? ⟨g6,0,none⟩=some (vi vk x0):=C3.out.cell 0;have c1:w3.cell? ⟨g6,1,none⟩=some (vi vk y0):=C3.out.cell 1;have y0':=fun o=>((bl_alloc w3 o).cell (p:=⟨g6,0,none⟩) C3.out.lt).trans c0;have y1':=fun o=>((bl_alloc w3 o).cell (p:=⟨g6,1,none⟩) C3.out.lt).trans c1;have v0':=fun o o'=>(((bl_alloc w3 o).alloc (by simp) o').cell (p:=⟨g6,0,none⟩) C3.out.lt).trans c0;have v1':=fun o o'=>(((bl_alloc w3 o).alloc (by simp) o').cell (p:=⟨g6,1,none⟩) C3.out.lt).trans c1;go_cut [7,8] from 7 to 67 (fun s7 s8 wy=> ∃g7 g8:Nat,s7=.pointer (some ⟨g7,0,none⟩)∧s8=.pointer (some ⟨g8,0,none⟩)∧g7≠g8∧w3.heap.size≤g7∧w3.heap.size≤g8∧Blk wy g7 206 #[vi vk x0,vi vk y0]∧Blk wy g8 206 #[vi vk x0,vi vk y0]∧Below w3.heap.size w3 wy)
 case first=>
  have hA:=hid ((Blk.new w3 206 #[vi vk x0,vi vk y0]).alloc (.cells #[vi vk x0,vi vk y0] 206));have hb':=Blk.new (w3.alloc (.cells #[vi vk x0,vi vk y0] 206)) 206 #[vi vk x0,vi vk y0];rw[World.size_alloc] at hb';have hB:=hid hb';have hC:=hid (bl_drew ((bl_alloc w3 (.cells #[vi vk x0,vi vk y0] 206)).alloc (by simp) (.cells #[vi vk x0,vi vk y0] 206)));clear hb';go_region
  all_goals
   try go_wp2
   go_meet
   case rel=>
    first
    |exact⟨_,_,rfl,rfl,Nat.ne_of_lt (Nat.lt_succ_self _),Nat.le_refl _,Nat.le_succ _,hA.out.drew,hB.out.drew,hC.out⟩
    |exact⟨_,_,rfl,rfl,Nat.ne_of_gt (Nat.lt_succ_self _),Nat.le_succ _,Nat.le_refl _,hB.out.drew,hA.out.drew,hC.out⟩
 case rest=>
 obtain⟨g7,g8,rfl,rfl,hne,h7,h8,T7,T8,hb⟩:=hcut;rename World=>w4
 have hl3:=C3.out.lt;have hz3:=Z3.out.lt;have C4:=C3.out.below hb C3.out.lt;have c0:w4.cell? ⟨g6,0,none⟩=some (vi vk x0):=C4.cell 0;have c1:w4.cell? ⟨g6,1,none⟩=some (vi vk y0):=C4.cell 1;have c2:w4.cell? ⟨g6,2,none⟩=some (vi vk x0):=C4.cell 2;have c3:w4.cell? ⟨g6,3,none⟩=some (vi vk y1):=C4.cell 3;have c4:w4.cell? ⟨g6,4,none⟩=some (vi vk x1):=C4.cell 4;have c5:w4.cell? ⟨g6,5,none⟩=some (vi vk y0):=C4.cell 5;have c6:w4.cell? ⟨g6,6,none⟩=some (vi vk x1):=C4.cell 6;have c7:w4.cell? ⟨g6,7,none⟩=some (vi vk y1):=C4.cell 7;have ST:Hid (BSt w w4 g7 g8 x0 y0 x0 y0):=hid ⟨hne,om_,om_,H00.out,H00.out,T7,T8,Z3.out.below hb Z3.out.lt,B3.out.trans (hb.mono B3.out.size)⟩;clear T7 T8 hb C4 C3 Z3 B3 y0' y1' v0' v1' h7 h8 hne hl3 hz3 H00;go_wp2;clear c0 c1 c2 c3 c4 c5 c6 c7;go_loopg [69] 4 (fun gg s69 wr=> ∃(k:Nat) (u v u' v':Int),k≤4∧4-k≤gg∧s69=vi vk k∧BSt w wr g7 g8 u v u' v')
 case atStart=>exact⟨0,x0,y0,x0,y0,om_,om_,rfl,ST.out⟩
 case round=>
  obtain⟨k,u,v,u',v',hk,hg,rfl,hst⟩:=hrel;clear ST;have ST:=hid hst;have a0:wr.cell? ⟨g7,0,none⟩=some (vi vk u):=hst.S.cell 0;have a1:wr.cell? ⟨g7,1,none⟩=some (vi vk v):=hst.S.cell 1;have hl7:=hst.S.lt;have hl8:=hst.L.lt;clear hst;by_cases hlt:k<4
  · obtain⟨cx,cy,hnz,a2⟩:=HCo.out k hlt
    have HNZ:=hid hnz;clear hnz;have b0:=fun o=>((bl_alloc wr o).cell (p:=⟨g7,0,none⟩) hl7).trans a0;have b1:=fun o=>((bl_alloc wr o).cell (p:=⟨g7,1,none⟩) hl7).trans a1;have K1:=hid (fun W=>KB.out cx cy u v W HNZ.out ST.out.n);go_wp2_with fail;(with_reducible refine(K1.out _).mono ?_)
    rintro e w5 ⟨⟨q,rfl⟩,hb5⟩
    have hb6:=(bl_alloc wr (.cells #[vi vk cx,vi vk cy] 206)).trans (hb5.mono (by simp));have N5:=hid ((Blk.new wr 206 #[vi vk cx,vi vk cy]).below hb5 (by simp));have S5:=hid (ST.out.below hb6);clear a0 a1 a2 b0 b1 hb5 hb6 ST K1;generalize wr.heap.size=gn at N5 hl7 hl8⊢;cases q with
    |true=>
     have S6:=hid (S5.out.set7 HNZ.out);have N6:=hid ((N5.out.far (p:=⟨g7,0,none⟩) so_ (vi vk cx)).far (p:=⟨g7,1,none⟩) so_ (vi vk cy));have a0:w5.cell? ⟨g7,0,none⟩=some (vi vk u):=S5.out.S.cell 0;have a1:w5.cell? ⟨g7,1,none⟩=some (vi vk v):=S5.out.S.cell 1;have f0:=S5.out.S.frozen 0;have f1:=S5.out.S.frozen 1;have d0:w5.cell? ⟨gn,0,none⟩=some (vi vk cx):=N5.out.cell 0;have d1:w5.cell? ⟨gn,1,none⟩=some (vi vk cy):=N5.out.cell 1;have l7:=S5.out.S.lt;go_upto_region 12 with (fail)
     generalize ((w5.setCell ⟨g7,0,none⟩ (vi vk cx)).setCell ⟨g7,1,none⟩ (vi vk cy))=w6 at S6 N6⊢;clear a0 a1 f0 f1 d0 d1 S5 N5 l7;have a0:w6.cell? ⟨g8,0,none⟩=some (vi vk u'):=S6.out.L.cell 0;have a1:w6.cell? ⟨g8,1,none⟩=some (vi vk v'):=S6.out.L.cell 1;have d0:w6.cell? ⟨gn,0,none⟩=some (vi vk cx):=N6.out.cell 0;have d1:w6.cell? ⟨gn,1,none⟩=some (vi vk cy):=N6.out.cell 1;have K2:=hid (fun W=>KB.out u' v' cx cy W S6.out.n' HNZ.out);go_wp2_with fail;(with_reducible refine(K2.out _).mono ?_)
     rintro e w7 ⟨⟨q,rfl⟩,hb7⟩
     have S7:=hid (S6.out.below hb7);have N7:=hid (N6.out.below hb7 N6.out.lt);clear a0 a1 d0 d1 hb7 S6 N6 K2;cases q with
     |true=>
      have S8:=hid (S7.out.set8 HNZ.out);have a0:w7.cell? ⟨g8,0,none⟩=some (vi vk u'):=S7.out.L.cell 0;have a1:w7.cell? ⟨g8,1,none⟩=some (vi vk v'):=S7.out.L.cell 1;have f0:=S7.out.L.frozen 0;have f1:=S7.out.L.frozen 1;have d0:w7.cell? ⟨gn,0,none⟩=some (vi vk cx):=N7.out.cell 0;have d1:w7.cell? ⟨gn,1,none⟩=some (vi vk cy):=N7.out.cell 1;have l8:=S7.out.L.lt;go_wp2;go_roundg (4-(k+1))
      case measure=>omega
      case rel=>exact⟨k+1,cx,cy,cx,cy,om_,om_,by go_num,S8.out⟩
     |false=>
      go_wp2;go_roundg (4-(k+1))
      case measure=>omega
      case rel=>exact⟨k+1,cx,cy,u',v',om_,om_,by go_num,S7.out⟩
    |false=>
     have a0:w5.cell? ⟨g8,0,none⟩=some (vi vk u'):=S5.out.L.cell 0;have a1:w5.cell? ⟨g8,1,none⟩=some (vi vk v'):=S5.out.L.cell 1;have d0:w5.cell? ⟨gn,0,none⟩=some (vi vk cx):=N5.out.cell 0;have d1:w5.cell? ⟨gn,1,none⟩=some (vi vk cy):=N5.out.cell 1;have K2:=hid (fun W=>KB.out u' v' cx cy W S5.out.n' HNZ.out);go_wp2_with fail;(with_reducible refine(K2.out _).mono ?_)
     rintro e w7 ⟨⟨q,rfl⟩,hb7⟩
     have S7:=hid (S5.out.below hb7);have N7:=hid (N5.out.below hb7 N5.out.lt);clear a0 a1 d0 d1 hb7 S5 N5 K2;cases q with
     |true=>
      have S8:=hid (S7.out.set8 HNZ.out);have a0:w7.cell? ⟨g8,0,none⟩=some (vi vk u'):=S7.out.L.cell 0;have a1:w7.cell? ⟨g8,1,none⟩=some (vi vk v'):=S7.out.L.cell 1;have f0:=S7.out.L.frozen 0;have f1:=S7.out.L.frozen 1;have d0:w7.cell? ⟨gn,0,none⟩=some (vi vk cx):=N7.out.cell 0;have d1:w7.cell? ⟨gn,1,none⟩=some (vi vk cy):=N7.out.cell 1;have l8:=S7.out.L.lt;go_wp2;go_roundg (4-(k+1))
      case measure=>omega
      case rel=>exact⟨k+1,u,v,cx,cy,om_,om_,by go_num,S8.out⟩
     |false=>
      go_wp2;go_roundg (4-(k+1))
      case measure=>omega
      case rel=>exact⟨k+1,u,v,u',v',om_,om_,by go_num,S7.out⟩
  · have K1:=hid (fun W=>KA.out u v W ST.out.n)
    have K2:=hid (fun W=>KA.out u' v' W ST.out.n');clear HCo KA KB;go_wp2_with fail;(with_reducible refine(K1.out _).mono ?_)
    rintro e w8 ⟨⟨lo,bo,rfl,hlo0,hlo1⟩,hb8⟩
    have S8:=hid (ST.out.below hb8);clear a0 a1 hb8 ST K1;have a0:w8.cell? ⟨g8,0,none⟩=some (vi vk u'):=S8.out.L.cell 0;have a1:w8.cell? ⟨g8,1,none⟩=some (vi vk v'):=S8.out.L.cell 1;go_wp2_with fail;(with_reducible refine(K2.out _).mono ?_)
    rintro e w9 ⟨⟨hi,b2,rfl,hhi0,hhi1⟩,hb9⟩
    have S9:=hid (S8.out.below hb9);clear a0 a1 hb9 S8 K2;have Z9:=S9.out.Z;have B9:=hid S9.out.B;have z0:w9.cell? ⟨w.heap.size+1+1,0,none⟩=some (vi vk 0):=Z9.cell 0;have z1:w9.cell? ⟨w.heap.size+1+1,1,none⟩=some (vi vk 0):=Z9.cell 1;have f0:=Z9.frozen 0;have f1:=Z9.frozen 1;have lz:=Z9.lt;clear Z9 S9;have n0:wrap64 (hi+21600000)=hi+21600000:=IntWalk.wrap64_in _ om_;have n1:wrap64 (hi+1)=hi+1:=IntWalk.wrap64_in _ om_;have n2:wrap64 (hi+21600000+1)=hi+21600000+1:=IntWalk.wrap64_in _ om_;by_cases hlt:hi<lo<;>cases b2
    · have hdd:decide (hi<lo)=true:=decide_eq_true hlt
      go_wp2;refine bodyPost_ret (v:=.tuple #[.agg #[vi vk lo,vi vk (hi+21600000+1)],vi vk 0]) (by simp[results,results123,go_sem,z0,z1]) rfl ⟨⟨_,_,rfl,hlo0,hlo1,om_,om_⟩,?_⟩;exact(B9.out.setCell so_ _).setCell so_ _
    · have hdd:decide (hi<lo)=true:=decide_eq_true hlt
      go_wp2;refine bodyPost_ret (v:=.tuple #[.agg #[vi vk lo,vi vk (hi+21600000)],vi vk 0]) (by simp[results,results123,go_sem,z0,z1]) rfl ⟨⟨_,_,rfl,hlo0,hlo1,om_,om_⟩,?_⟩;exact(B9.out.setCell so_ _).setCell so_ _
    · have hdd:decide (hi<lo)=false:=decide_eq_false hlt
      go_wp2;refine bodyPost_ret (v:=.tuple #[.agg #[vi vk lo,vi vk (hi+1)],vi vk 0]) (by simp[results,results123,go_sem,z0,z1]) rfl ⟨⟨_,_,rfl,hlo0,hlo1,om_,om_⟩,?_⟩;exact(B9.out.setCell so_ _).setCell so_ _
    · have hdd:decide (hi<lo)=false:=decide_eq_false hlt
      go_wp2;refine bodyPost_ret (v:=.tuple #[.agg #[vi vk lo,vi vk (hi)],vi vk 0]) (by simp[results,results123,go_sem,z0,z1]) rfl ⟨⟨_,_,rfl,hlo0,hlo1,om_,om_⟩,?_⟩;exact(B9.out.setCell so_ _).setCell so_ _
end
end Go.Proofs.YtdeiofgddhbdaaaGreat
