/- Words for texts: the library's contracts at this seat, in plain words. -/
import Derived.WalkKit
import Derived.WalkSpells
import Derived.WalkLawsBesides
import Derived.Deep.QuietTactic
import Derived.BigQuiet
import Derived.Lib.Hide
import Derived.IntWalk
import Derived.Deep.AppendLies
import Derived.Maps.AppendAt
import Derived.RegionTactic
import Derived.OwnWalk
import Derived.Laws.OwnMore
import Derived.Deep.Draws
import Derived.Laws.BitsAllLaws
import Derived.Laws.BitsLemmas
import Derived.StillTailTactics
import Derived.Deep.LoopGhost
import Derived.Lib.AppendIntMem
import Derived.Lib.SmallJoins
import Derived.Test.YtdeiofgddhbdaaaGreatDoorHIa
set_option linter.unusedSimpArgs false
set_option linter.unusedVariables false
set_option maxHeartbeats 4000000
set_option maxRecDepth 100000
open Go.RowKit
open Go.Lib (hid)
open Go.Proofs.Tryz
open Go.Value renaming int→vi
open Go.IntKind renaming i64→vk
namespace Go.Proofs.YtdeiofgddhbdaaaGreatDoor
end Go.Proofs.YtdeiofgddhbdaaaGreatDoor
namespace Go.Proofs
open Go.Shelf
def Tryz.lays167_ren:Go.Shelf.Ren:=⟨fun|167=>76|240=>105|276=>143|n=>n,fun|0=>0|4=>4|5=>5|9=>9|20=>20|37=>115|70=>114|72=>117|75=>119|80=>124|164=>179|n=>n,fun|n=>n⟩
theorem Tryz.lays167:Go.Proofs.Lays.n167 Tryz.prog Tryz.lays167_ren:={
 mixed:=by kernel_rfl
 f167:=Tryz.func76.trans (congrArg some (by kernel_rfl))
 f240:=Tryz.func105.trans (congrArg some (by kernel_rfl))
 f276:=Tryz.func143.trans (congrArg some (by kernel_rfl))
 t0:=underlying0
 a0:=Tryz.isAgg0
 z0:=Tryz.sizeOf0
 v0:=Tryz.zeroValue0
 t4:=underlying4
 a4:=Tryz.isAgg4
 z4:=Tryz.sizeOf4
 v4:=Tryz.zeroValue4
 t5:=underlying5
 a5:=Tryz.isAgg5
 z5:=Tryz.sizeOf5
 v5:=Tryz.zeroValue5
 t9:=underlying9
 a9:=Tryz.isAgg9
 z9:=Tryz.sizeOf9
 v9:=Tryz.zeroValue9
 t20:=underlying20
 a20:=Tryz.isAgg20
 z20:=Tryz.sizeOf20
 v20:=Tryz.zeroValue20
 t37:=underlying115
 a37:=Tryz.isAgg115
 z37:=Tryz.sizeOf115
 v37:=Tryz.zeroValue115
 t70:=underlying114
 a70:=Tryz.isAgg114
 z70:=Tryz.sizeOf114
 v70:=Tryz.zeroValue114
 t72:=underlying117
 a72:=Tryz.isAgg117
 z72:=Tryz.sizeOf117
 v72:=Tryz.zeroValue117
 t75:=underlying119
 a75:=Tryz.isAgg119
 z75:=Tryz.sizeOf119
 v75:=Tryz.zeroValue119
 t164:=underlying179
 a164:=Tryz.isAgg179
 z164:=Tryz.sizeOf179
 v164:=Tryz.zeroValue179}
theorem Tryz.Builder_Extra_167:Builder.Extra Tryz.prog Tryz.lays167_ren where
 sizeBuilder:=by kernel_rfl
 liesBuilder:=by kernel_rfl
 t5:=underlying5
 a5:=Tryz.isAgg5
 z5:=Tryz.sizeOf5
 v5:=Tryz.zeroValue5
 infoByte:=by kernel_rfl
 cellsByte:=by kernel_rfl
 sizeByte:=by kernel_rfl
 neB5:=by decide
def Tryz.lays166_ren:Go.Shelf.Ren:=⟨fun|166=>77|240=>105|276=>143|n=>n,fun|0=>0|3=>3|4=>4|5=>5|9=>9|20=>20|37=>115|70=>114|72=>117|75=>119|80=>124|164=>179|n=>n,fun|n=>n⟩
theorem Tryz.lays166:Go.Proofs.Lays.n166 Tryz.prog Tryz.lays166_ren:={
 mixed:=by kernel_rfl
 f166:=Tryz.func77.trans (congrArg some (by kernel_rfl))
 f240:=Tryz.func105.trans (congrArg some (by kernel_rfl))
 f276:=Tryz.func143.trans (congrArg some (by kernel_rfl))
 t0:=underlying0
 a0:=Tryz.isAgg0
 z0:=Tryz.sizeOf0
 v0:=Tryz.zeroValue0
 t3:=underlying3
 a3:=Tryz.isAgg3
 z3:=Tryz.sizeOf3
 v3:=Tryz.zeroValue3
 t4:=underlying4
 a4:=Tryz.isAgg4
 z4:=Tryz.sizeOf4
 v4:=Tryz.zeroValue4
 t9:=underlying9
 a9:=Tryz.isAgg9
 z9:=Tryz.sizeOf9
 v9:=Tryz.zeroValue9
 t20:=underlying20
 a20:=Tryz.isAgg20
 z20:=Tryz.sizeOf20
 v20:=Tryz.zeroValue20
 t37:=underlying115
 a37:=Tryz.isAgg115
 z37:=Tryz.sizeOf115
 v37:=Tryz.zeroValue115
 t70:=underlying114
 a70:=Tryz.isAgg114
 z70:=Tryz.sizeOf114
 v70:=Tryz.zeroValue114
 t72:=underlying117
 a72:=Tryz.isAgg117
 z72:=Tryz.sizeOf117
 v72:=Tryz.zeroValue117
 t75:=underlying119
 a75:=Tryz.isAgg119
 z75:=Tryz.sizeOf119
 v75:=Tryz.zeroValue119
 t164:=underlying179
 a164:=Tryz.isAgg179
 z164:=Tryz.sizeOf179
 v164:=Tryz.zeroValue179}
theorem Tryz.Builder_Extra_166:Builder.Extra Tryz.prog Tryz.lays166_ren where
 sizeBuilder:=by kernel_rfl
 liesBuilder:=by kernel_rfl
 t5:=underlying5
 a5:=Tryz.isAgg5
 z5:=Tryz.sizeOf5
 v5:=Tryz.zeroValue5
 infoByte:=by kernel_rfl
 cellsByte:=by kernel_rfl
 sizeByte:=by kernel_rfl
 neB5:=by decide
end Go.Proofs
namespace Go.Proofs.YtdeiofgddhbdaaaGreatDoor
def pw(l:Int):Int:=2^l.toNat
theorem pw_bd{l:Int}(h1:l≤16):1≤pw l∧pw l≤65536:=by
 unfold pw;have h:l.toNat≤16:=by omega
 have h2:(2:Int)^l.toNat≤2^16:=by exact_mod_cast Nat.pow_le_pow_right (by omega:0<2) h
 have h3:0<(2:Int)^l.toNat:=Int.pow_pos om_;omega
theorem pw_wrap{l:Int}(h1:l≤16):IntKind.i64.wrap (2^l.toNat)=pw l:=by
 have:=pw_bd h1;exact IntWalk.i64_in _ (by unfold pw at this;omega)
theorem pw_wrap2{l:Int}(h1:l≤16):IntKind.i64.wrap (2*2^l.toNat)=2*pw l:=by
 have:=pw_bd h1;exact IntWalk.i64_in _ (by unfold pw at this;omega)
theorem bl_drewN{B:Nat}{a w:World}(h:Below B a w)(n:Nat):Below B a (w.drewN n):=⟨h.os,h.tape,h.output,h.size,h.block⟩
theorem bl_{n:Nat}{w w':World}(h:Below n w w':=by repeat (first|exact Below.refl _ _|assumption|refine bl_drew ?_|refine bl_drewN ?_ _|refine Below.setCell ?_ (by first|assumption|omega|(simp;done)|(simp;omega)) _|refine Below.alloc ?_ (by first|assumption|omega|(simp;done)|(simp;omega)) _)):Below n w w':=h
theorem bl_drew{B:Nat}{a w:World}(h:Below B a w):Below B a w.drew:=⟨h.os,h.tape,h.output,h.size,h.block⟩
theorem bl_alloc(w:World)(o:Obj):Below w.heap.size w (w.alloc o):=(Below.refl _ _).alloc (Nat.le_refl _) _
theorem wp_still_tail{P:Program}{id:Nat}{Q:Exit→Act→World→Prop}{a:Act}{w:World}{l:List Oper}(n:Nat)(hm:P.follows .mixedOrders=true)(hB:Region.lexTailB .any l.toArray n=true)
 (h:wpStill P l.toArray w.drew (fun a'=>wpList P l.toArray Q (l.drop n) a' w.drew) (l.take n) a):(Code.region id l.toArray true).wp P Q a w:=
 wp_region_still_tail n hm hB h
def vldB(l r c:Int):Bool:=decide (0≤l∧l≤16∧0≤r∧r<pw l∧0≤c∧c<2*pw l)
theorem vldB_true{l r c:Int}:vldB l r c=true↔(0≤l∧l≤16∧0≤r∧r<pw l∧0≤c∧c<2*pw l):=by simp[vldB]
theorem valid_any(l r c:Int)(w:World):
 Calls Tryz.prog 112 #[.agg #[vi vk l,vi vk r,vi vk c]] w fun e w'=>e=.returned (.bool (vldB l r c))∧Below w.heap.size w w':=by
 have fin: ∀b:Bool,vldB l r c=b→(Calls Tryz.prog 112 #[.agg #[vi vk l,vi vk r,vi vk c]] w fun e w'=>e=.returned (.bool b)∧Below w.heap.size w w')→
  Calls Tryz.prog 112 #[.agg #[vi vk l,vi vk r,vi vk c]] w fun e w'=>e=.returned (.bool (vldB l r c))∧Below w.heap.size w w':=fun b h hc=>by rw[h];exact hc
 by_cases h0:0≤l
 · by_cases h1:l≤16
   · have e1:=pw_wrap h1
     have e2:=pw_wrap2 h1;by_cases h2:0≤r
     · by_cases h3:r<pw l
       · by_cases h4:0≤c
         · by_cases h5:c<2*pw l
           · refine fin true (by simp[vldB,h0,h1,h2,h3,h4,h5]) ?_
             clear fin;go_enter func112,ntmps112;go_wp2;go_quiet (fail);go_wp2;go_ret;exact⟨rfl,bl_drewN (bl_alloc _ _) _⟩
           · refine fin false (by simp[vldB,h0,h1,h2,h3,h4,h5]) ?_
             clear fin;have hd:=decide_eq_false h5;go_enter func112,ntmps112;go_wp2;go_quiet (fail);go_wp2;go_ret;exact⟨rfl,bl_drewN (bl_alloc _ _) _⟩
         · refine fin false (by simp[vldB,h0,h1,h2,h3,h4]) ?_
           clear fin;have hd:=decide_eq_false h4;go_enter func112,ntmps112;go_wp2;go_quiet (fail);go_wp2;go_ret;exact⟨rfl,bl_drewN (bl_alloc _ _) _⟩
       · refine fin false (by simp[vldB,h0,h1,h2,h3]) ?_
         clear fin;have hd:=decide_eq_false h3;go_enter func112,ntmps112;go_wp2;go_quiet (fail);go_wp2;go_ret;exact⟨rfl,bl_drewN (bl_alloc _ _) _⟩
     · refine fin false (by simp[vldB,h0,h1,h2]) ?_
       clear fin;have hd:=decide_eq_false h2;go_enter func112,ntmps112;go_wp2;go_quiet (fail);go_wp2;go_ret;exact⟨rfl,bl_drewN (bl_alloc _ _) _⟩
   · refine fin false (by simp[vldB,h0,h1]) ?_
     clear fin;have hd:=decide_eq_false h1;go_enter func112,ntmps112;go_wp2;go_quiet (fail);go_wp2;go_ret;exact⟨rfl,bl_drewN (bl_alloc _ _) _⟩
 · refine fin false (by simp[vldB,h0]) ?_
   clear fin;have hd:=decide_eq_false h0;go_enter func112,ntmps112;go_wp2;go_quiet (fail);go_wp2;go_ret;exact⟨rfl,bl_drewN (bl_alloc _ _) _⟩
theorem ret_int{k:IntKind}{a b:Int}(h:a=b):Ending.returned (.int k a)=.returned (.int k b):=by rw[h]
def edg(i l:Int):Int:=i*10800000/pw l
theorem edg_bd{i l:Int}(h1:l≤16)(h2:0≤i)(h3:i≤2*pw l):0≤edg i l∧edg i l≤21600000:=by
 have hp:=pw_bd h1;unfold edg;refine⟨Int.ediv_nonneg om_ om_,?_⟩;have:i*10800000/pw l≤(21600000*pw l)/pw l:=Int.ediv_le_ediv om_ om_;rwa [Int.mul_ediv_cancel _ om_] at this
theorem edge_any(i l:Int)(w:World)(h0:0≤l)(h1:l≤16)(h2:0≤i)(h3:i≤131072):
 Calls Tryz.prog 152 #[vi vk i,vi vk l] w fun e w'=>e=.returned (vi vk (edg i l))∧w'=w:=by
 go_enter func152,ntmps152;go_wp2;go_ret;exact⟨rfl,rfl⟩
theorem bound_any(i l:Int)(w:World)(h0:0≤l)(h1:l≤16)(h2:0≤i)(h3:i≤131072):
 Calls Tryz.prog 92 #[vi vk i,vi vk l] w fun e w'=>e=.returned (vi vk (edg i l))∧w'=w:=by
 go_enter func92,ntmps92;go_wp2;go_ret;exact⟨rfl,rfl⟩
def boxV(l r c:Int):Value:=.agg #[vi vk (edg r l-5400000),vi vk (edg (r+1) l-5400000),vi vk (edg c l-10800000),vi vk (edg (c+1) l-10800000)]
theorem box_any(l r c:Int)(w:World)(hv:vldB l r c=true):
 Calls Tryz.prog 113 #[.agg #[vi vk l,vi vk r,vi vk c]] w fun e w'=>e=.returned (boxV l r c)∧Below w.heap.size w w':=by
 obtain⟨h0,h1,h2,h3,h4,h5⟩:=vldB_true.1 hv;clear hv;have hp:=pw_bd h1;have b1:=edg_bd (i:=r) h1 om_ om_;have b2:=edg_bd (i:=r+1) h1 om_ om_;have b3:=edg_bd (i:=c) h1 om_ om_;have b4:=edg_bd (i:=c+1) h1 om_ om_;have r1:r≤131072:=by omega
 have r2:0≤r+1:=by omega
 have r3:r+1≤131072:=by omega
 have c1:c≤131072:=by omega
 have c2:0≤c+1:=by omega
 have c3:c+1≤131072:=by omega
 have s1:IntKind.i64.wrap (r+1)=r+1:=IntWalk.i64_in _ om_;have s2:IntKind.i64.wrap (c+1)=c+1:=IntWalk.i64_in _ (by clear s1;omega);have s3:IntKind.i64.wrap (edg r l-5400000)=edg r l-5400000:=IntWalk.i64_in _ (by clear s1 s2;omega);have s4:IntKind.i64.wrap (edg (r+1) l-5400000)=edg (r+1) l-5400000:=IntWalk.i64_in _ (by clear s1 s2 s3;omega);have s5:IntKind.i64.wrap (edg c l-10800000)=edg c l-10800000:=IntWalk.i64_in _ (by clear s1 s2 s3 s4;omega);have s6:IntKind.i64.wrap (edg (c+1) l-10800000)=edg (c+1) l-10800000:=IntWalk.i64_in _ (by clear s1 s2 s3 s4 s5;omega);clear b1 b2 b3 b4 hp h3 h5;go_enter func113,ntmps113;go_wp2;refine wp_still_tail 29 (by kernel_rfl) (by kernel_rfl) ?_;simp only[List.take_succ_cons,List.take_zero,List.drop_succ_cons,List.drop_zero];repeat (first|still_step|still_call (edge_any _ _ _ h0 h1 (by assumption) (by assumption)))
 refine wpStill_nil ?_;go_wp2;refine bodyPost_ret (v:=boxV l r c) (by simp[results,results113,go_sem,boxV]) rfl ⟨rfl,?_⟩;repeat (first|exact Below.refl _ _|refine bl_drew ?_|refine bl_drewN ?_ _|refine Below.setCell ?_ (by simp<;>omega) _|refine Below.alloc ?_ (by simp<;>omega) _)
theorem refBox_any(l r c:Int)(w:World)(hv:vldB l r c=true):
 Calls Tryz.prog 61 #[.agg #[vi vk l,vi vk r,vi vk c]] w fun e w'=>e=.returned (boxV l r c)∧Below w.heap.size w w':=by
 obtain⟨h0,h1,h2,h3,h4,h5⟩:=vldB_true.1 hv;clear hv;have hp:=pw_bd h1;have b1:=edg_bd (i:=r) h1 om_ om_;have b2:=edg_bd (i:=r+1) h1 om_ om_;have b3:=edg_bd (i:=c) h1 om_ om_;have b4:=edg_bd (i:=c+1) h1 om_ om_;have r1:r≤131072:=by omega
 have r2:0≤r+1:=by omega
 have r3:r+1≤131072:=by omega
 have c1:c≤131072:=by omega
 have c2:0≤c+1:=by omega
 have c3:c+1≤131072:=by omega
 have s1:IntKind.i64.wrap (r+1)=r+1:=IntWalk.i64_in _ om_;have s2:IntKind.i64.wrap (c+1)=c+1:=IntWalk.i64_in _ (by clear s1;omega);have s3:IntKind.i64.wrap (edg r l-5400000)=edg r l-5400000:=IntWalk.i64_in _ (by clear s1 s2;omega);have s4:IntKind.i64.wrap (edg (r+1) l-5400000)=edg (r+1) l-5400000:=IntWalk.i64_in _ (by clear s1 s2 s3;omega);have s5:IntKind.i64.wrap (edg c l-10800000)=edg c l-10800000:=IntWalk.i64_in _ (by clear s1 s2 s3 s4;omega);have s6:IntKind.i64.wrap (edg (c+1) l-10800000)=edg (c+1) l-10800000:=IntWalk.i64_in _ (by clear s1 s2 s3 s4 s5;omega);clear b1 b2 b3 b4 hp h3 h5;go_enter func61,ntmps61;go_wp2;refine wp_still_tail 29 (by kernel_rfl) (by kernel_rfl) ?_;simp only[List.take_succ_cons,List.take_zero,List.drop_succ_cons,List.drop_zero];repeat (first|still_step|still_call (bound_any _ _ _ h0 h1 (by assumption) (by assumption)))
 refine wpStill_nil ?_;go_wp2;refine bodyPost_ret (v:=boxV l r c) (by simp[results,results61,go_sem,boxV]) rfl ⟨rfl,?_⟩;repeat (first|exact Below.refl _ _|refine bl_drew ?_|refine bl_drewN ?_ _|refine Below.setCell ?_ (by simp<;>omega) _|refine Below.alloc ?_ (by simp<;>omega) _)
theorem bcell{W w1:World}(hb:Below W.heap.size W w1):(∀b o,b<W.heap.size→w1.cell? ⟨b,o,none⟩=W.cell? ⟨b,o,none⟩)∧(∀b o,b<W.heap.size→w1.frozen? ⟨b,o,none⟩=W.frozen? ⟨b,o,none⟩):=
 ⟨fun b o h=>hb.cell (p:=⟨b,o,none⟩) h,fun b o h=>hb.frozen (p:=⟨b,o,none⟩) h⟩
theorem valid_yes(l r c:Int)(hv:vldB l r c=true)(w:World):Calls Tryz.prog 112 #[.agg #[vi vk l,vi vk r,vi vk c]] w fun e w'=>e=.returned (.bool true)∧Below w.heap.size w w':=by
 rw[←hv];exact valid_any l r c w
theorem valid_no(l r c:Int)(hv:vldB l r c=false)(w:World):Calls Tryz.prog 112 #[.agg #[vi vk l,vi vk r,vi vk c]] w fun e w'=>e=.returned (.bool false)∧Below w.heap.size w w':=by
 rw[←hv];exact valid_any l r c w
theorem two_lt{w w1:World}{o1 o2:Obj}(hb:Below ((w.alloc o1).alloc o2).heap.size ((w.alloc o1).alloc o2) w1):w.heap.size<w1.heap.size∧w.heap.size+1<w1.heap.size:=by
 have:=hb.size;simp at this;omega
theorem two_bl{w w1:World}{o1 o2:Obj}(hb:Below ((w.alloc o1).alloc o2).heap.size ((w.alloc o1).alloc o2) w1):Below w.heap.size w w1:=
 (((Below.refl _ _).alloc (Nat.le_refl _) _).alloc (by simp) _).trans (hb.mono (by simp;omega))
theorem one_lt{w w1:World}{o1:Obj}(hb:Below (w.alloc o1).heap.size (w.alloc o1) w1):w.heap.size<w1.heap.size:=by
 have:=hb.size;simp at this;omega
theorem one_bl{w w1:World}{o1:Obj}(hb:Below (w.alloc o1).heap.size (w.alloc o1) w1):Below w.heap.size w w1:=
 ((Below.refl _ _).alloc (Nat.le_refl _) _).trans (hb.mono (by simp))
theorem Box_no(l r c:Int)(w:World)(hv:vldB l r c=false):
 Calls Tryz.prog 83 #[.agg #[vi vk l,vi vk r,vi vk c]] w fun e w'=>e=.returned (.tuple #[.agg #[vi vk 0,vi vk 0,vi vk 0,vi vk 0],vi vk 1])∧Below w.heap.size w w':=by
 have V:=hid (valid_no l r c hv);clear hv;go_enter func83,ntmps83;go_wp2_with (go_at_call 112;refine(V.out _).mono ?_;rintro e w1 ⟨rfl,hb⟩;obtain⟨hc,hf⟩:=bcell hb;obtain⟨hz0,hz1⟩:=two_lt hb);refine bodyPost_ret (v:=.tuple #[.agg #[vi vk 0,vi vk 0,vi vk 0,vi vk 0],vi vk 1]) (by simp[results,results83,go_sem,hc]) rfl ⟨rfl,?_⟩;have hb1:=two_bl hb;exact bl_
theorem Box_yes(l r c:Int)(w:World)(hv:vldB l r c=true):
 Calls Tryz.prog 83 #[.agg #[vi vk l,vi vk r,vi vk c]] w fun e w'=>e=.returned (.tuple #[boxV l r c,vi vk 0])∧Below w.heap.size w w':=by
 have V:=hid (valid_yes l r c hv);have B:=hid (fun w=>box_any l r c w hv);clear hv;unfold boxV at B⊢;go_enter func83,ntmps83;go_wp2_with (first|(go_at_call 112;refine(V.out _).mono ?_;rintro e w1 ⟨rfl,hb⟩;obtain⟨hc,hf⟩:=bcell hb;obtain⟨hz0,hz1⟩:=two_lt hb)|(go_at_call 113;refine(B.out _).mono ?_;rintro e w2 ⟨rfl,hb2⟩;obtain⟨hc2,hf2⟩:=bcell hb2));refine bodyPost_ret (v:=.tuple #[.agg #[vi vk (edg r l-5400000),vi vk (edg (r+1) l-5400000),vi vk (edg c l-10800000),vi vk (edg (c+1) l-10800000)],vi vk 0]) (by simp[results,results83,go_sem,hc,hc2,hz1]) rfl ⟨rfl,?_⟩;have hb1:=(two_bl hb).trans (hb2.mono om_);exact bl_
section
theorem block_of_add(a:Addr)(n:Nat):(a.add n).block=a.block:=by unfold Addr.add;split<;>rfl
def Reads(w:World)(B size:Nat)(A:Option Addr)(n:Nat)(xs:List Value):Prop:=
 xs.length=n*size∧(0<n→ ∃ad,A=some ad∧ad.block<B∧ ∀j u,xs[j]? =some u→w.cell? (ad.add j)=some u)
section
variable {w w':World} {B B' size n:Nat} {A:Option Addr} {xs:List Value}
theorem Reads.none_:Reads w B size A 0 []:=⟨by simp,fun h=>absurd h om_⟩
theorem Reads.keep(h:Reads w B size A n xs)(hk: ∀p:Addr,p.block<B→w'.cell? p=w.cell? p):Reads w' B size A n xs:=
 ⟨h.1,fun hn=>by
   obtain⟨ad,e,hb,hc⟩:=h.2 hn;exact⟨ad,e,hb,fun j u hu=>(hk _ (by rw[block_of_add];exact hb)).trans (hc j u hu)⟩⟩
theorem Reads.more(h:Reads w B size A n xs)(hB:B≤B'):Reads w B' size A n xs:=
 ⟨h.1,fun hn=>by
   obtain⟨ad,e,hb,hc⟩:=h.2 hn;exact⟨ad,e,om_,hc⟩⟩
theorem Reads.below(h:Reads w B size A n xs)(hb:Below B w w'):Reads w' B size A n xs:=h.keep fun _ hp=>hb.cell hp
theorem Reads.drew(h:Reads w B size A n xs):Reads w.drew B size A n xs:=h
theorem Reads.of_own{base:Nat}{e:TypeId}{c:Nat}(h:w.ownsRow base e size (.slice A n c) n xs):Reads w w.heap.size size A n xs:=by
 refine⟨h.1,fun hn=>?_⟩;obtain⟨g,cap,hv,_,hlt⟩:=h.form hn;have hA:A=some ⟨g,0,none⟩:=by injection hv
 subst hA;exact⟨_,rfl,hlt,h.cells (g:=g) rfl⟩
end
section
variable {P:Program} (w:World)
theorem run_append_of_nil(base:Nat)(t ty e:TypeId)(i:TypeInfo)(size:Nat)(ht:P.underlying t=some (.slice e))(hi:P.info? e=some i)
 (v:Value) (n:Nat) (xs:List Value) (hown:w.ownsRow base e size v n xs) (c:Nat):(Builtin.append_ #[t,t] ty #[v,.slice none 0 c]).run P w=.ok v w:=by
 rcases hown.2 with ⟨rfl,rfl⟩|⟨g,cap,cur,rfl,_,_,hnc,_⟩
 · simp[Builtin.append_,run_underlying ht,sizeOf,typeInfo,hi,Builtin.lenOf,Builtin.firstCells]
 · simp[Builtin.append_,run_underlying ht,sizeOf,typeInfo,hi,Builtin.lenOf,Builtin.firstCells,hnc,storeCells]
theorem run_append_any(base:Nat)(t ty e:TypeId)(i:TypeInfo)(z:Value)(size bytes:Nat)(ht:P.underlying t=some (.slice e))(hi:P.info? e=some i)(hz:i.zero=some z)
 (hsize:i.size=size) (hby:i.bytes=bytes) (hzs:z.cells.size=size) (hsz:0<size)
 (v:Value) (n:Nat) (xs:List Value) (hown:w.ownsRow base e size v n xs)
 (B:Nat) (A:Option Addr) (m c:Nat) (news:List Value) (hr:Reads w B size A m news) (h1: ∀u∈news,u.oneCell'=true)
 (h63:n+m≤maxLen) (hbytes:(n+m)*bytes≤140737488355328) (hbase:base≤w.heap.size):
 ∃v' w',(Builtin.append_ #[t,t] ty #[v,.slice A m c]).run P w=.ok v' w'∧w'.ownsRow base e size v' (n+m) (xs++news)∧w.grownBy w' v.ownBlock∧
  (v'.ownBlock=v.ownBlock∨v'.ownBlock=some w.heap.size):=by
 rcases A with _|ad
 · have hm:m=0:=by
    rcases Nat.eq_zero_or_pos m with h0|h0
    · exact h0
    · obtain⟨ad,h,_⟩:=hr.2 h0
      cases h
   subst hm;have hn:news=[]:=List.eq_nil_of_length_eq_zero (by simpa using hr.1);subst hn;exact⟨v,w,run_append_of_nil w base t ty e i size ht hi v n xs hown c,by simpa using hown,World.grownBy.refl w _,.inl rfl⟩
 · have hcells: ∀j u,news[j]? =some u→w.cell? (ad.add j)=some u:=by
    intro j u hu;rcases Nat.eq_zero_or_pos m with h0|h0
    · subst h0
      have hn:news=[]:=List.eq_nil_of_length_eq_zero (by simpa using hr.1);subst hn;simp at hu
    · obtain⟨ad',h,_,hc⟩:=hr.2 h0
      injection h with h
      subst h;exact hc j u hu
   obtain⟨v',w',hrun,h2,h3,_,h5⟩:=run_append_own_at (P:=P) w base t ty e i z size bytes ht hi hz hsize hby hzs hsz v n xs hown ad m c news hr.1 hcells h1 h63 hbytes hbase;exact⟨v',w',hrun,h2,h3,h5⟩
theorem wp_append_any{o:Oper}{a:Act}{K:Act→World→Prop}{Q:Exit→Act→World→Prop}(s x:Operand)(t:TypeId)
 (ho:o.op=.call {callee:=.builtin .append,args:=#[s,x],argTypes:=#[t,t]})
 (base:Nat) (e:TypeId) (i:TypeInfo) (z:Value) (size bytes:Nat) (ht:P.underlying t=some (.slice e)) (hi:P.info? e=some i) (hz:i.zero=some z)
 (hsize:i.size=size) (hby:i.bytes=bytes) (hzs:z.cells.size=size) (hsz:0<size)
 (v:Value) (n:Nat) (xs:List Value) (hs:a.eval s=v) (hown:w.ownsRow base e size v n xs)
 (B:Nat) (A:Option Addr) (m c:Nat) (news:List Value) (hx:a.eval x=.slice A m c) (hr:Reads w B size A m news) (h1: ∀u∈news,u.oneCell'=true)
 (h63:n+m≤maxLen) (hbytes:(n+m)*bytes≤140737488355328) (hbase:base≤w.heap.size)
 (h: ∀v' w',w'.ownsRow base e size v' (n+m) (xs++news)→w.grownBy w' v.ownBlock→(v'.ownBlock=v.ownBlock∨v'.ownBlock=some w.heap.size)→K (a.put o.dst v') w'):o.wp P a w K Q:=by
 obtain⟨v',w',hrun,h2,h3,h4⟩:=run_append_any (P:=P) w base t o.type e i z size bytes ht hi hz hsize hby hzs hsz v n xs hown B A m c news hr h1 h63 hbytes hbase;unfold Oper.wp execOp;simp only[ho,resolve,invoke,builtin,Sem.run_bind,Sem.run_pure,Result.andThen_ok,List.map_toArray,List.map_cons,List.map_nil,hs,hx,hrun];exact h v' w' h2 h3 h4
theorem wpList_append_any{ops:Array Oper}{rest:List Oper}{o:Oper}{a:Act}{Q:Exit→Act→World→Prop}(hgd:o.guard=none)(s x:Operand)(t:TypeId)
 (ho:o.op=.call {callee:=.builtin .append,args:=#[s,x],argTypes:=#[t,t]})
 (base:Nat) (e:TypeId) (i:TypeInfo) (z:Value) (size bytes:Nat) (ht:P.underlying t=some (.slice e)) (hi:P.info? e=some i) (hz:i.zero=some z)
 (hsize:i.size=size) (hby:i.bytes=bytes) (hzs:z.cells.size=size) (hsz:0<size)
 (v:Value) (n:Nat) (xs:List Value) (hs:a.eval s=v) (hown:w.ownsRow base e size v n xs)
 (B:Nat) (A:Option Addr) (m c:Nat) (news:List Value) (hx:a.eval x=.slice A m c) (hr:Reads w B size A m news) (h1: ∀u∈news,u.oneCell'=true)
 (h63:n+m≤maxLen) (hbytes:(n+m)*bytes≤140737488355328) (hbase:base≤w.heap.size)
 (h: ∀v' w',w'.ownsRow base e size v' (n+m) (xs++news)→w.grownBy w' v.ownBlock→(v'.ownBlock=v.ownBlock∨v'.ownBlock=some w.heap.size)→wpList P ops Q rest (a.put o.dst v') w'):wpList P ops Q (o::rest) a w:=
 wpList_plain hgd fun _ hK=>wp_append_any w s x t ho base e i z size bytes ht hi hz hsize hby hzs hsz v n xs hs hown B A m c news hx hr h1 h63 hbytes hbase fun v' w' h2 h3 h4=>hK _ _ (h v' w' h2 h3 h4)
end
theorem own_base{w:World}{base:Nat}{e:TypeId}{size n:Nat}{v:Value}{xs:List Value}(h:w.ownsRow base e size v n xs)(k:Nat)(hk:v.ownBlock=some k):base≤k:=by
 rcases h.2 with ⟨rfl,_⟩|⟨g,cap,cur,rfl,hg,_⟩
 · simp[Value.ownBlock] at hk
 · simp[Value.ownBlock] at hk;omega
theorem own_mono{w:World}{base base':Nat}{e:TypeId}{size n:Nat}{v:Value}{xs:List Value}(h:w.ownsRow base e size v n xs)(hb:base'≤base):w.ownsRow base' e size v n xs:=by
 refine⟨h.1,?_⟩;rcases h.2 with h|⟨g,cap,cur,hv,hg,hr⟩
 · exact .inl h
 · exact .inr ⟨g,cap,cur,hv,om_,hr⟩
theorem own_nil(w:World)(base:Nat)(e:TypeId)(size:Nat):w.ownsRow base e size (.slice none 0 0) 0 []:=⟨by simp,.inl ⟨rfl,rfl⟩⟩
theorem own_form{w:World}{base:Nat}{e:TypeId}{size n:Nat}{v:Value}{xs:List Value}(h:w.ownsRow base e size v n xs): ∃A c,v=.slice A n c∧Reads w w.heap.size size A n xs∧n≤c∧c≤maxLen:=by
 rcases h.2 with ⟨rfl,rfl⟩|⟨g,cap,cur,rfl,hg,h1,h2,h3,_⟩
 · exact⟨_,_,rfl,Reads.of_own h,om_,by simp[maxLen]⟩
 · exact⟨_,_,rfl,Reads.of_own h,h2,h3⟩
theorem own_new(w:World)(base:Nat)(e:TypeId)(size n g:Nat)(cur:Array Value)(hg:g=w.heap.size)(hb:base≤w.heap.size)(hs:cur.size=n*size)(hn:n≤maxLen):
 (w.alloc (.cells cur e)).ownsRow base e size (.slice (some ⟨g,0,none⟩) n n) n cur.toList:=by
 subst hg;refine⟨by simpa using hs,.inr ⟨_,n,cur,rfl,hb,heap_alloc_new w _,Nat.le_refl _,hn,hs,?_⟩⟩;rw[←hs];exact List.take_of_length_le (by simp)
theorem set_new(W:World)(cs:Array Value)(t:TypeId)(q i g:Nat)(v:Value)(hg:g=W.heap.size):((W.alloc (.cells cs t)).drewN q).setCell ⟨g,i,none⟩ v=(W.alloc (.cells (cs.setIfInBounds i v) t)).drewN q:=by
 show((W.alloc (.cells cs t)).setCell ⟨g,i,none⟩ v).drewN q=_
 rw[World.setCell_alloc_at _ _ _ _ _ hg]
def Blk(w:World)(g:Nat)(t:TypeId)(cs:Array Value):Prop:=w.heap[g]? =some (.cells cs t (0,0))
section
variable {w w':World} {g:Nat} {t:TypeId} {cs:Array Value}
theorem Blk.lt(h:Blk w g t cs):g<w.heap.size:=by
 rcases Nat.lt_or_ge g w.heap.size with hlt|hge
 · exact hlt
 · unfold Blk at h;rw[Array.getElem?_eq_none hge] at h;cases h
theorem Blk.cell(h:Blk w g t cs)(i:Nat):w.cell? ⟨g,i,none⟩=cs[i]? :=by
 unfold Blk at h;simp[World.cell?,h]
theorem Blk.frozen(h:Blk w g t cs)(i:Nat):w.frozen? ⟨g,i,none⟩=false:=by
 unfold Blk at h;simp[World.frozen?,h]
theorem Blk.new(w:World)(t:TypeId)(cs:Array Value):Blk (w.alloc (.cells cs t)) w.heap.size t cs:=heap_alloc_new w _
theorem Blk.drew(h:Blk w g t cs):Blk w.drew g t cs:=h
theorem Blk.alloc(h:Blk w g t cs)(o:Obj):Blk (w.alloc o) g t cs:=(Below.heap_alloc w o g h.lt).trans h
theorem Blk.set_(h:Blk w g t cs)(i:Nat)(u:Value):Blk (w.setCell ⟨g,i,none⟩ u) g t (cs.setIfInBounds i u):=by
 unfold Blk at h⊢;simp[World.setCell,Array.getElem?_modify,h]
theorem Blk.far(h:Blk w g t cs){p:Addr}(hp:g≠p.block)(u:Value):Blk (w.setCell p u) g t cs:=(Below.heap_setCell w p u g hp).trans h
theorem Blk.below{B:Nat}(h:Blk w g t cs)(hb:Below B w w')(hg:g<B):Blk w' g t cs:=(hb.block g hg).trans h
theorem Blk.grown{row:Option Nat}(h:Blk w g t cs)(hb:w.grownBy w' row)(hg:some g≠row):Blk w' g t cs:=(hb.block g h.lt hg).trans h
theorem Blk.ne_{g':Nat}{t':TypeId}{cs':Array Value}(h:Blk w g t cs)(h':Blk w g' t' cs')(hne:t≠t'):g≠g':=by
 rintro rfl
 unfold Blk at h h';rw[h] at h';injection h' with h'
 injection h' with _ ht
 exact hne ht
theorem own_blk_ne{base:Nat}{e:TypeId}{size n:Nat}{v:Value}{xs:List Value}(h:w.ownsRow base e size v n xs)(hg:Blk w g t cs)(hne:e≠t):v.ownBlock≠some g:=by
 rcases h.2 with ⟨rfl,_⟩|⟨g',cap,cur,rfl,_,hh,_⟩
 · simp[Value.ownBlock]
 · intro he
   have:g'=g:=by simpa [Value.ownBlock] using he
   subst this;exact Blk.ne_ (t:=e) hh hg hne rfl
end
abbrev Cl:=Int×Int×Int
def cv(x:Cl):List Value:=[vi vk x.1,vi vk x.2.1,vi vk x.2.2]
def cvs(L:List Cl):List Value:=L.flatMap cv
theorem cvs_length(L:List Cl):(cvs L).length=L.length*3:=by
 induction L with
 |nil=>rfl
 |cons x r ih=>simp[cvs,cv] at ih⊢;omega
theorem cvs_append(L M:List Cl):cvs (L++M)=cvs L++cvs M:=by simp[cvs]
theorem Tryz.infoCell:(Tryz.prog.info? 58).map (fun i=>(i.zero,i.size,i.bytes))=some (some (.agg #[vi vk 0,vi vk 0,vi vk 0]),3,24):=by kernel_rfl
def RetCells1(w:World)(L:List Cl)(e:Ending)(w':World):Prop:=
 ∃v,e=.returned v∧w'.ownsRow w.heap.size 58 3 v L.length (cvs L)∧Below w.heap.size w w'
def kids(l r c:Int):List Cl:=[(l+1,2*r,2*c),(l+1,2*r,2*c+1),(l+1,2*r+1,2*c),(l+1,2*r+1,2*c+1)]
theorem reads_new(w:World)(a b c:Int)(t:TypeId):Reads (w.alloc (.cells #[vi vk a,vi vk b,vi vk c] t)) (w.heap.size+1) 3 (some ⟨w.heap.size,0,none⟩) 1 (cv (a,b,c)):=by
 refine⟨rfl,fun _=>⟨_,rfl,by simp,fun j u hu=>?_⟩⟩;match j,hu with
 |0,hu=>simp[cv] at hu;subst hu;simp[Addr.add]
 |1,hu=>simp[cv] at hu;subst hu;simp[Addr.add]
 |2,hu=>simp[cv] at hu;subst hu;simp[Addr.add]
 |j+3,hu=>simp[cv] at hu
theorem cv_one(x:Cl): ∀u∈cv x,u.oneCell'=true:=by
 intro u hu;simp[cv] at hu;rcases hu with rfl|rfl|rfl<;>rfl
theorem own_bl{w w':World}{base B:Nat}{e:TypeId}{size n:Nat}{v:Value}{xs:List Value}(h:w.ownsRow base e size v n xs)(hb:Below B w w')(hB:w.heap.size≤B):w'.ownsRow base e size v n xs:=by
 refine⟨h.1,?_⟩;rcases h.2 with h1|⟨g,cap,cur,hv,hg,hh,hr⟩
 · exact .inl h1
 · have hlt:g<w.heap.size:=by
    rcases Nat.lt_or_ge g w.heap.size with hlt|hge
    · exact hlt
    · rw[Array.getElem?_eq_none hge] at hh;cases hh
   exact .inr ⟨g,cap,cur,hv,hg,(hb.block g om_).trans hh,hr⟩
theorem own_set{w:World}{base g cap:Nat}{e:TypeId}{size n:Nat}{xs:List Value}(h:w.ownsRow base e size (.slice (some ⟨g,0,none⟩) n cap) n xs)(i:Nat)(u:Value)(hi:i<n*size):
 (w.setCell ⟨g,i,none⟩ u).ownsRow base e size (.slice (some ⟨g,0,none⟩) n cap) n (xs.set i u):=by
 refine⟨by simpa using h.1,?_⟩;rcases h.2 with ⟨h1,_⟩|⟨g',cap',cur,hv,hg,hh,hnc,hcm,hcs,htk⟩
 · cases h1
 · injection hv with e1 e2 e3
   injection e1 with e1
   injection e1 with e1
   subst e1 e3;refine .inr ⟨g,cap,cur.setIfInBounds i u,rfl,hg,?_,hnc,hcm,by simpa using hcs,?_⟩
   · simp[World.setCell,Array.getElem?_modify,hh]
   · rw[←htk]
     simp[List.take_set]
theorem own_cell{w:World}{base g cap:Nat}{e:TypeId}{size n:Nat}{xs:List Value}(h:w.ownsRow base e size (.slice (some ⟨g,0,none⟩) n cap) n xs)(i:Nat)(u:Value)(hu:xs[i]? =some u):
 w.cell? ⟨g,i,none⟩=some u∧w.frozen? ⟨g,i,none⟩=false:=by
 rcases h.2 with ⟨h1,_⟩|⟨g',cap',cur,hv,hg,hh,hnc,hcm,hcs,htk⟩
 · cases h1
 · injection hv with e1 e2 e3
   injection e1 with e1
   injection e1 with e1
   subst e1 e3;have hi:i<xs.length:=by
    rcases Nat.lt_or_ge i xs.length with hlt|hge
    · exact hlt
    · rw[List.getElem?_eq_none hge] at hu;cases hu
   rw[←htk] at hu;rw[h.1] at hi;rw[List.getElem?_take,if_pos hi,Array.getElem?_toList] at hu;exact⟨by simp[World.cell?,hh,hu],by simp[World.frozen?,hh]⟩
theorem ownsRow_far{w:World}{base g:Nat}{e t:TypeId}{size n:Nat}{v:Value}{xs:List Value}{cs:Array Value}{i:Nat}{u:Value}(h:w.ownsRow base e size v n xs)(hB:Blk w g t cs)(hne:e≠t):(w.setCell ⟨g,i,none⟩ u).ownsRow base e size v n xs:=by
 refine⟨h.1,?_⟩;have hn:=own_blk_ne h hB hne;rcases h.2 with h1|⟨g',cap,cur,rfl,hg,hh,hr⟩
 · exact .inl h1
 · refine .inr ⟨g',cap,cur,rfl,hg,(Below.heap_setCell w ⟨g,i,none⟩ u g' ?_).trans hh,hr⟩
   intro he;exact hn (by simp[Value.ownBlock,he])
end
section
open Go.Shelf Frm
abbrev tx(l:Bs):Value:=.string ⟨l.toArray⟩
def Tab(w:World):Prop:=Lib.TabIs Tryz.prog w "internal/strconv.uint64pow10" .u64 Lib.pow10Tab
theorem pow10_global:Tryz.prog.globalNamed "internal/strconv.uint64pow10"=some 1:=by kernel_rfl
theorem Tab.stays{B:Nat}{w w':World}(h:Tab w)(hb:Below B w w')(hB:w.heap.size≤B):Tab w':=Go.Joins.tab_stays pow10_global h hb hB
theorem itoa_any(n:Int)(w:World)(h0: -9223372036854775808≤n)(h1:n≤9223372036854775807)(ht:Tab w):
 Calls Tryz.prog 24 #[vi vk n] w fun e w'=>e=.returned (tx (Lib.itoa n))∧Below w.heap.size w w':=
 (Any.strconv_Itoa Tryz.lays171 n h0 h1 w ht).mono fun e w' ⟨he,k,os,hw⟩=>⟨he,by rw[hw];exact Lib.below_grow _ w (Nat.le_refl _) k os⟩
theorem repeat_any(s:ByteArray)(c:Nat)(w:World)(hc:c≤9223372036854775807)(hlen:s.size*c≤140737488355328):
 Calls Tryz.prog 106 #[.string s,vi vk c] w fun e w'=>e=.returned (tx (Lib.repeatL s.data.toList c))∧Below w.heap.size w w':=
 Any.strings_Repeat Tryz.lays105 Tryz.Builder_Extra_105 s c w hc hlen
theorem cutPrefix_any(s p:ByteArray)(w:World):
 Calls Tryz.prog 101 #[.string s,.string p] w fun e w'=>e=.returned (.tuple #[tx (Lib.trimPrefix s.data.toList p.data.toList),.bool (Lib.hasPrefix s.data.toList p.data.toList)])∧w'=w:=
 Any.strings_CutPrefix Tryz.lays103 s p w
theorem hasPrefix_any(s p:ByteArray)(w:World):
 Calls Tryz.prog 55 #[.string s,.string p] w fun e w'=>e=.returned (.bool (Lib.hasPrefix s.data.toList p.data.toList))∧w'=w:=
 Any.strings_HasPrefix Tryz.lays99 s p w
def Mx(w:World):Prop:= ∃m,w.cell? ⟨0,0,none⟩=some (vi vk m)
theorem cut_any(s sep:ByteArray)(w:World)(hs:s.size<4294967281)(hm:Mx w):
 Calls Tryz.prog 36 #[.string s,.string sep] w fun e w'=>e=.returned (.tuple #[tx (Lib.cut s.data.toList sep.data.toList).1,tx (Lib.cut s.data.toList sep.data.toList).2.1,.bool (Lib.cut s.data.toList sep.data.toList).2.2])∧Below w.heap.size w w':=by
 obtain⟨m,hm⟩:=hm;exact(Any.strings_Cut Tryz.lays145 s sep m w hs hm).mono fun e w' ⟨he,n,hw⟩=>⟨he,by rw[hw];exact⟨rfl,rfl,rfl,Nat.le_refl _,fun _ _=>rfl⟩⟩
abbrev IsB(B b:Nat)(l:Bs)(w:World):Prop:=Lib.IsBuilder 117 5 B b (Lib.byteCells l) w
theorem IsB.bl{B b:Nat}{l:Bs}{w w':World}(h:IsB B b l w)(hb:Below w.heap.size w w'):IsB B b l w':=by
 have go: ∀p,Lib.BuilderAt 117 5 B b p (Lib.byteCells l) w→Lib.BuilderAt 117 5 B b p (Lib.byteCells l) w':=fun p ⟨h0,v,h1,h2,h3⟩=>by
  refine⟨h0,v,?_,own_bl h2 hb (Nat.le_refl _),h3⟩;have hlt:b<w.heap.size:=by
   rcases Nat.lt_or_ge b w.heap.size with h|h
   · exact h
   · rw[Array.getElem?_eq_none h] at h1;cases h1
  exact(hb.block b hlt).trans h1
 exact h.imp (go _) (go _)
theorem writeByte_any(B b:Nat)(l:Bs)(c:UInt8)(w:World)(h:IsB B b l w)(hl:l.length≤1000000)(hBw:B≤w.heap.size):
 Calls Tryz.prog 76 #[.pointer (some ⟨b,0,none⟩),.int .u8 c.toNat] w fun e w'=>e=.returned .nilIface∧IsB B b (l++[c]) w'∧Below B w w':=
 (Any.Builder_WriteByte Tryz.lays167 Tryz.Builder_Extra_167 B b (Lib.byteCells l) c.toNat w h (by rw[Lib.byteCells_length];omega) hBw).mono fun e w' ⟨he,h1,h2⟩=>⟨he,.inr (by rw[show Lib.byteCells (l++[c])=Lib.byteCells l++[.int .u8 c.toNat] by simp[Lib.byteCells]];exact h1),h2⟩
theorem writeMinus_any(B b:Nat)(l:Bs)(w:World)(h:IsB B b l w)(hl:l.length≤1000000)(hBw:B≤w.heap.size):
 Calls Tryz.prog 76 #[.pointer (some ⟨b,0,none⟩),.int .u8 45] w fun e w'=>e=.returned .nilIface∧IsB B b (l++[45]) w'∧Below B w w':=writeByte_any B b l 45 w h hl hBw
theorem writeString_any(B b:Nat)(l m:Bs)(w:World)(h:IsB B b l w)(hl:l.length≤1000000)(hm:m.length≤1000000)(hBw:B≤w.heap.size):
 Calls Tryz.prog 77 #[.pointer (some ⟨b,0,none⟩),tx m] w fun e w'=>(∃k:Int,e=.returned (.tuple #[vi vk k,.nilIface]))∧IsB B b (l++m) w'∧Below B w w':=
 (Any.Builder_WriteString Tryz.lays166 Tryz.Builder_Extra_166 B b (Lib.byteCells l) ⟨m.toArray⟩ w h (by rw[Lib.byteCells_length,Lib.size_eq];simp;omega) hBw).mono fun e w' ⟨he,h1,h2⟩=>⟨⟨_,he⟩,.inr (by rw[Lib.byteCells_append,←Lib.strCells_toArray];exact h1),h2⟩
theorem bString_any(B b:Nat)(l:Bs)(w:World)(h:IsB B b l w)(hBw:B≤w.heap.size):
 Calls Tryz.prog 79 #[.pointer (some ⟨b,0,none⟩)] w fun e w'=>e=.returned (tx l)∧Below B w w':=
 Any.Builder_String_any Tryz.lays169 Tryz.Builder_Extra_169 B b l w h hBw
theorem rep48: ∀k,Lib.repeatL [48] k=List.replicate k 48
 |0=>rfl
 |k+1=>by rw[Lib.repeatL,rep48 k];rfl
end
end Go.Proofs.YtdeiofgddhbdaaaGreatDoor
