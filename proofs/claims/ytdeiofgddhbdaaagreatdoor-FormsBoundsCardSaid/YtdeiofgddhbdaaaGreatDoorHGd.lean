/- Lists of lists of cells: rows of slices that are the call's own. -/
import Derived.Test.YtdeiofgddhbdaaaGreatDoorHHk
import Derived.Test.YtdeiofgddhbdaaaGreatDoorHPq
set_option linter.unusedSimpArgs false
set_option linter.unusedVariables false
set_option maxHeartbeats 4000000
set_option maxRecDepth 100000
open Go.RowKit
open Go.Lib (hid)
open Go.Proofs.Tryz
open Go.Value renaming int→vi
open Go.IntKind renaming i64→vk
namespace Go.Proofs.YtdeiofgddhbdaaaGreatDoor
section
theorem isAll_iff(a:Sp):isAll a=true↔a.1= -10800000∧a.2=10800000:=by unfold isAll aeq;simp
def VL(a:Sp):Prop:=(a.1= -10800000∧a.2=10800000)∨(-10800000≤a.1∧a.1<10800000∧a.1≤a.2∧a.2-a.1<21600000)
def lonM(a b:Sp):Bool:=decide ((b.1-21600000≤a.2∧a.1≤b.2-21600000)∨(b.1≤a.2∧a.1≤b.2)∨(b.1+21600000≤a.2∧a.1≤b.2+21600000))
theorem lonM_comm(a b:Sp):lonM a b=lonM b a:=by
 unfold lonM;rw[decide_eq_decide];omega
theorem com_lonM(a b:Sp)(ha:VL a)(hb:VL b):(comL a b).length=0↔lonM a b=false:=by
 obtain⟨a0,a1⟩:=a;obtain⟨b0,b1⟩:=b;unfold VL at ha hb;simp only[] at ha hb;unfold comL lonM comP;simp only[decide_eq_false_iff_not];by_cases h1:a0= -10800000∧a1=10800000
 · rw[if_pos ((isAll_iff _).2 h1)]
   simp only[List.length_cons];omega
 · by_cases h2:b0= -10800000∧b1=10800000
   · rw[if_neg (fun e=>h1 ((isAll_iff _).1 e)),if_pos ((isAll_iff _).2 h2)]
     simp only[List.length_cons];omega
   · rw[if_neg (fun e=>h1 ((isAll_iff _).1 e)),if_neg (fun e=>h2 ((isAll_iff _).1 e))]
     have ha': -10800000≤a0∧a0<10800000∧a0≤a1∧a1-a0<21600000:=by omega
     have hb': -10800000≤b0∧b0<10800000∧b0≤b1∧b1-b0<21600000:=by omega
     obtain⟨f,hf⟩: ∃f,f=(b0-a0)%21600000:=⟨_,rfl⟩;rw[←hf,List.length_append];have hfc:f=b0-a0∨f=b0-a0+21600000:=by omega
     have hf0:0≤f∧f<21600000:=by omega
     clear hf h1 h2 ha hb;have key: ∀g:Int,(max 0 g≤min (a1-a0) (g+b1-b0))↔(0≤a1-a0∧0≤g+b1-b0∧g≤a1-a0∧g≤g+b1-b0):=fun g=>by omega
     have k1:=key f;have k2:=key (f-21600000);by_cases g1:max 0 f≤min (a1-a0) (f+b1-b0)<;>by_cases g2:max 0 (f-21600000)≤min (a1-a0) (f-21600000+b1-b0)
     all_goals
      simp only[g1,g2,if_true,if_false,List.length_cons,List.length_nil];first|have c1:=k1.1 g1|have c1:=mt k1.2 g1
      first|have c2:=k2.1 g2|have c2:=mt k2.2 g2
      clear k1 k2 key g1 g2;rcases hfc with hfc|hfc<;>subst hfc<;>(try rw[true_iff])<;>omega
theorem com_ok(a b:Sp)(ha:VL a)(hb:VL b):(comL a b).length≤2∧ ∀x∈comL a b,-10800000≤x.1∧x.1≤10800000∧x.1≤x.2∧x.2≤x.1+21600000:=by
 obtain⟨a0,a1⟩:=a;obtain⟨b0,b1⟩:=b;unfold VL at ha hb;simp only[] at ha hb;unfold comL;split
 · refine⟨by simp,fun x hx=>?_⟩
   obtain rfl:x=(b0,b1):=by simpa using hx
   simp only[];omega
 · split
   · refine⟨by simp,fun x hx=>?_⟩
     obtain rfl:x=(a0,a1):=by simpa using hx
     simp only[];omega
   · rename_i h1 h2
     rw[isAll_iff] at h1 h2;simp only[] at h1 h2;have hP: ∀f,(comP (a0,a1) (b0,b1) f).length≤1∧ ∀x∈comP (a0,a1) (b0,b1) f,-10800000≤x.1∧x.1≤10800000∧x.1≤x.2∧x.2≤x.1+21600000:=by
      intro f;unfold comP;split
      · rename_i hle
        refine⟨by simp,fun x hx=>?_⟩;have hs: -10800000≤sgA (a0+max 0 f)∧sgA (a0+max 0 f)<10800000:=by unfold sgA;omega
        simp only[List.mem_cons,List.not_mem_nil,or_false] at hx;subst hx;simp only[] at hle⊢;generalize sgA (a0+max 0 f)=s at*;omega
      · exact⟨by simp,fun x hx=>by simp at hx⟩
     have p1:=hP ((b0-a0)%21600000);have p2:=hP ((b0-a0)%21600000-21600000);refine⟨by simp only[List.length_append];omega,fun x hx=>?_⟩;rcases List.mem_append.1 hx with h|h
     · exact p1.2 x h
     · exact p2.2 x h
structure VP(a:Bx):Prop where
 l1:a.1≤a.2.1
 l2: -5400000≤a.1
 l3:a.2.1≤5400000
 o:VL (a.2.2.1,a.2.2.2)
def meetB(a b:Bx):Bool:=decide (a.1≤b.2.1∧b.1≤a.2.1)&&lonM (a.2.2.1,a.2.2.2) (b.2.2.1,b.2.2.2)
def tchB(a b:Bx):Bool:=decide (a.2.1=5400000∧b.2.1=5400000)||decide (a.1= -5400000∧b.1= -5400000)||meetB a b
theorem tchB_comm(a b:Bx):tchB a b=tchB b a:=by
 unfold tchB meetB;rw[lonM_comm];congr 1
 · congr 1
   · rw[decide_eq_decide];omega
   · rw[decide_eq_decide];omega
 · congr 1
   rw[decide_eq_decide];omega
structure K4(W:World)(g:Nat)(a b c d:Int):Prop where
 lt:g<W.heap.size
 c0:W.cell? ⟨g,0,none⟩=some (vi vk a)
 c1:W.cell? ⟨g,1,none⟩=some (vi vk b)
 c2:W.cell? ⟨g,2,none⟩=some (vi vk c)
 c3:W.cell? ⟨g,3,none⟩=some (vi vk d)
 f0:W.frozen? ⟨g,0,none⟩=false
 f1:W.frozen? ⟨g,1,none⟩=false
 f2:W.frozen? ⟨g,2,none⟩=false
 f3:W.frozen? ⟨g,3,none⟩=false
section
variable {W W':World} {g:Nat} {a b c d:Int}
theorem K4.below{B:Nat}(h:K4 W g a b c d)(hb:Below B W W')(hB:g<B):K4 W' g a b c d:=
 ⟨Nat.lt_of_lt_of_le h.lt hb.size,(hb.cell (p:=⟨g,0,none⟩) hB).trans h.c0,(hb.cell (p:=⟨g,1,none⟩) hB).trans h.c1,(hb.cell (p:=⟨g,2,none⟩) hB).trans h.c2,(hb.cell (p:=⟨g,3,none⟩) hB).trans h.c3,
  (hb.frozen (p:=⟨g,0,none⟩) hB).trans h.f0,(hb.frozen (p:=⟨g,1,none⟩) hB).trans h.f1,(hb.frozen (p:=⟨g,2,none⟩) hB).trans h.f2,(hb.frozen (p:=⟨g,3,none⟩) hB).trans h.f3⟩
theorem K4.alloc(h:K4 W g a b c d)(o:Obj):K4 (W.alloc o) g a b c d:=h.below (bl_alloc W o) h.lt
theorem K4.new(W:World)(a b c d:Int)(t:TypeId):K4 (W.alloc (.cells #[vi vk a,vi vk b,vi vk c,vi vk d] t)) W.heap.size a b c d:=⟨by simp,by simp,by simp,by simp,by simp,by simp,by simp,by simp,by simp⟩
end
theorem validLon_vl(x y:Int)(w:World)(h:VL (x,y)):Calls Tryz.prog 166 #[.agg #[vi vk x,vi vk y]] w fun e w'=>e=.returned (.bool true)∧Below w.heap.size w w':=by
 have h':(x= -10800000∧y=10800000)∨(-10800000≤x∧x<10800000∧x≤y∧y-x<21600000):=h;by_cases hc:x= -10800000∧y=10800000
 · obtain⟨rfl,rfl⟩:=hc
   have K:=hid (fun W=>all_any (-10800000) 10800000 W);rw[show aeq (-10800000) 10800000 (-10800000) 10800000=true by decide] at K;clear h h';go_enter func166,ntmps166;go_wp2_with (go_at_call 167;(with_reducible refine(K.out _).mono ?_);rintro e w1 ⟨rfl,hb⟩;have hz:=one_lt hb;have hb1:=one_bl hb);all_goals
    go_ret;exact⟨ret_bool (by first|rfl|(simp_all;done)|(simp_all;omega)),hb1⟩
 · have h2: -10800000≤x∧x<10800000∧x≤y∧y-x<21600000:=h'.resolve_left hc
   exact validLon_yes x y w h2.2.2.1 h2.1 h2.2.1 h2.2.2.2
theorem placeValid_vp(b0 b1 b2 b3:Int)(w:World)(hb:VP (b0,b1,b2,b3)):Calls Tryz.prog 123 #[.agg #[vi vk b0,vi vk b1,vi vk b2,vi vk b3]] w fun e w'=>e=.returned (.bool true)∧Below w.heap.size w w':=by
 have K1:=hid (fun W=>validLat_yes b0 b1 W hb.l1 hb.l2 hb.l3);have K2:=hid (fun W=>validLon_vl b2 b3 W hb.o);clear hb;go_enter func123,ntmps123;go_wp2_with (first|(go_at_call 165;(with_reducible refine(K1.out _).mono ?_);rintro e w1 ⟨rfl,hb⟩;have hz:=one_lt hb;have hb1:=one_bl hb;have y1:=(hb.cell (p:=⟨w.heap.size,2,none⟩) (by simp)).trans (show _=some (vi vk b2) by simp);have y2:=(hb.cell (p:=⟨w.heap.size,3,none⟩) (by simp)).trans (show _=some (vi vk b3) by simp))|(go_at_call 166;(with_reducible refine(K2.out _).mono ?_);rintro e w2 ⟨rfl,hb2⟩));go_ret;exact⟨rfl,hb1.trans (hb2.mono hb1.size)⟩
theorem Meet_any(a0 a1 a2 a3 b0 b1 b2 b3:Int)(w:World)(ha:VP (a0,a1,a2,a3))(hb:VP (b0,b1,b2,b3)):
 Calls Tryz.prog 89 #[.agg #[vi vk a0,vi vk a1,vi vk a2,vi vk a3],.agg #[vi vk b0,vi vk b1,vi vk b2,vi vk b3]] w fun e w'=> ∃r0 r1 r2 r3:Int,e=.returned (.tuple #[.agg #[vi vk r0,vi vk r1,vi vk r2,vi vk r3],vi vk (if meetB (a0,a1,a2,a3) (b0,b1,b2,b3)=true then 0 else 23)])∧Below w.heap.size w w':=by
 have KV1:=hid (fun W=>placeValid_vp a0 a1 a2 a3 W ha);have KV2:=hid (fun W=>placeValid_vp b0 b1 b2 b3 W hb);have oa:(a2= -10800000∧a3=10800000)∨(-10800000≤a2∧a2<10800000∧a2≤a3∧a3-a2<21600000):=ha.o;have ob:(b2= -10800000∧b3=10800000)∨(-10800000≤b2∧b2<10800000∧b2≤b3∧b3-b2<21600000):=hb.o;have KC':=fun W=>common_any a2 a3 b2 b3 W om_ om_;have hlen:=com_lonM (a2,a3) (b2,b3) ha.o hb.o;have hok:=com_ok (a2,a3) (b2,b3) ha.o hb.o;obtain⟨L,hL⟩: ∃L,L=comL (a2,a3) (b2,b3):=⟨_,rfl⟩;rw[←hL] at KC' hlen hok;have KC:=hid KC';have HOK:=hid hok;obtain⟨N,hN⟩: ∃N,N=L.length:=⟨_,rfl⟩;have HLN:=hid hN;obtain⟨R,hR⟩: ∃R:Int,R=if meetB (a0,a1,a2,a3) (b0,b1,b2,b3)=true then 0 else 23:=⟨_,rfl⟩
 rw[←hR];have hRR:Hid (R=if max a0 b0≤min a1 b1∧N≠0 then 0 else 23):=hid (by
  have l1:=ha.l1;have l2:=hb.l1;simp only[] at l1 l2;rw[hR,hN];unfold meetB;simp only[];cases hm:lonM (a2,a3) (b2,b3) with
  |false=>
   have:=hlen.2 hm;simp[this]
  |true=>
   have h0:L.length≠0:=fun e=>by rw[hlen.1 e] at hm;cases hm
   simp only[Bool.and_true,decide_eq_true_eq];by_cases g:a0≤b1∧b0≤a1
   · rw[if_pos g,if_pos ⟨om_,h0⟩]
   · rw[if_neg g,if_neg (fun e=>g om_)])
 clear hR hN hlen hok hL KC' oa ob ha hb;obtain⟨P1,hP1⟩: ∃P,max a0 b0=P:=⟨_,rfl⟩;obtain⟨P2,hP2⟩: ∃P,min a1 b1=P:=⟨_,rfl⟩;rw[hP1,hP2] at hRR;have HA:=hid (((K4.new w a0 a1 a2 a3 46).alloc (.cells #[vi vk b0,vi vk b1,vi vk b2,vi vk b3] 46)).alloc (.cells #[vi vk 0,vi vk 0,vi vk 0,vi vk 0] 46));have HB:Hid (K4 (((w.alloc (.cells #[vi vk a0,vi vk a1,vi vk a2,vi vk a3] 46)).alloc (.cells #[vi vk b0,vi vk b1,vi vk b2,vi vk b3] 46)).alloc (.cells #[vi vk 0,vi vk 0,vi vk 0,vi vk 0] 46)) (w.heap.size+1) b0 b1 b2 b3):=hid (by
  have:=(K4.new (w.alloc (.cells #[vi vk a0,vi vk a1,vi vk a2,vi vk a3] 46)) b0 b1 b2 b3 46).alloc (.cells #[vi vk 0,vi vk 0,vi vk 0,vi vk 0] 46);simpa using this)
 have HZ:Hid (K4 (((w.alloc (.cells #[vi vk a0,vi vk a1,vi vk a2,vi vk a3] 46)).alloc (.cells #[vi vk b0,vi vk b1,vi vk b2,vi vk b3] 46)).alloc (.cells #[vi vk 0,vi vk 0,vi vk 0,vi vk 0] 46)) (w.heap.size+1+1) 0 0 0 0):=hid (by
  have:=K4.new ((w.alloc (.cells #[vi vk a0,vi vk a1,vi vk a2,vi vk a3] 46)).alloc (.cells #[vi vk b0,vi vk b1,vi vk b2,vi vk b3] 46)) 0 0 0 0 46;simpa using this)
 have b0':Below w.heap.size w (((w.alloc (.cells #[vi vk a0,vi vk a1,vi vk a2,vi vk a3] 46)).alloc (.cells #[vi vk b0,vi vk b1,vi vk b2,vi vk b3] 46)).alloc (.cells #[vi vk 0,vi vk 0,vi vk 0,vi vk 0] 46)):=(((Below.refl _ _).alloc (Nat.le_refl _) _).alloc (by simp) _).alloc (by simp;omega) _;go_enter func89,ntmps89;go_wp2_with fail;(with_reducible refine(KV1.out _).mono ?_)
 rintro e w1 ⟨rfl,hb1⟩
 have HA1:=hid (HA.out.below hb1 HA.out.lt);have HB1:=hid (HB.out.below hb1 HB.out.lt);have HZ1:=hid (HZ.out.below hb1 HZ.out.lt);have B1:=hid (b0'.trans (hb1.mono b0'.size));clear HA HB HZ b0' hb1;obtain⟨lt1,c0,c1,c2,c3,-,-,-,-⟩:=HB1.out;go_wp2_with fail;(with_reducible refine(KV2.out _).mono ?_)
 rintro e w2 ⟨rfl,hb2⟩
 clear lt1 c0 c1 c2 c3;have HA2:=hid (HA1.out.below hb2 HA1.out.lt);have HB2:=hid (HB1.out.below hb2 HB1.out.lt);have HZ2:=hid (HZ1.out.below hb2 HZ1.out.lt);have B2:=hid (B1.out.trans (hb2.mono B1.out.size));clear HA1 HB1 HZ1 B1 hb2;obtain⟨at2,a0',a1',a2',a3',-,-,-,-⟩:=HA2.out;obtain⟨bt2,c0,c1,c2,c3,-,-,-,-⟩:=HB2.out;go_wp2_with fail;(with_reducible refine(KC.out _).mono ?_)
 rintro e w3 ⟨v,rfl,hown,hb3⟩
 have HP:=hid ((K2.new w2 P1 P2 33).below hb3 (by simp));have HZ3:=hid ((HZ2.out.alloc (.cells #[vi vk P1,vi vk P2] 33)).below hb3 (by have:=HZ2.out.lt;simp;omega));have B3:=hid ((B2.out.alloc B2.out.size (.cells #[vi vk P1,vi vk P2] 33)).trans (hb3.mono (by have:=B2.out.size;simp;omega)));rw[←HLN.out] at hown;obtain⟨A4,k4,rfl,ra,hcc,hcm⟩:=own_form hown;have RA:=hid ra;have hN2:N≤2:=by have:=HOK.out.1;have:=HLN.out;omega
 clear hown hb3 HZ2 HA2 HB2 B2 ra at2 a0' a1' a2' a3' bt2 c0 c1 c2 c3;obtain⟨pt,p0,p1,-,-⟩:=HP.out;by_cases hc:P1≤P2∧N≠0
 · rw[if_pos hc] at hRR
   obtain rfl:=hRR.out;have d1:decide (P2<P1)=false:=decide_eq_false om_;have d2:decide ((N:Int)=0)=false:=decide_eq_false om_;have d3:((N:Int)==0)=false:=by simp;exact hc.2
   clear hc hRR;have KA:=hid (fun(W:World) (h:Reads W W.heap.size 2 A4 N (spvs L))=>fixArnd_any A4 N k4 L W h om_ HOK.out.2);go_upto_region 7 with (fail)
   have KA3:=hid (KA.out w3.drew RA.out.drew);obtain⟨⟨r0,r1⟩,hr⟩: ∃r,arnd L=r:=⟨_,rfl⟩;rw[hr] at KA3;have HZL:=HZ3.out.lt;go_region_with (go_at_call 125;(with_reducible refine KA3.out.mono ?_);rintro e w4 ⟨rfl,hb4'⟩;have hb4:Below w3.heap.size w3 w4:=(bl_drew (Below.refl _ _)).trans hb4';have q0:=(hb4.cell (p:=⟨w2.heap.size,0,none⟩) pt).trans p0;have q1:=(hb4.cell (p:=⟨w2.heap.size,1,none⟩) pt).trans p1;obtain⟨zt,z0,z1,z2,z3,zf0,zf1,zf2,zf3⟩:=HZ3.out.below hb4 HZL)
   all_goals
    go_wp2;refine bodyPost_ret (v:=.tuple #[.agg #[vi vk P1,vi vk P2,vi vk r0,vi vk r1],vi vk 0]) (by simp[results,results89,go_sem, *];done) rfl ⟨_,_,_,_,rfl,?_⟩;have B4:=B3.out.trans (hb4.mono B3.out.size);exact(((B4.setCell so_ _).setCell so_ _).setCell so_ _).setCell so_ _
 · rw[if_neg hc] at hRR
   obtain rfl:=hRR.out;obtain⟨zt,z0,z1,z2,z3,zf0,zf1,zf2,zf3⟩:=HZ3.out;by_cases g1:P2<P1
   · have d1:decide (P2<P1)=true:=decide_eq_true g1
     go_wp2;refine bodyPost_ret (v:=.tuple #[.agg #[vi vk 0,vi vk 0,vi vk 0,vi vk 0],vi vk 23]) (by simp[results,results89,go_sem, *];done) rfl ⟨_,_,_,_,rfl,?_⟩;exact(((B3.out.setCell so_ _).setCell so_ _).setCell so_ _).setCell so_ _
   · have g2:N=0:=by omega
     subst g2;have d1:decide (P2<P1)=false:=decide_eq_false g1;go_wp2;refine bodyPost_ret (v:=.tuple #[.agg #[vi vk 0,vi vk 0,vi vk 0,vi vk 0],vi vk 23]) (by simp[results,results89,go_sem, *];done) rfl ⟨_,_,_,_,rfl,?_⟩;exact(((B3.out.setCell so_ _).setCell so_ _).setCell so_ _).setCell so_ _
theorem touch_any(a0 a1 a2 a3 b0 b1 b2 b3:Int)(w:World)(ha:VP (a0,a1,a2,a3))(hb:VP (b0,b1,b2,b3)):
 Calls Tryz.prog 57 #[.agg #[vi vk a0,vi vk a1,vi vk a2,vi vk a3],.agg #[vi vk b0,vi vk b1,vi vk b2,vi vk b3]] w fun e w'=>e=.returned (.bool (tchB (a0,a1,a2,a3) (b0,b1,b2,b3)))∧Below w.heap.size w w':=by
 have KM:=hid (fun W=>Meet_any a0 a1 a2 a3 b0 b1 b2 b3 W ha hb);obtain⟨R,hR⟩: ∃R,R=tchB (a0,a1,a2,a3) (b0,b1,b2,b3):=⟨_,rfl⟩;rw[←hR];obtain⟨m,hm⟩: ∃m,m=meetB (a0,a1,a2,a3) (b0,b1,b2,b3):=⟨_,rfl⟩;rw[←hm] at KM;have HR:Hid (R=((decide (a1=5400000)&&decide (b1=5400000))||(decide (a0= -5400000)&&decide (b0= -5400000))||m)):=hid (by
  rw[hR,hm];unfold tchB;simp only[Bool.decide_and])
 have HM:Hid (decide (a1<b0)=true∨decide (b1<a0)=true→m=false):=hid (fun h=>by
  rw[hm];unfold meetB;simp only[decide_eq_true_eq] at h;rw[decide_eq_false so_,Bool.false_and])
 clear hR hm ha hb;by_cases c1:a1=5400000∧b1=5400000
 · obtain⟨rfl,rfl⟩:=c1
   obtain rfl:R=true:=HR.out.trans (by simp);clear HR HM KM;go_enter func57,ntmps57;go_wp2;go_ret;exact⟨ret_bool (by first|rfl|simp),((Below.refl _ _).alloc (Nat.le_refl _) _).alloc (by simp) _⟩
 · by_cases c2:a0= -5400000∧b0= -5400000
   · obtain⟨rfl,rfl⟩:=c2
     obtain rfl:R=true:=HR.out.trans (by simp);clear HR HM KM;by_cases d1:a1=5400000
     · subst d1
       have d2:(b1==5400000)=false:=beq_eq_false_iff_ne.2 (fun e=>c1 ⟨rfl,e⟩);clear c1;go_enter func57,ntmps57;go_wp2;go_ret;exact⟨ret_bool (by first|rfl|simp),((Below.refl _ _).alloc (Nat.le_refl _) _).alloc (by simp) _⟩
     · clear c1
       have d1:(a1==5400000)=false:=beq_eq_false_iff_ne.2 d1;go_enter func57,ntmps57;go_wp2;go_ret;exact⟨ret_bool (by first|rfl|simp),((Below.refl _ _).alloc (Nat.le_refl _) _).alloc (by simp) _⟩
   · obtain rfl:R=m:=HR.out.trans (by
      simp only[←Bool.decide_and];rw[decide_eq_false c1,decide_eq_false c2];rfl)
     clear HR;have d1:(a1=5400000∧(b1==5400000)=false)∨(a1==5400000)=false:=by
      by_cases h:a1=5400000
      · exact .inl ⟨h,beq_eq_false_iff_ne.2 (fun e=>c1 ⟨h,e⟩)⟩
      · exact .inr (beq_eq_false_iff_ne.2 h)
     have d2:(a0= -5400000∧(b0== -5400000)=false)∨(a0== -5400000)=false:=by
      by_cases h:a0= -5400000
      · exact .inl ⟨h,beq_eq_false_iff_ne.2 (fun e=>c2 ⟨h,e⟩)⟩
      · exact .inr (beq_eq_false_iff_ne.2 h)
     clear c1 c2;rcases d1 with ⟨rfl,d1⟩|d1<;>rcases d2 with ⟨rfl,d2⟩|d2
     · by_cases g1:5400000<b0
       · obtain rfl:R=false:=HM.out (.inl (decide_eq_true g1))
         clear HM KM;go_enter func57,ntmps57;go_wp2;go_ret;exact⟨ret_bool (by first|rfl|simp),((Below.refl _ _).alloc (Nat.le_refl _) _).alloc (by simp) _⟩
       · by_cases g2:b1<(-5400000)
         · obtain rfl:R=false:=HM.out (.inr (decide_eq_true g2))
           clear HM KM;go_enter func57,ntmps57;go_wp2;go_ret;exact⟨ret_bool (by first|rfl|simp),((Below.refl _ _).alloc (Nat.le_refl _) _).alloc (by simp) _⟩
         · clear HM
           have b0':Below w.heap.size w ((w.alloc (.cells #[vi vk (-5400000),vi vk 5400000,vi vk a2,vi vk a3] 46)).alloc (.cells #[vi vk b0,vi vk b1,vi vk b2,vi vk b3] 46)):=((Below.refl _ _).alloc (Nat.le_refl _) _).alloc (by simp) _;go_enter func57,ntmps57;go_wp2_with fail;(with_reducible refine(KM.out _).mono ?_)
           rintro e w1 ⟨r0,r1,r2,r3,rfl,hb1⟩
           have B1:=b0'.trans (hb1.mono b0'.size);cases R
           all_goals
            simp only[if_true,if_false,Bool.false_eq_true];go_wp2;go_ret;exact⟨ret_bool (by first|rfl|simp),B1.alloc B1.size _⟩
     · by_cases g1:5400000<b0
       · obtain rfl:R=false:=HM.out (.inl (decide_eq_true g1))
         clear HM KM;go_enter func57,ntmps57;go_wp2;go_ret;exact⟨ret_bool (by first|rfl|simp),((Below.refl _ _).alloc (Nat.le_refl _) _).alloc (by simp) _⟩
       · by_cases g2:b1<a0
         · obtain rfl:R=false:=HM.out (.inr (decide_eq_true g2))
           clear HM KM;go_enter func57,ntmps57;go_wp2;go_ret;exact⟨ret_bool (by first|rfl|simp),((Below.refl _ _).alloc (Nat.le_refl _) _).alloc (by simp) _⟩
         · clear HM
           have b0':Below w.heap.size w ((w.alloc (.cells #[vi vk a0,vi vk 5400000,vi vk a2,vi vk a3] 46)).alloc (.cells #[vi vk b0,vi vk b1,vi vk b2,vi vk b3] 46)):=((Below.refl _ _).alloc (Nat.le_refl _) _).alloc (by simp) _;go_enter func57,ntmps57;go_wp2_with fail;(with_reducible refine(KM.out _).mono ?_)
           rintro e w1 ⟨r0,r1,r2,r3,rfl,hb1⟩
           have B1:=b0'.trans (hb1.mono b0'.size);cases R
           all_goals
            simp only[if_true,if_false,Bool.false_eq_true];go_wp2;go_ret;exact⟨ret_bool (by first|rfl|simp),B1.alloc B1.size _⟩
     · by_cases g1:a1<b0
       · obtain rfl:R=false:=HM.out (.inl (decide_eq_true g1))
         clear HM KM;go_enter func57,ntmps57;go_wp2;go_ret;exact⟨ret_bool (by first|rfl|simp),((Below.refl _ _).alloc (Nat.le_refl _) _).alloc (by simp) _⟩
       · by_cases g2:b1<(-5400000)
         · obtain rfl:R=false:=HM.out (.inr (decide_eq_true g2))
           clear HM KM;go_enter func57,ntmps57;go_wp2;go_ret;exact⟨ret_bool (by first|rfl|simp),((Below.refl _ _).alloc (Nat.le_refl _) _).alloc (by simp) _⟩
         · clear HM
           have b0':Below w.heap.size w ((w.alloc (.cells #[vi vk (-5400000),vi vk a1,vi vk a2,vi vk a3] 46)).alloc (.cells #[vi vk b0,vi vk b1,vi vk b2,vi vk b3] 46)):=((Below.refl _ _).alloc (Nat.le_refl _) _).alloc (by simp) _;go_enter func57,ntmps57;go_wp2_with fail;(with_reducible refine(KM.out _).mono ?_)
           rintro e w1 ⟨r0,r1,r2,r3,rfl,hb1⟩
           have B1:=b0'.trans (hb1.mono b0'.size);cases R
           all_goals
            simp only[if_true,if_false,Bool.false_eq_true];go_wp2;go_ret;exact⟨ret_bool (by first|rfl|simp),B1.alloc B1.size _⟩
     · by_cases g1:a1<b0
       · obtain rfl:R=false:=HM.out (.inl (decide_eq_true g1))
         clear HM KM;go_enter func57,ntmps57;go_wp2;go_ret;exact⟨ret_bool (by first|rfl|simp),((Below.refl _ _).alloc (Nat.le_refl _) _).alloc (by simp) _⟩
       · by_cases g2:b1<a0
         · obtain rfl:R=false:=HM.out (.inr (decide_eq_true g2))
           clear HM KM;go_enter func57,ntmps57;go_wp2;go_ret;exact⟨ret_bool (by first|rfl|simp),((Below.refl _ _).alloc (Nat.le_refl _) _).alloc (by simp) _⟩
         · clear HM
           have b0':Below w.heap.size w ((w.alloc (.cells #[vi vk a0,vi vk a1,vi vk a2,vi vk a3] 46)).alloc (.cells #[vi vk b0,vi vk b1,vi vk b2,vi vk b3] 46)):=((Below.refl _ _).alloc (Nat.le_refl _) _).alloc (by simp) _;go_enter func57,ntmps57;go_wp2_with fail;(with_reducible refine(KM.out _).mono ?_)
           rintro e w1 ⟨r0,r1,r2,r3,rfl,hb1⟩
           have B1:=b0'.trans (hb1.mono b0'.size);cases R
           all_goals
            simp only[if_true,if_false,Bool.false_eq_true];go_wp2;go_ret;exact⟨ret_bool (by first|rfl|simp),B1.alloc B1.size _⟩
end
structure RootAt(W:World)(q g n:Nat)(f:Nat→Nat):Prop where
 box:W.cell? ⟨q,0,none⟩=some (.slice (some ⟨g,0,none⟩) n n)
 cell: ∀j,j<n→W.cell? ⟨g,j,none⟩=some (vi vk (f j))
 fr: ∀j,j<n→W.frozen? ⟨g,j,none⟩=false
 ne:g≠q
 lt:g<W.heap.size
 ltq:q<W.heap.size
theorem RootAt.set{W:World}{q g n:Nat}{f:Nat→Nat}(h:RootAt W q g n f)(j v:Nat)(hj:j<n):RootAt (W.setCell ⟨g,j,none⟩ (vi vk v)) q g n (PQ.upd f j v):=by
 refine⟨?_,fun k hk=>?_,fun k hk=>by simpa using h.fr k hk,h.ne,by simpa using h.lt,by simpa using h.ltq⟩
 · rw[World.cell?_setCell_other _ _ _ _ (fun e=>h.ne (by injection e))]
   exact h.box
 · unfold PQ.upd
   by_cases e:k=j
   · subst e
     rw[if_pos rfl];exact World.cell?_setCell_same _ _ _ (h.cell k hk)
   · rw[if_neg e,World.cell?_setCell_other _ _ _ _ (fun e'=>e (by injection e' with _ e2;exact e2.symm))]
     exact h.cell k hk
theorem RootAt.below{W W':World}{B q g n:Nat}{f:Nat→Nat}(h:RootAt W q g n f)(hb:Below B W W')(hg:g<B)(hq:q<B):RootAt W' q g n f:=
 ⟨(hb.cell (p:=⟨q,0,none⟩) hq).trans h.box,fun j hj=>(hb.cell (p:=⟨g,j,none⟩) hg).trans (h.cell j hj),fun j hj=>(hb.frozen (p:=⟨g,j,none⟩) hg).trans (h.fr j hj),h.ne,Nat.lt_of_lt_of_le h.lt hb.size,Nat.lt_of_lt_of_le h.ltq hb.size⟩
theorem RootAt.drew{W:World}{q g n:Nat}{f:Nat→Nat}(h:RootAt W q g n f):RootAt W.drew q g n f:=⟨h.box,h.cell,h.fr,h.ne,h.lt,h.ltq⟩
structure Rt(c f:Nat→Nat)(n:Nat):Prop where
 le: ∀j,j<n→f j≤j
 up: ∀j,j<n→c (f j)=c j
 fix: ∀j,j<n→f j=j→c j=j
theorem Rt.halve{c f:Nat→Nat}{n j:Nat}(h:Rt c f n)(hj:j<n)(hne:f j≠j):Rt c (PQ.upd f j (f (f j))) n∧f (f j)<j∧c (f (f j))=c j:=by
 have h1:=h.le j hj;have h2:=h.le (f j) om_;have h3:c (f (f j))=c j:=by rw[h.up (f j) om_,h.up j hj]
 refine⟨⟨fun k hk=>?_,fun k hk=>?_,fun k hk=>?_⟩,om_,h3⟩
 · unfold PQ.upd;split
   · omega
   · exact h.le k hk
 · unfold PQ.upd;split
   · rename_i e;rw[e];exact h3
   · exact h.up k hk
 · unfold PQ.upd;split
   · intro e;omega
   · exact h.fix k hk
theorem Rt.merge{c f:Nat→Nat}{n i k:Nat}(h:Rt c f n)(hc:PQ.IsC c)(hne:c i≠c k):Rt (PQ.mrg c i k) (PQ.upd f (max (c i) (c k)) (min (c i) (c k))) n:=by
 have ii:=hc.idem i;have kk:=hc.idem k;have cmin:c (min (c i) (c k))=min (c i) (c k):=by
  rcases Nat.le_total (c i) (c k) with g|g
  · rw[Nat.min_eq_left g,ii]
  · rw[Nat.min_eq_right g,kk]
 have cmax:c (max (c i) (c k))=max (c i) (c k):=by
  rcases Nat.le_total (c i) (c k) with g|g
  · rw[Nat.max_eq_right g,kk]
  · rw[Nat.max_eq_left g,ii]
 refine⟨fun j hj=>?_,fun j hj=>?_,fun j hj=>?_⟩
 · unfold PQ.upd;split
   · omega
   · exact h.le j hj
 · unfold PQ.upd;split
   · rename_i e
     subst e;unfold PQ.mrg;rw[cmin,cmax,if_neg om_,if_pos rfl]
   · unfold PQ.mrg
     rw[h.up j hj]
 · unfold PQ.upd;split
   · intro e;omega
   · rename_i e
     intro e2;have:=h.fix j hj e2;unfold PQ.mrg;rw[this,if_neg e]
theorem grown_setG(w:World)(g j:Nat)(v:Value):w.grownBy (w.setCell ⟨g,j,none⟩ v) (some g):=
 ⟨rfl,rfl,rfl,by simp,fun k _ hk=>Below.heap_setCell _ _ _ k (fun e=>hk (by rw[e]))⟩
theorem grown_drew{w w1:World}{r:Option Nat}(h:w.grownBy w1 r):w.grownBy w1.drew r:=⟨h.os,h.tape,h.output,h.size,h.block⟩
theorem grown_trans{w w1 w2:World}{r:Option Nat}(h1:w.grownBy w1 r)(h2:w1.grownBy w2 r):w.grownBy w2 r:=
 ⟨h2.os.trans h1.os,h2.tape.trans h1.tape,h2.output.trans h1.output,Nat.le_trans h1.size h2.size,fun k hk hr=>(h2.block k (Nat.lt_of_lt_of_le hk h1.size) hr).trans (h1.block k hk hr)⟩
theorem find_any(c:Nat→Nat)(n q g i:Nat)(f:Nat→Nat)(w:World)(hi:i<n)(h:RootAt w q g n f)(hr:Rt c f n):
 Calls Tryz.prog 56 #[vi vk i,.pointer (some ⟨q,0,none⟩)] w fun e w'=>e=.returned (vi vk (c i))∧ ∃f',RootAt w' q g n f'∧Rt c f' n∧w.grownBy w' (some g):=by
 have HR:=hid h;have HT:=hid hr;clear h hr;go_enter func56,ntmps56;go_wp2;go_loopw [0] (fun v wr=> ∃(j:Nat) (f':Nat→Nat),v=vi vk j∧j<n∧c j=c i∧RootAt wr q g n f'∧Rt c f' n∧w.grownBy wr (some g)) (fun v _=>(intOf v).toNat)
 case atStart=>exact⟨i,f,rfl,hi,rfl,HR.out,HT.out,⟨rfl,rfl,rfl,Nat.le_refl _,fun _ _ _=>rfl⟩⟩
 case round=>
  obtain⟨j,f',rfl,hj,hcj,hR,hT,hgr⟩:=hrel;clear HR HT;have HR:=hid hR;have HT:=hid hT;clear hR hT;have hle:=HT.out.le j hj;have bx:=HR.out.box;have x0:=HR.out.cell j hj;have fr0:=HR.out.fr j hj;by_cases hfix:f' j=j
  · have hcc:=HT.out.fix j hj hfix
    rw[hfix] at x0;have hres:c i=j:=by rw[←hcj,hcc]
    go_wp2;go_ret;exact⟨ret_int om_,f',HR.out,HT.out,hgr⟩
  · obtain⟨m,hm⟩: ∃m,m=f' j:=⟨_,rfl⟩
    rw[←hm] at x0 hfix hle;have hmn:m<n:=by omega
    have x1:=HR.out.cell m hmn;have HH:=hid (HT.out.halve hj (by rw[←hm];exact hfix));rw[←hm] at HH;obtain⟨p,hp⟩: ∃p,p=f' m:=⟨_,rfl⟩;rw[←hp] at HH x1;have HM:=hid hm;have HP:=hid hp;clear hm hp;have hpj:p<j:=HH.out.2.1;have hne1:(m:Int)≠(j:Int):=by omega
    have hne2:=HR.out.ne;go_wp2_with (go_region);go_roundw
    case rel=>exact⟨p,_,rfl,om_,by rw[HH.out.2.2,hcj],(HR.out.set j p hj).drew,HH.out.1,grown_trans hgr (grown_drew (grown_setG _ _ _ _))⟩
    case measure=>simp[intOf];omega
section
theorem step_app{P:Program}(w:World){ops:Array Oper}{o:Oper}{a:Act}{K:Act→World→Prop}{Q:Exit→Act→World→Prop}{E:Prop}(hgd:o.guard=none)(s x:Operand)(t:TypeId)
 (ho:o.op=.call {callee:=.builtin .append,args:=#[s,x],argTypes:=#[t,t]})
 (base:Nat) (e:TypeId) (i:TypeInfo) (z:Value) (size bytes:Nat) (ht:P.underlying t=some (.slice e)) (hi:P.info? e=some i) (hz:i.zero=some z)
 (hsize:i.size=size) (hby:i.bytes=bytes) (hzs:z.cells.size=size) (hsz:0<size)
 (v:Value) (n:Nat) (xs:List Value) (hs:a.eval s=v) (hown:w.ownsRow base e size v n xs)
 (B:Nat) (A:Option Addr) (m c:Nat) (news:List Value) (hx:a.eval x=.slice A m c) (hr:Reads w B size A m news) (h1: ∀u∈news,u.oneCell'=true)
 (h63:n+m≤maxLen) (hbytes:(n+m)*bytes≤140737488355328) (hbase:base≤w.heap.size)
 (h: ∀v' w',w'.ownsRow base e size v' (n+m) (xs++news)→w.grownBy w' v.ownBlock→(v'.ownBlock=v.ownBlock∨v'.ownBlock=some w.heap.size)→K (a.put o.dst v') w'):
 if Region.wanted o (yielded ops a.tmps)=true then Oper.wp P o a w K Q else E:=by
 have hw:Region.wanted o (yielded ops a.tmps)=true:=by simp[Region.wanted,hgd]
 rw[if_pos hw];exact wp_append_any w s x t ho base e i z size bytes ht hi hz hsize hby hzs hsz v n xs hs hown B A m c news hx hr h1 h63 hbytes hbase h
def gl(LL:List (List Cl))(k:Nat):List Cl:=LL.getD k []
theorem own_lt'{w:World}{base:Nat}{e:TypeId}{size n:Nat}{v:Value}{xs:List Value}(h:w.ownsRow base e size v n xs){q:Nat}(hq:v.ownBlock=some q):q<w.heap.size:=by
 rcases h.2 with ⟨rfl,_⟩|⟨g,cap,cur,rfl,_,hh,_⟩
 · simp[Value.ownBlock] at hq
 · have:g=q:=by simpa [Value.ownBlock] using hq
   subst this;rcases Nat.lt_or_ge g w.heap.size with hlt|hge
   · exact hlt
   · rw[Array.getElem?_eq_none hge] at hh;cases hh
theorem own_grown'{w w':World}{base:Nat}{e:TypeId}{size n:Nat}{v:Value}{xs:List Value}{row:Option Nat}(h:w.ownsRow base e size v n xs)(hg:w.grownBy w' row)(hne: ∀q,v.ownBlock=some q→row≠some q):w'.ownsRow base e size v n xs:=by
 refine⟨h.1,?_⟩;have hlt:= @own_lt' w base e size n v xs h;rcases h.2 with h1|⟨g,cap,cur,rfl,hb,hh,hr⟩
 · exact .inl h1
 · have hq:(Value.slice (some ⟨g,0,none⟩) n cap).ownBlock=some g:=by simp[Value.ownBlock]
   exact .inr ⟨g,cap,cur,rfl,hb,(hg.block g (hlt hq) (fun e=>hne g hq e.symm)).trans hh,hr⟩
theorem own_own_ne{w:World}{b1 b2:Nat}{e1 e2:TypeId}{s1 s2 n1 n2:Nat}{v1 v2:Value}{x1 x2:List Value}(h1:w.ownsRow b1 e1 s1 v1 n1 x1)(h2:w.ownsRow b2 e2 s2 v2 n2 x2)(hne:e1≠e2){q:Nat}(hq:v1.ownBlock=some q):v2.ownBlock≠some q:=by
 rcases h1.2 with ⟨rfl,_⟩|⟨g,cap,cur,rfl,_,hh,_⟩
 · simp[Value.ownBlock] at hq
 · have:g=q:=by simpa [Value.ownBlock] using hq
   subst this;exact own_blk_ne h2 (show Blk w g e1 cur from hh) (fun e=>hne e.symm)
structure Rws(W:World)(B:Nat)(v:Value)(LL:List (List Cl))(vs:List Value):Prop where
 row:W.ownsRow B 22 1 v LL.length vs
 one: ∀(k:Nat) (u:Value),vs[k]? =some u→W.ownsRow B 58 3 u (gl LL k).length (cvs (gl LL k))
 ne: ∀(k m:Nat) (u u':Value),k≠m→vs[k]? =some u→vs[m]? =some u'→ ∀q,u.ownBlock=some q→u'.ownBlock≠some q
section
variable {W W':World} {B:Nat} {v:Value} {LL:List (List Cl)} {vs:List Value}
theorem Rws.len(h:Rws W B v LL vs):vs.length=LL.length:=by have:=h.row.1;omega
theorem Rws.nil(W:World)(B:Nat):Rws W B (.slice none 0 0) [] []:=⟨own_nil _ _ _ _,fun k u h=>by simp at h,fun k m u u' _ h=>by simp at h⟩
theorem Rws.kept(h:Rws W B v LL vs){row:Option Nat}(hg:W.grownBy W' row)(hr: ∀q,row=some q→q<B):Rws W' B v LL vs:=
 ⟨own_grown' h.row hg (fun q hq e=>by have:=own_base h.row q hq;have:=hr q e;omega),fun k u hk=>own_grown' (h.one k u hk) hg (fun q hq e=>by have:=own_base (h.one k u hk) q hq;have:=hr q e;omega),h.ne⟩
theorem Rws.bl(h:Rws W B v LL vs)(hb:Below W.heap.size W W'):Rws W' B v LL vs:=
 ⟨own_bl h.row hb (Nat.le_refl _),fun k u hk=>own_bl (h.one k u hk) hb (Nat.le_refl _),h.ne⟩
theorem Rws.alloc(h:Rws W B v LL vs)(o:Obj):Rws (W.alloc o) B v LL vs:=h.bl (bl_alloc W o)
theorem Rws.other(h:Rws W B v LL vs){b:Nat}{e:TypeId}{s n:Nat}{u:Value}{xs:List Value}(ho:W.ownsRow b e s u n xs)(h1:e≠22)(h2:e≠58)(hg:W.grownBy W' u.ownBlock):Rws W' B v LL vs:=
 ⟨own_grown' h.row hg (fun q hq e'=>own_own_ne ho h.row h1 e' hq),fun k u' hk=>own_grown' (h.one k u' hk) hg (fun q hq e'=>own_own_ne ho (h.one k u' hk) h2 e' hq),h.ne⟩
theorem tne:(22:TypeId)≠58:=by decide
theorem Rws.snoc(h:Rws W B v LL vs){v' u:Value}{L:List Cl}(hg:W.grownBy W' v.ownBlock)(hrow:W'.ownsRow B 22 1 v' (LL.length+1) (vs++[u]))(hu:W'.ownsRow B 58 3 u L.length (cvs L))(hf: ∀(k:Nat) (u':Value),vs[k]? =some u'→ ∀q,u'.ownBlock=some q→u.ownBlock≠some q):Rws W' B v' (LL++[L]) (vs++[u]):=by
 have hl:=h.len;have hc: ∀k x,(vs++[u])[k]? =some x→(k<vs.length∧vs[k]? =some x)∨(k=vs.length∧x=u):=fun k x hk=>by
  rw[List.getElem?_append] at hk;split at hk
  · rename_i hlt;exact .inl ⟨hlt,hk⟩
  · rename_i hge
    have:k-vs.length=0:=by
     rcases Nat.eq_zero_or_pos (k-vs.length) with e|e
     · exact e
     · rw[List.getElem?_eq_none (by simp;omega)] at hk;cases hk
    rw[this] at hk;have e:u=x:=by simpa using hk
    exact .inr ⟨om_,e.symm⟩
 refine⟨by simpa using hrow,fun k x hk=>?_,fun k m x y hne hk hm q hq=>?_⟩
 · rcases hc k x hk with ⟨hlt,hk'⟩|⟨rfl,rfl⟩
   · have e:gl (LL++[L]) k=gl LL k:=by unfold gl;simp[List.getElem?_append,show k<LL.length by omega]
     rw[e];exact own_grown' (h.one k x hk') hg (fun q hq e'=>own_own_ne h.row (h.one k x hk') tne e' hq)
   · have e:gl (LL++[L]) vs.length=L:=by unfold gl;simp[hl]
     rw[e];exact hu
 · rcases hc k x hk with ⟨hlt,hk'⟩|⟨rfl,rfl⟩<;>rcases hc m y hm with ⟨hlt2,hm'⟩|⟨rfl,rfl⟩
   · exact h.ne k m x y hne hk' hm' q hq
   · exact hf k x hk' q hq
   · exact fun e=>hf m y hm' q e hq
   · exact absurd rfl hne
theorem Rws.grow(h:Rws W B v LL vs){k g cap:Nat}{u u':Value}{L:List Cl}(hv:v=.slice (some ⟨g,0,none⟩) LL.length cap)(hk:vs[k]? =some u)(hg:W.grownBy W' u.ownBlock)(hu:W'.ownsRow B 58 3 u' L.length (cvs L))(hat:u'.ownBlock=u.ownBlock∨u'.ownBlock=some W.heap.size):
 Rws (W'.setCell ⟨g,k,none⟩ u') B v (LL.set k L) (vs.set k u'):=by
 have hl:=h.len;have hkl:k<vs.length:=by
  rcases Nat.lt_or_ge k vs.length with e|e
  · exact e
  · rw[List.getElem?_eq_none e] at hk;cases hk
 have hrow':W'.ownsRow B 22 1 v LL.length vs:=own_grown' h.row hg (fun q hq e'=>own_own_ne h.row (h.one k u hk) tne hq e');have hblk: ∃cs,Blk W' g 22 cs:=by
  rcases hrow'.2 with ⟨e,_⟩|⟨g',cap',cur,e,_,hh,_⟩
  · rw[hv] at e;cases e
  · rw[hv] at e
    injection e with e1 e2 e3
    injection e1 with e1
    injection e1 with e1
    subst e1;exact⟨cur,hh⟩
 obtain⟨cs,hblk⟩:=hblk;subst hv;refine⟨?_,fun m x hm=>?_,fun m p x y hne hm hp q hq=>?_⟩
 · have:=own_set hrow' k u' om_
   simpa using this
 · by_cases e:k=m
   · subst e
     rw[List.getElem?_set_self om_] at hm;injection hm with hm
     subst hm;have e2:gl (LL.set k L) k=L:=by unfold gl;simp[show k<LL.length by omega]
     rw[e2];exact ownsRow_far hu hblk (fun e=>tne e.symm)
   · rw[List.getElem?_set_ne e] at hm
     have e2:gl (LL.set k L) m=gl LL m:=by unfold gl;simp[List.getElem?_set_ne e]
     rw[e2];exact ownsRow_far (own_grown' (h.one m x hm) hg (fun q hq e'=>h.ne k m u x e hk hm q e' hq)) hblk (fun e=>tne e.symm)
 · have fresh: ∀m x,vs[m]? =some x→k≠m→ ∀q,u'.ownBlock=some q→x.ownBlock≠some q:=fun m x hm e q hq=>by
    rcases hat with h1|h1
    · exact h.ne k m u x e hk hm q (h1▸hq)
    · intro e'
      have:=own_lt' (h.one m x hm) e';rw[h1] at hq;injection hq with hq
      omega
   by_cases e:k=m
   · subst e
     rw[List.getElem?_set_self om_] at hm;injection hm with hm
     subst hm;rw[List.getElem?_set_ne hne] at hp;exact fresh p y hp hne q hq
   · rw[List.getElem?_set_ne e] at hm
     by_cases e2:k=p
     · subst e2
       rw[List.getElem?_set_self om_] at hp;injection hp with hp
       subst hp;intro e';exact fresh m x hm e q e' hq
     · rw[List.getElem?_set_ne e2] at hp
       exact h.ne m p x y hne hm hp q hq
end
end
end Go.Proofs.YtdeiofgddhbdaaaGreatDoor
