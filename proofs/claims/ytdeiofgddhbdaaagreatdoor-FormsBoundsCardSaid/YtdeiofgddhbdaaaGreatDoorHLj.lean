/- The walk of the law FormsBounds. -/
import Derived.Test.YtdeiofgddhbdaaaGreatDoorHLh
set_option linter.unusedSimpArgs false
set_option linter.unusedVariables false
set_option maxHeartbeats 4000000
set_option maxRecDepth 100000
open Go.RowKit
open Go.Lib (hid)
open Go.Proofs.Tryz
open Go.Value renaming int→vi
open Go.IntKind renaming i64→vk
namespace Go.Proofs.YtdeiofgddhbdaaaGreatDoor
section
open Go.Shelf Frm
open Lib (decDigits)
theorem hasPrefix_tx(s p:Bs)(w:World):Calls Tryz.prog 55 #[tx s,tx p] w fun e w'=>e=.returned (.bool (Lib.hasPrefix s p))∧w'=w:=
 hasPrefix_any ⟨s.toArray⟩ ⟨p.toArray⟩ w
theorem lread_any(g c i0:Nat)(Z:List Bs)(lab l':Bs)(x y:Int)(w:World)(hZ:Z.length=6)(hg:g<w.heap.size)(hcell: ∀j z,Z[j]? =some z→w.cell? ⟨g,j,none⟩=some (tx z))
 (hlen: ∀z∈Z,z.length≤1000) (hlab:lab.length≤1000) (hi0:i0<6) (hno: ∀j z,Z[j]? =some z→Lib.hasPrefix z (lab++[32])=decide (j=i0)) (hrd: ∀z,Z[i0]? =some z→readP z=(l',(x,y),0)) (hm:Mx w) (ht:Tab w):
 Calls Tryz.prog 21 #[.slice (some ⟨g,0,none⟩) 6 c,tx lab] w fun e w'=>e=.returned (.tuple #[.agg #[vi vk x,vi vk y],.bool true])∧Below w.heap.size w w':=by
 have ha:=tx_add lab [32] om_ (by simp);have KR:=hid (fun(z:Bs) (hz:z.length≤1000) (W:World) (h:Below w.heap.size w W)=>read_any z W hz (hm.stays h) (ht.stays h (Nat.le_refl _)));generalize lab++[32]=lb at ha hno;have HNO:=hid hno;have HRD:=hid hrd;have HC:=hid hcell;have HLN:=hid hlen;have HZ:=hid hZ;have A0:=hid ((Blk.new w 33 #[vi vk 0,vi vk 0]).alloc (.cells #[vi vk 0,vi vk 0] 33));have C0:=hid (Blk.new (w.alloc (.cells #[vi vk 0,vi vk 0] 33)) 33 #[vi vk 0,vi vk 0]);have B0:=hid ((bl_alloc w (.cells #[vi vk 0,vi vk 0] 33)).alloc (by simp) (.cells #[vi vk 0,vi vk 0] 33));clear hno hrd hcell hlen hZ hm ht;go_enter func21,ntmps21;go_upto_region 2 with (fail)
 have hs:(w.alloc (.cells #[vi vk 0,vi vk 0] 33)).heap.size=w.heap.size+1:=by simp
 rw[hs] at C0;clear hs;generalize (w.alloc (.cells #[vi vk 0,vi vk 0] 33)).alloc (.cells #[vi vk 0,vi vk 0] 33)=w0 at A0 C0 B0⊢;go_wp2_with fail;go_loopg [7,15] 7 (fun gz s7 s15 wr=> ∃j:Nat,s15=vi vk (j:Int)∧s7=vi vk (if i0<j then 1 else 0)∧j+gz=7∧j≤6∧Below w.heap.size w wr∧Blk wr w.heap.size 33 #[vi vk 0,vi vk 0]∧Blk wr (w.heap.size+1) 33 #[vi vk (if i0<j then x else 0),vi vk (if i0<j then y else 0)])
 case atStart=>exact⟨0,rfl,rfl,rfl,om_,B0.out,A0.out,C0.out⟩
 case round=>
  obtain⟨j,rfl,rfl,hj,hj6,hB,hA,hC⟩:=hrel;obtain⟨nv,hnv⟩: ∃nv:Int,(if i0<j then 1 else 0)=nv:=⟨_,rfl⟩;obtain⟨ox,hox⟩: ∃v:Int,(if i0<j then x else 0)=v:=⟨_,rfl⟩;obtain⟨oy,hoy⟩: ∃v:Int,(if i0<j then y else 0)=v:=⟨_,rfl⟩;rw[hox,hoy] at hC;rw[hnv];have HNV:=hid hnv;have HOX:=hid hox;have HOY:=hid hoy;clear hnv hox hoy;have BB:=hid hB;have AA:=hid hA;have CC:=hid hC;clear hB hA hC A0 C0 B0;have w9:wrap64 ((j:Int)+1)=((j+1:Nat):Int):=by rw[IntWalk.wrap64_in _ om_];omega
  by_cases hlt:j<6
  · have d0:decide ((j:Int)<6)=true:=decide_eq_true om_
    obtain⟨z,hz⟩: ∃z,Z[j]? =some z:=⟨_,List.getElem?_eq_getElem (by rw[HZ.out];exact hlt)⟩;have y9:wr.cell? ⟨g,j,none⟩=some (tx z):=(BB.out.cell (p:=⟨g,j,none⟩) hg).trans (HC.out j z hz);have hp:=HNO.out j z hz;have KP:=fun W=>hasPrefix_tx z lb W;rw[hp] at KP;replace KP:=hid KP
    by_cases hji:j=i0
    · subst hji
      have KP2:=KP.out;rw[decide_eq_true rfl] at KP2;replace KP:=hid KP2
      clear KP2;have n0:nv=0:=by rw[←HNV.out,if_neg om_]
      subst n0;have hr:=HRD.out z hz;have KZ:=KR.out z (HLN.out z (List.mem_of_getElem? hz)) wr BB.out;rw[hr] at KZ;replace KZ:=hid KZ
      clear hr hp KR;go_wp2_with fail;(with_reducible refine(KP.out _).mono ?_)
      rintro e1 w1 ⟨rfl,rfl⟩
      clear KP y9;go_wp2_with fail;(with_reducible refine(KZ.out).mono ?_)
      rintro e2 w2 ⟨rfl,hb2⟩
      have B2:=hid ((BB.out.trans (hb2.mono BB.out.size)).alloc (by have:=BB.out.size;have:=hb2.size;omega) (.cells #[vi vk x,vi vk y] 33));have A2:=hid ((AA.out.below hb2 AA.out.lt).alloc (.cells #[vi vk x,vi vk y] 33));have C2:=hid ((CC.out.below hb2 CC.out.lt).alloc (.cells #[vi vk x,vi vk y] 33));have D2:=hid (Blk.new w2 33 #[vi vk x,vi vk y]);have sz2:w.heap.size+1<w2.heap.size:=Nat.lt_of_lt_of_le CC.out.lt hb2.size;clear hb2 KZ BB AA CC;go_upto_region 8 with (fail)
      generalize w2.alloc (.cells #[vi vk x,vi vk y] 33)=w3 at B2 A2 C2 D2⊢;generalize w2.heap.size=g2 at*;have y0:=D2.out.cell 0;have y1:=D2.out.cell 1;have u0:=C2.out.cell 0;have u1:=C2.out.cell 1;have z0:=C2.out.frozen 0;have z1:=C2.out.frozen 1;go_wp2;go_roundg (gk-1)
      case measure=>omega
      case rel=>
       exact⟨j+1,rfl,by rw[if_pos om_],om_,hlt,(B2.out.setCell (by simp) _).setCell (by simp) _,(A2.out.far (by simp) _).far (by simp) _,by rw[if_pos om_,if_pos om_];exact(C2.out.set_ 0 _).set_ 1 _⟩
    · have KP2:=KP.out
      rw[decide_eq_false hji] at KP2;replace KP:=hid KP2
      clear KP2 KR HRD;go_wp2_with fail;(with_reducible refine(KP.out _).mono ?_)
      rintro e1 w1 ⟨rfl,rfl⟩
      go_wp2;go_roundg (gk-1)
      case measure=>omega
      case rel=>
       have e:(i0<j+1)↔(i0<j):=by omega
       exact⟨j+1,rfl,by simp only[e];rw[HNV.out],om_,hlt,BB.out,AA.out,by simp only[e];rw[HOX.out,HOY.out];exact CC.out⟩
  · obtain rfl:j=6:=by omega
    have d0:decide (((6:Nat):Int)<6)=false:=by decide
    have n1:nv=1:=by rw[←HNV.out,if_pos hi0]
    have n2:ox=x:=by rw[←HOX.out,if_pos hi0]
    have n3:oy=y:=by rw[←HOY.out,if_pos hi0]
    subst n1 n2 n3;clear HNV HOX HOY KR HRD HNO HC HLN;have u0:=CC.out.cell 0;have u1:=CC.out.cell 1;have y0:=AA.out.cell 0;have y1:=AA.out.cell 1;have z0:=AA.out.frozen 0;have z1:=AA.out.frozen 1;go_wp2;have cc:=(AA.out.set_ 0 (vi vk ox)).set_ 1 (vi vk oy);have c0:=cc.cell 0;have c1:=cc.cell 1;refine bodyPost_ret (v:=.tuple #[.agg #[vi vk ox,vi vk oy],.bool true]) (by simp[results,results21,go_sem,c0,c1];done) rfl ?_;exact⟨rfl,(BB.out.setCell (by simp) _).setCell (by simp) _⟩
end
section
open Go.Shelf Frm
open Lib (decDigits)
theorem fix_pre(lab:Bs)(i0:Nat)(h:(lab=wLat∧i0=2)∨(lab=wLon∧i0=3)∨(lab=wRad∧i0=5))(t1 t2 t3 t4 t5 t6:Bs):
 ∀j z,[wCells++32::t1,wParts++32::t2,wLat++32::t3,wLon++32::t4,wCen++32::t5,wRad++32::t6][j]? =some z→Lib.hasPrefix z (lab++[32])=decide (j=i0):=by
 intro j z hz;rcases h with ⟨rfl,rfl⟩|⟨rfl,rfl⟩|⟨rfl,rfl⟩
 all_goals
  match j,hz with
  |0,hz=>simp at hz;subst hz;simp[Lib.hasPrefix,List.isPrefixOf]
  |1,hz=>simp at hz;subst hz;simp[Lib.hasPrefix,List.isPrefixOf]
  |2,hz=>simp at hz;subst hz;simp[Lib.hasPrefix,List.isPrefixOf]
  |3,hz=>simp at hz;subst hz;simp[Lib.hasPrefix,List.isPrefixOf]
  |4,hz=>simp at hz;subst hz;simp[Lib.hasPrefix,List.isPrefixOf]
  |5,hz=>simp at hz;subst hz;simp[Lib.hasPrefix,List.isPrefixOf]
  |j+6,hz=>simp at hz
theorem fixN_len{n m:Nat}{b0 b1 b2 b3 c0 c1 r0 r1:Int}(hn:n≤4000)(hm:m≤4000)(hb:b0≤b1∧b2≤b3∧r0≤r1∧ -90000000≤b0∧ -90000000≤b2∧ -90000000≤r0∧b1≤90000000∧b3≤90000000∧r1≤90000000)
 (hc0: -10800000≤c0∧c0≤10800000) (hc1: -10800000≤c1∧c1≤10800000): ∀z∈fixN n m b0 b1 b2 b3 c0 c1 r0 r1,z.length≤1000:=by
 have l1:=dd_len 9 n om_;have l2:=dd_len 9 m om_;have l3:=print_len (lo:=b0) (hi:=b1) om_ om_ om_;have l4:=print_len (lo:=b2) (hi:=b3) om_ om_ om_;have l6:=print_len (lo:=r0) (hi:=r1) om_ om_ om_;have l5:(ptL c0 c1).length≤100:=by
  have s1:=side_len c0 [78] [83] om_ (by simp) (by simp);have s2:=side_len c1 [69] [87] om_ (by simp) (by simp);unfold ptL;rw[List.length_append,List.length_cons];omega
 intro z hz;unfold fixN at hz;simp only[List.mem_cons,List.not_mem_nil,or_false] at hz;rcases hz with rfl|rfl|rfl|rfl|rfl|rfl
 all_goals (simp only[List.length_append,List.length_cons,List.length_nil];omega)
theorem formsBounds_main(A:Option Addr)(n ca:Nat)(L:List Cl)(w:World)(hr:Reads w w.heap.size 3 A n (cvs L))(hn:n≤ca)(hca:ca≤maxLen)(h40:n≤40)(hv:vrB L=true)(h0:0<n)(hm:Mx w)(ht:Tab w):
 Calls Tryz.prog 6 #[.slice A n ca] w fun e w'=>e=.returned (.bool true)∧Below w.heap.size w w':=by
 have hnm:n≤maxLen:=Nat.le_trans hn hca;have RD: ∀W,Below w.heap.size w W→Reads W W.heap.size 3 A n (cvs L):=fun W hW=>(hr.below hW).more hW.size;have hll:L.length=n:=hr.len;obtain⟨hb,b2',b3',hc0,hc1⟩:=fix_bds hv om_;have hpl:=parts_le L;have KA:=hid (awake55 w hm ht);have KV:=hid (fun(W:World) (h:Below w.heap.size w W)=>(show Calls Tryz.prog 17 #[.slice A n ca] W fun e w'=>e=.returned (.bool true)∧Below W.heap.size W w' by have h:=refVR_any A n ca L W (RD W h) hn hca;rw[rvrB_eq,hv] at h;exact h));have K1:=fun(W:World) (h:Below w.heap.size w W)=>fFix_yes A n ca L W (RD W h) hnm hv h0 (ht.stays h (Nat.le_refl _));have KB:=fun(W:World) (h:Below w.heap.size w W)=>fBounds_yes A n ca L W (RD W h) hnm hv h0;have KC:=fun(W:World) (h:Below w.heap.size w W)=>fCenter_yes A n ca L W (RD W h) hnm hv h0;have KR:=fun(W:World) (h:Below w.heap.size w W)=>Radius_yes A n ca L (cenV L).1 (cenV L).2 W (RD W h) hnm hv b3' h0;have hlen:=fixN_len (n:=n) (m:=(partsL L).length) om_ om_ hb hc0 hc1;unfold fixLs at K1;rw[hll] at K1 hb hlen;clear b2' b3' hc0 hc1 hpl hv RD hr;generalize (bndV L).1=b0 at*;generalize (bndV L).2.1=b1 at*;generalize (bndV L).2.2.1=b2 at*;generalize (bndV L).2.2.2=b3 at*;generalize (radF (L.map bxI) (cenV L) n).1=r0 at*;generalize (radF (L.map bxI) (cenV L) n).2=r1 at*;generalize (cenV L).1=c0 at*;generalize (cenV L).2=c1 at*;have m0:=rnd_near b0;have m1:=rnd_near b1;have m2:=rnd_near b2;have m3:=rnd_near b3;have m4:=rnd_near r0;have m5:=rnd_near r1;have hp1:=read_print (l:=wLat) dc_ hb.1 om_ om_;have hp2:=read_print (l:=wLon) dc_ hb.2.1 om_ om_;have hp3:=read_print (l:=wRad) dc_ hb.2.2.1 om_ om_;have KI1:=hid (fun W=>inside_yes b0 b1 (rnd b0-50) (rnd b1+49) W hb.1 om_ om_ om_ om_);have KI2:=hid (fun W=>inside_yes b2 b3 (rnd b2-50) (rnd b3+49) W hb.2.1 om_ om_ om_ om_);have KI3:=hid (fun W=>inside_yes r0 r1 (rnd r0-50) (rnd r1+49) W hb.2.2.1 om_ om_ om_ om_);clear m0 m1 m2 m3 m4 m5 hb;generalize rnd b0-50=x1 at*;generalize rnd b1+49=y1 at*;generalize rnd b2-50=x2 at*;generalize rnd b3+49=y2 at*;generalize rnd r0-50=x3 at*;generalize rnd r1+49=y3 at*;unfold fixN at K1 hlen;generalize (printL b0 b1).1=t3 at*;generalize (printL b2 b3).1=t4 at*;generalize (printL r0 r1).1=t6 at*;generalize ptL c0 c1=t5 at*;generalize decDigits n=t1 at*;generalize decDigits (partsL L).length=t2 at*;have P1:=fix_pre wLat 2 (.inl ⟨rfl,rfl⟩) t1 t2 t3 t4 t5 t6;have P2:=fix_pre wLon 3 (.inr (.inl ⟨rfl,rfl⟩)) t1 t2 t3 t4 t5 t6;have P3:=fix_pre wRad 5 (.inr (.inr ⟨rfl,rfl⟩)) t1 t2 t3 t4 t5 t6;have R1: ∀z,[wCells++32::t1,wParts++32::t2,wLat++32::t3,wLon++32::t4,wCen++32::t5,wRad++32::t6][2]? =some z→readP z=(wLat,(x1,y1),0):=fun z h=>by
  obtain rfl:wLat++32::t3=z:=Option.some.inj h;exact hp1
 have R2: ∀z,[wCells++32::t1,wParts++32::t2,wLat++32::t3,wLon++32::t4,wCen++32::t5,wRad++32::t6][3]? =some z→readP z=(wLon,(x2,y2),0):=fun z h=>by
  obtain rfl:wLon++32::t4=z:=Option.some.inj h;exact hp2
 have R3: ∀z,[wCells++32::t1,wParts++32::t2,wLat++32::t3,wLon++32::t4,wCen++32::t5,wRad++32::t6][5]? =some z→readP z=(wRad,(x3,y3),0):=fun z h=>by
  obtain rfl:wRad++32::t6=z:=Option.some.inj h;exact hp3
 obtain⟨Z,hZ⟩: ∃Z,[wCells++32::t1,wParts++32::t2,wLat++32::t3,wLon++32::t4,wCen++32::t5,wRad++32::t6]=Z:=⟨_,rfl⟩;have hz6:Z.length=6:=by rw[←hZ];rfl
 rw[hZ] at K1 hlen P1 P2 P3 R1 R2 R3;have KL:=hid (fun(g c:Nat) (W:World) (hg:g<W.heap.size) (hcell: ∀j z,Z[j]? =some z→W.cell? ⟨g,j,none⟩=some (tx z)) (h:Below w.heap.size w W)=>lread_any g c 2 Z wLat wLat x1 y1 W hz6 hg hcell hlen dc_ dc_ P1 R1 (hm.stays h) (ht.stays h (Nat.le_refl _)));have KM:=hid (fun(g c:Nat) (W:World) (hg:g<W.heap.size) (hcell: ∀j z,Z[j]? =some z→W.cell? ⟨g,j,none⟩=some (tx z)) (h:Below w.heap.size w W)=>lread_any g c 3 Z wLon wLon x2 y2 W hz6 hg hcell hlen dc_ dc_ P2 R2 (hm.stays h) (ht.stays h (Nat.le_refl _)));have KN:=hid (fun(g c:Nat) (W:World) (hg:g<W.heap.size) (hcell: ∀j z,Z[j]? =some z→W.cell? ⟨g,j,none⟩=some (tx z)) (h:Below w.heap.size w W)=>lread_any g c 5 Z wRad wRad x3 y3 W hz6 hg hcell hlen dc_ dc_ P3 R3 (hm.stays h) (ht.stays h (Nat.le_refl _)));clear hlen P1 P2 P3 R1 R2 R3 hp1 hp2 hp3 hZ ht hm;replace K1:=hid K1
 replace KB:=hid KB
 replace KC:=hid KC
 replace KR:=hid KR
 have d0:((n:Int)==0)=false:=by simp;omega
 have d1: ¬n=0:=by omega
 have d2:decide ((40:Int)<(n:Int))=false:=decide_eq_false om_;have d3: ¬40<n:=by omega
 have d4:decide (40<n)=false:=decide_eq_false d3;clear hll hnm hn hca h40 h0;go_enter func6,ntmps6;go_wp2_with fail;(with_reducible refine(KA.out).mono ?_)
 rintro e1 w1 ⟨rfl,hb1⟩
 have B1:=hid hb1;clear hb1 KA;go_wp2_with fail;(with_reducible refine(KV.out _ B1.out).mono ?_)
 rintro e2 w2 ⟨rfl,hb2⟩
 have B2:=hid (B1.out.trans (hb2.mono B1.out.size));clear hb2 KV B1;go_wp2_with fail;(with_reducible refine(K1.out _ B2.out).mono ?_)
 rintro e3 w3 ⟨sv,rfl,hown,hb3⟩
 rw[hz6] at hown;obtain⟨g,c,rfl,-,hg⟩:=own_some hown dc_;have HC3:Hid (∀j z,Z[j]? =some z→w3.cell? ⟨g,j,none⟩=some (tx z)):=hid (fun j z h=>(own_cell hown j (tx z) (by unfold txs;rw[List.getElem?_map,h];rfl)).1);have B3:=hid (B2.out.trans (hb3.mono B2.out.size));clear hb3 K1 B2 hown;go_wp2_with fail;(with_reducible refine(KB.out _ B3.out).mono ?_)
 rintro e4 w4 ⟨rfl,hb4⟩
 have N4:=hid (Blk.new w4 46 #[vi vk b0,vi vk b1,vi vk b2,vi vk b3]);have S4:=hid (hb4.alloc hb4.size (.cells #[vi vk b0,vi vk b1,vi vk b2,vi vk b3] 46));have B4:=hid (B3.out.trans (S4.out.mono B3.out.size));clear hb4 KB;go_wp2_with fail;(with_reducible refine(KC.out _ B4.out).mono ?_)
 rintro e5 w5 ⟨rfl,hb5⟩
 have N5:=hid ((N4.out.below hb5 N4.out.lt).alloc (.cells #[vi vk c0,vi vk c1] 50));have M5:=hid (Blk.new w5 50 #[vi vk c0,vi vk c1]);have S5:=hid ((S4.out.trans (hb5.mono S4.out.size)).alloc (by have:=S4.out.size;have:=hb5.size;omega) (.cells #[vi vk c0,vi vk c1] 50));have B5:=hid (B3.out.trans (S5.out.mono B3.out.size));clear hb5 KC N4 S4 B4;generalize w4.heap.size=g4 at*;have y0:=M5.out.cell 0;have y1:=M5.out.cell 1;go_wp2_with fail;(with_reducible refine(KR.out _ B5.out).mono ?_)
 rintro e6 w6 ⟨rfl,hb6⟩
 have N6:=hid ((N5.out.below hb6 N5.out.lt).alloc (.cells #[vi vk r0,vi vk r1] 33));have R6:=hid (Blk.new w6 33 #[vi vk r0,vi vk r1]);have S6:=hid ((S5.out.trans (hb6.mono S5.out.size)).alloc (by have:=S5.out.size;have:=hb6.size;omega) (.cells #[vi vk r0,vi vk r1] 33));clear hb6 KR N5 M5 S5 B5 y0 y1;go_upto_region 9 with (fail)
 generalize w6.alloc (.cells #[vi vk r0,vi vk r1] 33)=w7 at N6 R6 S6⊢;generalize w6.heap.size=g6 at*;have B6:=hid (B3.out.trans (S6.out.mono B3.out.size));have hc6: ∀j z,Z[j]? =some z→w7.cell? ⟨g,j,none⟩=some (tx z):=fun j z h=>(S6.out.cell (p:=⟨g,j,none⟩) hg).trans (HC3.out j z h);have HC6:=hid hc6;have hg6:g<w7.heap.size:=Nat.lt_of_lt_of_le hg S6.out.size;clear hc6 HC3 S6 B3;have KX:=hid (KL.out g c w7 hg6 HC6.out B6.out);go_wp2_with fail;(with_reducible refine(KX.out).mono ?_)
 rintro e7 v7 ⟨rfl,hb7⟩
 have N7:=hid ((N6.out.below hb7 N6.out.lt).alloc (.cells #[vi vk x1,vi vk y1] 33));have R7:=hid ((R6.out.below hb7 R6.out.lt).alloc (.cells #[vi vk x1,vi vk y1] 33));have U7:=hid (Blk.new v7 33 #[vi vk x1,vi vk y1]);have S7:=hid (hb7.alloc hb7.size (.cells #[vi vk x1,vi vk y1] 33));have B7:=hid (B6.out.trans (S7.out.mono B6.out.size));have hc7: ∀j z,Z[j]? =some z→(v7.alloc (.cells #[vi vk x1,vi vk y1] 33)).cell? ⟨g,j,none⟩=some (tx z):=fun j z h=>(S7.out.cell (p:=⟨g,j,none⟩) hg6).trans (HC6.out j z h);have hg7:g<(v7.alloc (.cells #[vi vk x1,vi vk y1] 33)).heap.size:=Nat.lt_of_lt_of_le hg6 S7.out.size;have HC7:=hid hc7;clear hb7 hc7 KX KL N6 R6 S7 B6 HC6 hg6;go_upto_region 12 with (fail)
 generalize v7.alloc (.cells #[vi vk x1,vi vk y1] 33)=w8 at N7 R7 U7 B7 HC7 hg7⊢;generalize v7.heap.size=k7 at*;have KX:=hid (KM.out g c w8 hg7 HC7.out B7.out);go_wp2_with fail;(with_reducible refine(KX.out).mono ?_)
 rintro e8 v8 ⟨rfl,hb8⟩
 have N8:=hid ((N7.out.below hb8 N7.out.lt).alloc (.cells #[vi vk x2,vi vk y2] 33));have R8:=hid ((R7.out.below hb8 R7.out.lt).alloc (.cells #[vi vk x2,vi vk y2] 33));have U8:=hid ((U7.out.below hb8 U7.out.lt).alloc (.cells #[vi vk x2,vi vk y2] 33));have V8:=hid (Blk.new v8 33 #[vi vk x2,vi vk y2]);have S8:=hid (hb8.alloc hb8.size (.cells #[vi vk x2,vi vk y2] 33));have B8:=hid (B7.out.trans (S8.out.mono B7.out.size));have hc8: ∀j z,Z[j]? =some z→(v8.alloc (.cells #[vi vk x2,vi vk y2] 33)).cell? ⟨g,j,none⟩=some (tx z):=fun j z h=>(S8.out.cell (p:=⟨g,j,none⟩) hg7).trans (HC7.out j z h);have hg8:g<(v8.alloc (.cells #[vi vk x2,vi vk y2] 33)).heap.size:=Nat.lt_of_lt_of_le hg7 S8.out.size;have HC8:=hid hc8;clear hb8 hc8 KX KM N7 R7 U7 S8 B7 HC7 hg7;go_upto_region 13 with (fail)
 generalize v8.alloc (.cells #[vi vk x2,vi vk y2] 33)=w9 at N8 R8 U8 V8 B8 HC8 hg8⊢;generalize v8.heap.size=k8 at*;have KX:=hid (KN.out g c w9 hg8 HC8.out B8.out);go_wp2_with fail;(with_reducible refine(KX.out).mono ?_)
 rintro e9 v9 ⟨rfl,hb9⟩
 have N9:=hid ((N8.out.below hb9 N8.out.lt).alloc (.cells #[vi vk x3,vi vk y3] 33));have R9:=hid ((R8.out.below hb9 R8.out.lt).alloc (.cells #[vi vk x3,vi vk y3] 33));have U9:=hid ((U8.out.below hb9 U8.out.lt).alloc (.cells #[vi vk x3,vi vk y3] 33));have V9:=hid ((V8.out.below hb9 V8.out.lt).alloc (.cells #[vi vk x3,vi vk y3] 33));have W9:=hid (Blk.new v9 33 #[vi vk x3,vi vk y3]);have S9:=hid (hb9.alloc hb9.size (.cells #[vi vk x3,vi vk y3] 33));have B9:=hid (B8.out.trans (S9.out.mono B8.out.size));have hc9: ∀j z,Z[j]? =some z→(v9.alloc (.cells #[vi vk x3,vi vk y3] 33)).cell? ⟨g,j,none⟩=some (tx z):=fun j z h=>(S9.out.cell (p:=⟨g,j,none⟩) hg8).trans (HC8.out j z h);have hg9:g<(v9.alloc (.cells #[vi vk x3,vi vk y3] 33)).heap.size:=Nat.lt_of_lt_of_le hg8 S9.out.size;have HC9:=hid hc9;clear hb9 hc9 KX KN N8 R8 U8 V8 S9 B8 HC8 hg8;go_upto_region 14 with (fail)
 generalize v9.alloc (.cells #[vi vk x3,vi vk y3] 33)=w10 at N9 R9 U9 V9 W9 B9 HC9 hg9⊢;generalize v9.heap.size=k9 at*;clear HC9 hg9;have y0:=N9.out.cell 0;have u0:=U9.out.cell 0;have y1:=N9.out.cell 1;have u1:=U9.out.cell 1;go_wp2_with fail;(with_reducible refine(KI1.out _).mono ?_)
 rintro e10 w11 ⟨rfl,hb10⟩
 have N10:=hid (N9.out.below hb10 N9.out.lt);have R10:=hid (R9.out.below hb10 R9.out.lt);have U10:=hid (U9.out.below hb10 U9.out.lt);have V10:=hid (V9.out.below hb10 V9.out.lt);have W10:=hid (W9.out.below hb10 W9.out.lt);have B10:=hid (B9.out.trans (hb10.mono B9.out.size));clear hb10 KI1 N9 R9 U9 V9 W9 B9 y0 y1 u0 u1;have y0:=N10.out.cell 2;have u0:=V10.out.cell 0;have y1:=N10.out.cell 3;have u1:=V10.out.cell 1;go_wp2_with fail;(with_reducible refine(KI2.out _).mono ?_)
 rintro e11 w12 ⟨rfl,hb11⟩
 have N11:=hid (N10.out.below hb11 N10.out.lt);have R11:=hid (R10.out.below hb11 R10.out.lt);have U11:=hid (U10.out.below hb11 U10.out.lt);have V11:=hid (V10.out.below hb11 V10.out.lt);have W11:=hid (W10.out.below hb11 W10.out.lt);have B11:=hid (B10.out.trans (hb11.mono B10.out.size));clear hb11 KI2 N10 R10 U10 V10 W10 B10 y0 y1 u0 u1;have y0:=R11.out.cell 0;have u0:=W11.out.cell 0;have y1:=R11.out.cell 1;have u1:=W11.out.cell 1;go_wp2_with fail;(with_reducible refine(KI3.out _).mono ?_)
 rintro e12 w13 ⟨rfl,hb12⟩
 have N12:=hid (N11.out.below hb12 N11.out.lt);have R12:=hid (R11.out.below hb12 R11.out.lt);have U12:=hid (U11.out.below hb12 U11.out.lt);have V12:=hid (V11.out.below hb12 V11.out.lt);have W12:=hid (W11.out.below hb12 W11.out.lt);have B12:=hid (B11.out.trans (hb12.mono B11.out.size));clear hb12 KI3 N11 R11 U11 V11 W11 B11 y0 y1 u0 u1;go_wp2;go_ret;exact⟨rfl,B12.out⟩
theorem formsBounds_any(A:Option Addr)(n ca:Nat)(L:List Cl)(w:World)(hr:Reads w w.heap.size 3 A n (cvs L))(hn:n≤ca)(hca:ca≤maxLen)(hm:Mx w)(ht:Tab w):
 Calls Tryz.prog 6 #[.slice A n ca] w fun e w'=>e=.returned (.bool true)∧Below w.heap.size w w':=by
 by_cases hall:(n≤40∧vrB L=true)∧0<n
 · exact formsBounds_main A n ca L w hr hn hca hall.1.1 hall.1.2 hall.2 hm ht
 have KA:=hid (awake55 w hm ht);have RD: ∀W,Below w.heap.size w W→Reads W W.heap.size 3 A n (cvs L):=fun W hW=>(hr.below hW).more hW.size;by_cases h0:n=0
 · subst h0
   clear hr hm ht RD hall;go_enter func6,ntmps6;go_wp2_with fail;(with_reducible refine(KA.out).mono ?_)
   rintro e1 w1 ⟨rfl,hb1⟩
   go_wp2;go_ret;exact⟨rfl,hb1⟩
 have d0:((n:Int)==0)=false:=by simp;omega
 by_cases h40:n≤40
 · have hv:vrB L=false:=by
    cases h:vrB L with
    |false=>rfl
    |true=>exact absurd ⟨⟨h40,h⟩,om_⟩ hall
   have KV:=hid (fun(W:World) (h:Below w.heap.size w W)=>(show Calls Tryz.prog 17 #[.slice A n ca] W fun e w'=>e=.returned (.bool false)∧Below W.heap.size W w' by have h:=refVR_any A n ca L W (RD W h) hn hca;rw[rvrB_eq,hv] at h;exact h));have d2:decide ((40:Int)<(n:Int))=false:=decide_eq_false om_;have d3: ¬40<n:=by omega
   have d4:decide (40<n)=false:=decide_eq_false d3;clear hr hm ht RD hall;go_enter func6,ntmps6;go_wp2_with fail;(with_reducible refine(KA.out).mono ?_)
   rintro e1 w1 ⟨rfl,hb1⟩
   have B1:=hid hb1;clear hb1;go_wp2_with fail;(with_reducible refine(KV.out _ B1.out).mono ?_)
   rintro e2 w2 ⟨rfl,hb2⟩
   go_wp2;go_ret;exact⟨rfl,B1.out.trans (hb2.mono B1.out.size)⟩
 · have d2:decide ((40:Int)<(n:Int))=true:=decide_eq_true om_
   have d3:40<n:=by omega
   have d4:decide (40<n)=true:=decide_eq_true d3;clear hr hm ht RD hall;go_enter func6,ntmps6;go_wp2_with fail;(with_reducible refine(KA.out).mono ?_)
   rintro e1 w1 ⟨rfl,hb1⟩
   go_wp2;go_ret;exact⟨rfl,hb1⟩
end
end Go.Proofs.YtdeiofgddhbdaaaGreatDoor
