/- The walk of the reference's Fix of layer 55, over what its callees answer. -/
import Derived.Test.YtdeiofgddhbdaaaGreatDoorHIf
set_option linter.unusedSimpArgs false
set_option linter.unusedVariables false
set_option maxHeartbeats 4000000
set_option maxRecDepth 100000
open Go.RowKit
open Go.Lib (hid)
open Go.Proofs.Tryz
open Go.Value renaming int→vi
open Go.IntKind renaming i64→vk
namespace Go.Proofs.YtdeiofgddhbdaaaGreatDoor
theorem puIw{p:Prop}(h:p:=by simp only[Act.put,List.setIfInBounds_toArray,List.set_cons_zero,List.set_cons_succ]):p:=h
section
open Go.Shelf Frm
open Lib (decDigits)
theorem reads_tx2(w:World)(x y:Bs)(t:TypeId):Reads (w.alloc (.cells #[tx x,tx y] t)) (w.alloc (.cells #[tx x,tx y] t)).heap.size 1 (some ⟨w.heap.size,0,none⟩) 2 (txs [x,y]):=by
 refine⟨rfl,fun _=>⟨_,rfl,by simp,fun j u hu=>?_⟩⟩;match j,hu with
 |0,hu=>simp[txs] at hu;subst hu;simp[Addr.add]
 |1,hu=>simp[txs] at hu;subst hu;simp[Addr.add]
 |j+2,hu=>simp[txs] at hu
theorem own_two(w:World)(B:Nat)(x y:Bs)(hB:B≤w.heap.size):(w.alloc (.cells #[tx x,tx y] 9)).ownsRow B 9 1 (.slice (some ⟨w.heap.size,0,none⟩) 2 2) 2 (txs [x,y]):=
 own_new w B 9 1 2 w.heap.size #[tx x,tx y] rfl hB rfl dc_
def FrA(w:World)(g4 g5:Nat)(b0 b1 b2 b3 c0 c1 r0 r1:Int)(A:Option Addr)(n ca:Nat)(sv:Value)(k:Nat)(L:List Bs)(t5 x y:Bs)(a:Act)(M:Nat→Bool)(a':Act)(w':World):Prop:=
 ∃(v27 v28 v29 v30 v31 v32 v33 v34 v35 v6:Value),a'=((((((((((a.put (some 27) v27).put (some 28) v28).put (some 29) v29).put (some 30) v30).put (some 31) v31).put (some 32) v32).put (some 33) v33).put (some 34) v34).put (some 35) v35).put (some 6) v6)∧Below w.heap.size w w'∧
  Blk w' g4 46 #[vi vk b0,vi vk b1,vi vk b2,vi vk b3]∧
  Blk w' g5 50 #[vi vk c0,vi vk c1]∧
  (M 8=false→w'.ownsRow w.heap.size 9 1 sv k (txs L))∧
  (M 8=true→w'.ownsRow w.heap.size 9 1 v35 (k+2) (txs (L++[x,y])))∧
  (M 7=true→M 8=false→ ∃b,v34=.slice (some ⟨b,0,none⟩) 2 2∧Reads w' w'.heap.size 1 (some ⟨b,0,none⟩) 2 (txs [x,y]))∧
  (M 8=true→M 7=true∧M 0=true∧M 3=true∧M 6=true)∧
  (M 7=true→M 3=true∧M 6=true)∧
  (M 9=true→M 8=true)∧
  (M 9=true→v6=v35)∧
  (M 9=false→v6=sv)∧
  (M 0=true→v27=sv)∧
  (M 1=true→v28=.pointer (some ⟨g4,0,none⟩))∧
  (M 2=true→v29=.agg #[vi vk b0,vi vk b1])∧
  (M 3=true→v30=tx x)∧
  (M 4=true→v31=.pointer (some ⟨g4,2,none⟩))∧
  (M 5=true→v32=.agg #[vi vk b2,vi vk b3])∧
  (M 6=true→v33=tx y)
theorem FrA.start{w W:World}{g4 g5:Nat}{b0 b1 b2 b3 c0 c1 r0 r1:Int}{A:Option Addr}{n ca:Nat}{sv:Value}{k:Nat}{L:List Bs}{t5 x y:Bs}(a:Act)(hB:Below w.heap.size w W)(hP:Blk W g4 46 #[vi vk b0,vi vk b1,vi vk b2,vi vk b3])(hQ:Blk W g5 50 #[vi vk c0,vi vk c1])(hO:W.ownsRow w.heap.size 9 1 sv k (txs L))(hz:a.tmps.getD 6 undef=sv):FrA w g4 g5 b0 b1 b2 b3 c0 c1 r0 r1 A n ca sv k L t5 x y a (fun _=>false) a W.drew:=
 ⟨_,_,_,_,_,_,_,_,_,_,by rw[putQ_self a 27,putQ_self a 28,putQ_self a 29,putQ_self a 30,putQ_self a 31,putQ_self a 32,putQ_self a 33,putQ_self a 34,putQ_self a 35,putQ_self a 6],bl_drew hB,hP.below (bl_drew (Below.refl _ _)) hP.lt,hQ.below (bl_drew (Below.refl _ _)) hQ.lt,fun _=>own_bl hO (bl_drew (Below.refl _ _)) (Nat.le_refl _),nofun,nofun,nofun,nofun,nofun,nofun,fun _=>hz,nofun,nofun,nofun,nofun,nofun,nofun,nofun⟩
def FrB(w:World)(g4 g5:Nat)(b0 b1 b2 b3 c0 c1 r0 r1:Int)(A:Option Addr)(n ca:Nat)(sv:Value)(k:Nat)(L:List Bs)(t5 x y:Bs)(a:Act)(M:Nat→Bool)(a':Act)(w':World):Prop:=
 ∃(v36 v37 v38 v39 v40 v41 v42 v43 v44 v45 v2 v3:Value),a'=((((((((((((a.put (some 36) v36).put (some 37) v37).put (some 38) v38).put (some 39) v39).put (some 40) v40).put (some 41) v41).put (some 42) v42).put (some 43) v43).put (some 44) v44).put (some 45) v45).put (some 2) v2).put (some 3) v3)∧Below w.heap.size w w'∧
  Blk w' g4 46 #[vi vk b0,vi vk b1,vi vk b2,vi vk b3]∧
  Blk w' g5 50 #[vi vk c0,vi vk c1]∧
  (M 9=false→w'.ownsRow w.heap.size 9 1 sv k (txs L))∧
  (M 9=true→w'.ownsRow w.heap.size 9 1 v45 (k+2) (txs (L++[x,y])))∧
  (M 8=true→M 9=false→ ∃b,v44=.slice (some ⟨b,0,none⟩) 2 2∧Reads w' w'.heap.size 1 (some ⟨b,0,none⟩) 2 (txs [x,y]))∧
  (M 9=true→M 8=true∧M 0=true∧M 2=true∧M 6=true∧M 7=true)∧
  (M 8=true→M 2=true∧M 6=true∧M 7=true)∧
  (M 10=true→M 9=true)∧
  (M 10=true→v2=v45)∧
  (M 3=true→M 2=true)∧
  (M 7=true→M 6=true)∧
  (M 0=true→v36=sv)∧
  (M 1=true→v37=.agg #[vi vk c0,vi vk c1])∧
  (M 2=true→v38=tx t5)∧
  (M 3=true→v39=tx x)∧
  (M 4=true→v40=.slice A n ca)∧
  (M 5=true→v41=.agg #[vi vk c0,vi vk c1])∧
  (M 6=true→v42=.agg #[vi vk r0,vi vk r1])∧
  (M 7=true→v43=tx y)∧
  (M 11=true→v3=vi vk 0)
theorem FrB.start{w W:World}{g4 g5:Nat}{b0 b1 b2 b3 c0 c1 r0 r1:Int}{A:Option Addr}{n ca:Nat}{sv:Value}{k:Nat}{L:List Bs}{t5 x y:Bs}(a:Act)(hB:Below w.heap.size w W)(hP:Blk W g4 46 #[vi vk b0,vi vk b1,vi vk b2,vi vk b3])(hQ:Blk W g5 50 #[vi vk c0,vi vk c1])(hO:W.ownsRow w.heap.size 9 1 sv k (txs L)):FrB w g4 g5 b0 b1 b2 b3 c0 c1 r0 r1 A n ca sv k L t5 x y a (fun _=>false) a W.drew:=
 ⟨_,_,_,_,_,_,_,_,_,_,_,_,by rw[putQ_self a 36,putQ_self a 37,putQ_self a 38,putQ_self a 39,putQ_self a 40,putQ_self a 41,putQ_self a 42,putQ_self a 43,putQ_self a 44,putQ_self a 45,putQ_self a 2,putQ_self a 3],bl_drew hB,hP.below (bl_drew (Below.refl _ _)) hP.lt,hQ.below (bl_drew (Below.refl _ _)) hQ.lt,fun _=>own_bl hO (bl_drew (Below.refl _ _)) (Nat.le_refl _),nofun,nofun,nofun,nofun,nofun,nofun,nofun,nofun,nofun,nofun,nofun,nofun,nofun,nofun,nofun,nofun,nofun⟩
theorem rFix_num(A:Option Addr)(n ca m:Nat)(b0 b1 b2 b3 c0 c1 r0 r1:Int)(w:World)(hn:n≤4000)(hn0:0<n)(hm:m≤4000)
 (KV: ∀W,Below w.heap.size w W→Calls Tryz.prog 17 #[.slice A n ca] W fun e' w'=>e'=.returned (.bool true)∧Below W.heap.size W w')
 (KB: ∀W,Below w.heap.size w W→Calls Tryz.prog 29 #[.slice A n ca] W fun e' w'=>e'=.returned (.agg #[vi vk b0,vi vk b1,vi vk b2,vi vk b3])∧Below W.heap.size W w')
 (KQ: ∀W,Below w.heap.size w W→Calls Tryz.prog 32 #[.slice A n ca] W fun e' w'=>(∃Q c,e'=.returned (.slice Q m c))∧Below W.heap.size W w')
 (KC: ∀W,Below w.heap.size w W→Calls Tryz.prog 30 #[.slice A n ca] W fun e' w'=>e'=.returned (.agg #[vi vk c0,vi vk c1])∧Below W.heap.size W w')
 (KR: ∀W,Below w.heap.size w W→Calls Tryz.prog 35 #[.slice A n ca,.agg #[vi vk c0,vi vk c1]] W fun e' w'=>e'=.returned (.agg #[vi vk r0,vi vk r1])∧Below W.heap.size W w')
 (hb:b0≤b1∧b2≤b3∧r0≤r1∧ -90000000≤b0∧ -90000000≤b2∧ -90000000≤r0∧b1≤90000000∧b3≤90000000∧r1≤90000000)
 (hc0: -10800000≤c0∧c0≤10800000) (hc1: -10800000≤c1∧c1≤10800000):
 Calls Tryz.prog 9 #[.slice A n ca] w (RetLs (fixN n m b0 b1 b2 b3 c0 c1 r0 r1) w):=by
 replace KV:=hid KV
 replace KB:=hid KB
 replace KQ:=hid KQ
 replace KC:=hid KC
 replace KR:=hid KR
 have KD:=hid (fun(k:Nat) (W:World) (hk:k≤4000)=>decimal_any 7 k W om_ dc_);have KN1:=fun W=>rnumber_any wLat b0 b1 W hb.1 om_ om_ (by simp);have KN2:=fun W=>rnumber_any wLon b2 b3 W hb.2.1 om_ om_ (by simp);have KN3:=fun W=>rnumber_any wRad r0 r1 W hb.2.2.1 om_ om_ (by simp);have KT:=fun W=>rText08_any c0 c1 W hc0 hc1;have ld1:=dd_len 9 n om_;have ld2:=dd_len 9 m om_;have lp:(ptL c0 c1).length≤100:=by
  have s1:=side_len c0 [78] [83] om_ (by simp) (by simp);have s2:=side_len c1 [69] [87] om_ (by simp) (by simp);unfold ptL;rw[List.length_append,List.length_cons];omega
 obtain⟨LL,hLL⟩: ∃LL,fixN n m b0 b1 b2 b3 c0 c1 r0 r1=LL:=⟨_,rfl⟩;rw[hLL];unfold fixN at hLL;generalize wLat++32::(printL b0 b1).1=l3 at KN1 hLL;generalize wLon++32::(printL b2 b3).1=l4 at KN2 hLL;generalize wRad++32::(printL r0 r1).1=l6 at KN3 hLL;generalize ptL c0 c1=t5 at KT lp hLL;obtain⟨t1,ht1⟩: ∃t,decDigits n=t:=⟨_,rfl⟩;obtain⟨t2,ht2⟩: ∃t,decDigits m=t:=⟨_,rfl⟩;rw[ht1] at ld1 hLL;rw[ht2] at ld2 hLL;have ha1:=tx_add [99,101,108,108,115,32] t1 (by simp) om_;have ha2:=tx_add [112,97,114,116,115,32] t2 (by simp) om_;have ha5:=tx_add [99,101,110,116,101,114,32] t5 (by simp) om_;rw[show[99,101,108,108,115,32]++t1=wCells++32::t1 from rfl] at ha1;rw[show[112,97,114,116,115,32]++t2=wParts++32::t2 from rfl] at ha2;rw[show[99,101,110,116,101,114,32]++t5=wCen++32::t5 from rfl] at ha5;generalize wCells++32::t1=l1 at ha1 hLL;generalize wParts++32::t2=l2 at ha2 hLL;generalize wCen++32::t5=l5 at ha5 hLL;have HLL:Hid (([l1,l2]++[l3,l4])++[l5,l6]=LL):=hid (by rw[←hLL];rfl);replace KN1:=hid KN1
 replace KN2:=hid KN2
 replace KN3:=hid KN3
 replace KT:=hid KT
 have HA:=hid ha5;have HT1:=hid ht1;have HT2:=hid ht2;have hne:((n:Int)==0)=false:=by simp;omega
 have hne2: ¬n=0:=by omega
 obtain⟨i0,hi0,hz0,hz1,hzb⟩:=info_parts Tryz.infoStr;clear hLL hb hc0 hc1 lp ld1 ld2 ht1 ht2 ha5;go_enter func9,ntmps9;go_wp2_with fail;(with_reducible refine((KV.out _ (Below.refl _ _))).mono ?_)
 rintro e1 w1 ⟨rfl,hb1⟩
 have B1:=hid hb1;clear hb1 KV;go_wp2_with fail;(with_reducible refine((KB.out _ B1.out)).mono ?_)
 rintro e2 w2 ⟨rfl,hb2⟩
 have P2:=hid (Blk.new w2 46 #[vi vk b0,vi vk b1,vi vk b2,vi vk b3]);have B2:=hid ((B1.out.trans (hb2.mono B1.out.size)).alloc (by have:=B1.out.size;have:=hb2.size;omega) (.cells #[vi vk b0,vi vk b1,vi vk b2,vi vk b3] 46));clear hb2 KB B1;go_wp2_with fail;(with_reducible refine((KC.out _ B2.out)).mono ?_)
 rintro e3 w3 ⟨rfl,hb3⟩
 have B3:=hid ((B2.out.trans (hb3.mono B2.out.size)).alloc (by have:=B2.out.size;have:=hb3.size;omega) (.cells #[vi vk c0,vi vk c1] 50));have P3:=hid ((P2.out.below hb3 P2.out.lt).alloc (.cells #[vi vk c0,vi vk c1] 50));have Q3:=hid (Blk.new w3 50 #[vi vk c0,vi vk c1]);clear hb3 KC B2 P2;generalize w2.heap.size=g4 at*;go_upto_region 7 with (fail)
 generalize w3.alloc (.cells #[vi vk c0,vi vk c1] 50)=w4 at B3 P3 Q3⊢;generalize w3.heap.size=g5 at*;have K9:=KD.out n w4 hn;rw[HT1.out] at K9;replace K9:=hid K9
 go_wp2_with fail;(with_reducible refine(K9.out).mono ?_)
 rintro e5 w5 ⟨rfl,hb5⟩
 have B5:=hid (B3.out.trans (hb5.mono B3.out.size));have P5:=hid (P3.out.below hb5 P3.out.lt);have Q5:=hid (Q3.out.below hb5 Q3.out.lt);clear hb5 B3 P3 Q3 K9;go_wp2_with fail;(with_reducible refine((KQ.out _ B5.out)).mono ?_)
 rintro e6 w6 ⟨⟨qa,qc,rfl⟩,hb6⟩
 have B6:=hid (B5.out.trans (hb6.mono B5.out.size));have P6:=hid (P5.out.below hb6 P5.out.lt);have Q6:=hid (Q5.out.below hb6 Q5.out.lt);clear hb6 B5 P5 Q5 KQ;have K9:=KD.out m w6 hm;rw[HT2.out] at K9;replace K9:=hid K9
 go_wp2_with fail;(with_reducible refine(K9.out).mono ?_)
 rintro e7 w7 ⟨rfl,hb7⟩
 have B7:=hid ((B6.out.trans (hb7.mono B6.out.size)).alloc (by have:=B6.out.size;have:=hb7.size;omega) (.cells #[tx l1,tx l2] 9));have P7:=hid ((P6.out.below hb7 P6.out.lt).alloc (.cells #[tx l1,tx l2] 9));have Q7:=hid ((Q6.out.below hb7 Q6.out.lt).alloc (.cells #[tx l1,tx l2] 9));have O7:=hid (own_two w7 w.heap.size l1 l2 (by have:=B6.out.size;have:=hb7.size;omega));clear hb7 B6 P6 Q6 K9 KD;go_upto_region 8 with (fail)
 generalize w7.alloc (.cells #[tx l1,tx l2] 9)=w8 at B7 P7 Q7 O7⊢;generalize w7.heap.size=g7 at*;clear hn hm hn0 ha1 ha2 hne hne2 HT1 HT2;refine wp_region_inv3 (by kernel_rfl) (FrA w g4 g5 b0 b1 b2 b3 c0 c1 r0 r1 A n ca (.slice (some ⟨g7,0,none⟩) 2 2) 2 [l1,l2] t5 l3 l4) (waits_bind (by kernel_rfl)) ?start ?step ?fin
 case start=>exact FrA.start _ B7.out P7.out Q7.out O7.out rfl
 case step=>
  clear B7 P7 Q7 O7;rintro M i o a1' w' ho hL haf ⟨v27,v28,v29,v30,v31,v32,v33,v34,v35,v6,rfl,hB,hP,hQ,hO,hN,hR,hU,hW,hX,hY,hZ,e0,e1,e2,e3,e4,e5,e6⟩
  have HB:=hid hB;have HP:=hid hP;have HQ:=hid hQ;have HO:=hid hO;have HN:=hid hN;have HR:=hid hR;have HU:=hid hU;have HW:=hid hW;have HX:=hid hX;have HY:=hid hY;have HZ:=hid hZ;have E0:=hid e0;have E1:=hid e1;have E2:=hid e2;have E3:=hid e3;have E4:=hid e4;have E5:=hid e5;have E6:=hid e6;clear hB hP hQ hO hN hR hU hW hX hY hZ e0 e1 e2 e3 e4 e5 e6;rcases i with _|_|_|_|_|_|_|_|_|_|i
  all_goals (simp at ho;try subst ho)
  all_goals (try simp[Region.binds] at haf)
  · have nap:M 8=false:=by cases h8:M 8 with|false=>rfl|true=>exact absurd (HU.out h8).2.1 (by simp[hL])
    have nas:M 9=false:=by cases h8:M 9 with|false=>rfl|true=>exact absurd (HX.out h8) (by simp[nap])
    obtain rfl:=(HZ.out nas).symm;go_wp2;unfold FrA;exact⟨((.slice (some ⟨g7,0,none⟩) 2 2)),v28,v29,v30,v31,v32,v33,v34,v35,(.slice (some ⟨g7,0,none⟩) 2 2),puIw,HB.out,HP.out,HQ.out,kn HO,kp HN,km HR,fun h=>(by have q:=HU.out (by simpa [mkd] using h);simp[mkd,q]),fun h=>(by have q:=HW.out (by simpa [mkd] using h);simp[mkd,q]),fun h=>(by have q:=HX.out (by simpa [mkd] using h);simp[mkd,q]),kq HY,rf_,rf_,kq E1,kq E2,kq E3,kq E4,kq E5,kq E6⟩
  · go_wp2
    unfold FrA;exact⟨v27,(.pointer (some ⟨g4,0,none⟩)),v29,v30,v31,v32,v33,v34,v35,v6,puIw,HB.out,HP.out,HQ.out,kn HO,kp HN,km HR,fun h=>(by have q:=HU.out (by simpa [mkd] using h);simp[mkd,q]),fun h=>(by have q:=HW.out (by simpa [mkd] using h);simp[mkd,q]),fun h=>(by have q:=HX.out (by simpa [mkd] using h);simp[mkd,q]),kq HY,kn HZ,kq E0,rf_,kq E2,kq E3,kq E4,kq E5,kq E6⟩
  · obtain rfl:=(E1.out (by simp[haf])).symm
    have y0:=HP.out.cell 0;have y1:=HP.out.cell 1;go_wp2;unfold FrA;exact⟨v27,(.pointer (some ⟨g4,0,none⟩)),(.agg #[vi vk b0,vi vk b1]),v30,v31,v32,v33,v34,v35,v6,puIw,HB.out,HP.out,HQ.out,kn HO,kp HN,km HR,fun h=>(by have q:=HU.out (by simpa [mkd] using h);simp[mkd,q]),fun h=>(by have q:=HW.out (by simpa [mkd] using h);simp[mkd,q]),fun h=>(by have q:=HX.out (by simpa [mkd] using h);simp[mkd,q]),kq HY,kn HZ,kq E0,rf_,rf_,kq E3,kq E4,kq E5,kq E6⟩
  · obtain rfl:=(E2.out (by simp[haf])).symm
    have nap:M 8=false:=by cases h8:M 8 with|false=>rfl|true=>exact absurd (HU.out h8) (by simp[hL])
    have nbs:M 7=false:=by cases h8:M 7 with|false=>rfl|true=>exact absurd (HW.out h8) (by simp[hL])
    have nas:M 9=false:=by cases h8:M 9 with|false=>rfl|true=>exact absurd (HX.out h8) (by simp[nap])
    have K9:=hid (KN1.out w');go_wp2_with fail;(with_reducible refine(K9.out).mono ?_)
    rintro e9 w9 ⟨rfl,hb9⟩
    have lt9:=hb9.size;have hO:=HO.out nap;go_wp2;unfold FrA;exact⟨v27,v28,(.agg #[vi vk b0,vi vk b1]),(tx l3),v31,v32,v33,v34,v35,v6,puIw,HB.out.trans (hb9.mono HB.out.size),HP.out.below hb9 HP.out.lt,HQ.out.below hb9 HQ.out.lt,fun _=>own_bl hO hb9 (Nat.le_refl _),fun h=>absurd h (by simp[mkd,nap]),fun h=>absurd h (by simp[mkd,nbs]),fun h=>absurd h (by simp[mkd,nap]),fun h=>absurd h (by simp[mkd,nbs]),fun h=>absurd h (by simp[mkd,nas]),fun h=>absurd h (by simp[mkd,nas]),kn HZ,kq E0,kq E1,rf_,rf_,kq E4,kq E5,kq E6⟩
  · go_wp2
    unfold FrA;exact⟨v27,v28,v29,v30,(.pointer (some ⟨g4,2,none⟩)),v32,v33,v34,v35,v6,puIw,HB.out,HP.out,HQ.out,kn HO,kp HN,km HR,fun h=>(by have q:=HU.out (by simpa [mkd] using h);simp[mkd,q]),fun h=>(by have q:=HW.out (by simpa [mkd] using h);simp[mkd,q]),fun h=>(by have q:=HX.out (by simpa [mkd] using h);simp[mkd,q]),kq HY,kn HZ,kq E0,kq E1,kq E2,kq E3,rf_,kq E5,kq E6⟩
  · obtain rfl:=(E4.out (by simp[haf])).symm
    have y0:=HP.out.cell 2;have y1:=HP.out.cell 3;go_wp2;unfold FrA;exact⟨v27,v28,v29,v30,(.pointer (some ⟨g4,2,none⟩)),(.agg #[vi vk b2,vi vk b3]),v33,v34,v35,v6,puIw,HB.out,HP.out,HQ.out,kn HO,kp HN,km HR,fun h=>(by have q:=HU.out (by simpa [mkd] using h);simp[mkd,q]),fun h=>(by have q:=HW.out (by simpa [mkd] using h);simp[mkd,q]),fun h=>(by have q:=HX.out (by simpa [mkd] using h);simp[mkd,q]),kq HY,kn HZ,kq E0,kq E1,kq E2,kq E3,rf_,rf_,kq E6⟩
  · obtain rfl:=(E5.out (by simp[haf])).symm
    have nap:M 8=false:=by cases h8:M 8 with|false=>rfl|true=>exact absurd (HU.out h8) (by simp[hL])
    have nbs:M 7=false:=by cases h8:M 7 with|false=>rfl|true=>exact absurd (HW.out h8) (by simp[hL])
    have nas:M 9=false:=by cases h8:M 9 with|false=>rfl|true=>exact absurd (HX.out h8) (by simp[nap])
    have K9:=hid (KN2.out w');go_wp2_with fail;(with_reducible refine(K9.out).mono ?_)
    rintro e9 w9 ⟨rfl,hb9⟩
    have lt9:=hb9.size;have hO:=HO.out nap;go_wp2;unfold FrA;exact⟨v27,v28,v29,v30,v31,(.agg #[vi vk b2,vi vk b3]),(tx l4),v34,v35,v6,puIw,HB.out.trans (hb9.mono HB.out.size),HP.out.below hb9 HP.out.lt,HQ.out.below hb9 HQ.out.lt,fun _=>own_bl hO hb9 (Nat.le_refl _),fun h=>absurd h (by simp[mkd,nap]),fun h=>absurd h (by simp[mkd,nbs]),fun h=>absurd h (by simp[mkd,nap]),fun h=>absurd h (by simp[mkd,nbs]),fun h=>absurd h (by simp[mkd,nas]),fun h=>absurd h (by simp[mkd,nas]),kn HZ,kq E0,kq E1,kq E2,kq E3,kq E4,rf_,rf_⟩
  · obtain rfl:=(E3.out (by simp[haf])).symm
    obtain rfl:=(E6.out (by simp[haf])).symm;have nap:M 8=false:=by cases h8:M 8 with|false=>rfl|true=>exact absurd (HU.out h8).1 (by simp[hL])
    have nas:M 9=false:=by cases h8:M 9 with|false=>rfl|true=>exact absurd (HX.out h8) (by simp[nap])
    have hO:=HO.out nap;have mc:M 3=true∧M 6=true:=by simp[haf]
    have hBs:=HB.out.size;go_wp2;unfold FrA;exact⟨v27,v28,v29,(tx l3),v31,v32,(tx l4),(.slice (some ⟨w'.heap.size,0,none⟩) 2 2),v35,v6,puIw,HB.out.alloc om_ _,HP.out.alloc _,HQ.out.alloc _,fun _=>own_bl hO (bl_alloc _ _) (Nat.le_refl _),fun h=>absurd h (by simp[mkd,nap]),fun _ _=>⟨_,rfl,reads_tx2 w' _ _ _⟩,fun h=>absurd h (by simp[mkd,nap]),fun _=>by simp[mkd,mc],fun h=>absurd h (by simp[mkd,nas]),fun h=>absurd h (by simp[mkd,nas]),kn HZ,kq E0,kq E1,kq E2,rf_,kq E4,kq E5,rf_⟩
  · obtain rfl:=(E0.out (by simp[haf])).symm
    have mb:M 7=true:=by simp[haf]
    have m0:M 0=true:=by simp[haf]
    have mw:=HW.out mb;have nas:M 9=false:=by cases h8:M 9 with|false=>rfl|true=>exact absurd (HX.out h8) (by simp[hL])
    have hO:=HO.out hL;have hBs:=HB.out.size;obtain⟨b7,rfl,hR⟩:=HR.out mb hL;have hne:=own_blk_ne hO HP.out dc_;have hne2:=own_blk_ne hO HQ.out dc_;simp only[Act.put,List.setIfInBounds_toArray,List.set_cons_zero,List.set_cons_succ];refine wpList_append_any _ rfl (.tmp 27) (.tmp 34) _ rfl w.heap.size 9 i0 _ 1 16 underlying24 hi0 hz0 hz1 hzb rfl dc_ (.slice (some ⟨g7,0,none⟩) 2 2) 2 (txs [l1,l2]) (by simp[Act.eval]) hO w'.heap.size (some ⟨b7,0,none⟩) 2 2 (txs [l3,l4]) (by simp[Act.eval]) hR (txs_one _) (by simp only[maxLen];omega) om_ om_ ?_;intro u9 w9 hown9 hg9 hob9;have hB9:Below w.heap.size w w9:=HB.out.grown hg9 om_ (fun k hk=>own_base hO k hk);go_wp2;unfold FrA;exact⟨((.slice (some ⟨g7,0,none⟩) 2 2)),v28,v29,v30,v31,v32,v33,(.slice (some ⟨b7,0,none⟩) 2 2),u9,v6,puIw,hB9,HP.out.grown hg9 (fun q=>hne q.symm),HQ.out.grown hg9 (fun q=>hne2 q.symm),fun h=>absurd h (by simp[mkd]),fun _=>by rw[txs_app];exact hown9,fun _ h=>absurd h (by simp[mkd]),fun _=>by simp[mkd,mb,mw,m0],fun h=>(by have q:=HW.out (by simpa [mkd] using h);simp[mkd,q]),fun h=>absurd h (by simp[mkd,nas]),fun h=>absurd h (by simp[mkd,nas]),kn HZ,rf_,kq E1,kq E2,kq E3,kq E4,kq E5,kq E6⟩
  · have ma:M 8=true:=by simp[haf]
    go_wp2;unfold FrA;exact⟨v27,v28,v29,v30,v31,v32,v33,v34,v35,v35,puIw,HB.out,HP.out,HQ.out,kn HO,kp HN,km HR,fun h=>(by have q:=HU.out (by simpa [mkd] using h);simp[mkd,q]),fun h=>(by have q:=HW.out (by simpa [mkd] using h);simp[mkd,q]),fun _=>by simp[mkd,ma],rf_,fun h=>absurd h (by simp[mkd]),kq E0,kq E1,kq E2,kq E3,kq E4,kq E5,kq E6⟩
 case fin=>
  rintro M a1' w' hall ⟨v27,v28,v29,v30,v31,v32,v33,v34,v35,v6,rfl,hB,hP,hQ,hO,hN,hR,hU,hW,hX,hY,hZ,e0,e1,e2,e3,e4,e5,e6⟩
  simp only[Act.put,List.setIfInBounds_toArray,List.set_cons_zero,List.set_cons_succ];obtain rfl:=hY (hall 9 dc_);have B9:=hid hB;have P9:=hid hP;have Q9:=hid hQ;have O9:=hid (hN (hall 8 dc_));clear hB hP hQ hO hN hR hU hW hX hY hZ e0 e1 e2 e3 e4 e5 e6;go_upto_region 9 with (fail)
  generalize v6=sv at*;refine wp_region_inv3 (by kernel_rfl) (FrB w g4 g5 b0 b1 b2 b3 c0 c1 r0 r1 A n ca sv 4 ([l1,l2]++[l3,l4]) t5 l5 l6) (waits_bind (by kernel_rfl)) ?start ?step ?fin
  case start=>exact FrB.start _ B9.out P9.out Q9.out O9.out
  case step=>
   clear B9 P9 Q9 O9;rintro M i o a1' w' ho hL haf ⟨v36,v37,v38,v39,v40,v41,v42,v43,v44,v45,v2,v3,rfl,hB,hP,hQ,hO,hN,hR,hU,hW,hX,hY,hC0,hC1,e0,e1,e2,e3,e4,e5,e6,e7,e11⟩
   have HB:=hid hB;have HP:=hid hP;have HQ:=hid hQ;have HO:=hid hO;have HN:=hid hN;have HR:=hid hR;have HU:=hid hU;have HW:=hid hW;have HX:=hid hX;have HY:=hid hY;have HC0:=hid hC0;have HC1:=hid hC1;have E0:=hid e0;have E1:=hid e1;have E2:=hid e2;have E3:=hid e3;have E4:=hid e4;have E5:=hid e5;have E6:=hid e6;have E7:=hid e7;have E11:=hid e11;clear hB hP hQ hO hN hR hU hW hX hY hC0 hC1 e0 e1 e2 e3 e4 e5 e6 e7 e11;rcases i with _|_|_|_|_|_|_|_|_|_|_|_|i
   all_goals (simp at ho;try subst ho)
   all_goals (try simp[Region.binds] at haf)
   · go_wp2
     unfold FrB;exact⟨(sv),v37,v38,v39,v40,v41,v42,v43,v44,v45,v2,v3,puIw,HB.out,HP.out,HQ.out,kn HO,kp HN,km HR,fun h=>(by have q:=HU.out (by simpa [mkd] using h);simp[mkd,q]),fun h=>(by have q:=HW.out (by simpa [mkd] using h);simp[mkd,q]),fun h=>(by have q:=HX.out (by simpa [mkd] using h);simp[mkd,q]),kq HY,fun h=>(by have q:=HC0.out (by simpa [mkd] using h);simp[mkd,q]),fun h=>(by have q:=HC1.out (by simpa [mkd] using h);simp[mkd,q]),rf_,kq E1,kq E2,kq E3,kq E4,kq E5,kq E6,kq E7,kq E11⟩
   · have y0:=HQ.out.cell 0
     have y1:=HQ.out.cell 1;go_wp2;unfold FrB;exact⟨v36,(.agg #[vi vk c0,vi vk c1]),v38,v39,v40,v41,v42,v43,v44,v45,v2,v3,puIw,HB.out,HP.out,HQ.out,kn HO,kp HN,km HR,fun h=>(by have q:=HU.out (by simpa [mkd] using h);simp[mkd,q]),fun h=>(by have q:=HW.out (by simpa [mkd] using h);simp[mkd,q]),fun h=>(by have q:=HX.out (by simpa [mkd] using h);simp[mkd,q]),kq HY,fun h=>(by have q:=HC0.out (by simpa [mkd] using h);simp[mkd,q]),fun h=>(by have q:=HC1.out (by simpa [mkd] using h);simp[mkd,q]),kq E0,rf_,kq E2,kq E3,kq E4,kq E5,kq E6,kq E7,kq E11⟩
   · obtain rfl:=(E1.out (by simp[haf])).symm
     have nap:M 9=false:=by cases h8:M 9 with|false=>rfl|true=>exact absurd (HU.out h8) (by simp[hL])
     have nbs:M 8=false:=by cases h8:M 8 with|false=>rfl|true=>exact absurd (HW.out h8) (by simp[hL])
     have nas:M 10=false:=by cases h8:M 10 with|false=>rfl|true=>exact absurd (HX.out h8) (by simp[nap])
     have K9:=hid (KT.out w');go_wp2_with fail;(with_reducible refine(K9.out).mono ?_)
     rintro e9 w9 ⟨rfl,hb9⟩
     have lt9:=hb9.size;have hO:=HO.out nap;go_wp2;unfold FrB;exact⟨v36,(.agg #[vi vk c0,vi vk c1]),(tx t5),v39,v40,v41,v42,v43,v44,v45,v2,v3,puIw,HB.out.trans (hb9.mono HB.out.size),HP.out.below hb9 HP.out.lt,HQ.out.below hb9 HQ.out.lt,fun _=>own_bl hO hb9 (Nat.le_refl _),fun h=>absurd h (by simp[mkd,nap]),fun h=>absurd h (by simp[mkd,nbs]),fun h=>absurd h (by simp[mkd,nap]),fun h=>absurd h (by simp[mkd,nbs]),fun h=>absurd h (by simp[mkd,nas]),fun h=>absurd h (by simp[mkd,nas]),fun h=>(by have q:=HC0.out (by simpa [mkd] using h);simp[mkd,q]),fun h=>(by have q:=HC1.out (by simpa [mkd] using h);simp[mkd,q]),kq E0,rf_,rf_,kq E3,kq E4,kq E5,kq E6,kq E7,kq E11⟩
   · obtain rfl:=(E2.out (by simp[haf])).symm
     have ha:=HA.out;go_wp2;unfold FrB;exact⟨v36,v37,(tx t5),(tx l5),v40,v41,v42,v43,v44,v45,v2,v3,puIw,HB.out,HP.out,HQ.out,kn HO,kp HN,km HR,fun h=>(by have q:=HU.out (by simpa [mkd] using h);simp[mkd,q]),fun h=>(by have q:=HW.out (by simpa [mkd] using h);simp[mkd,q]),fun h=>(by have q:=HX.out (by simpa [mkd] using h);simp[mkd,q]),kq HY,fun _=>by simp[mkd,show M 2=true by simp[haf]],fun h=>(by have q:=HC1.out (by simpa [mkd] using h);simp[mkd,q]),kq E0,kq E1,rf_,rf_,kq E4,kq E5,kq E6,kq E7,kq E11⟩
   · go_wp2
     unfold FrB;exact⟨v36,v37,v38,v39,(.slice A n ca),v41,v42,v43,v44,v45,v2,v3,puIw,HB.out,HP.out,HQ.out,kn HO,kp HN,km HR,fun h=>(by have q:=HU.out (by simpa [mkd] using h);simp[mkd,q]),fun h=>(by have q:=HW.out (by simpa [mkd] using h);simp[mkd,q]),fun h=>(by have q:=HX.out (by simpa [mkd] using h);simp[mkd,q]),kq HY,fun h=>(by have q:=HC0.out (by simpa [mkd] using h);simp[mkd,q]),fun h=>(by have q:=HC1.out (by simpa [mkd] using h);simp[mkd,q]),kq E0,kq E1,kq E2,kq E3,rf_,kq E5,kq E6,kq E7,kq E11⟩
   · have y0:=HQ.out.cell 0
     have y1:=HQ.out.cell 1;go_wp2;unfold FrB;exact⟨v36,v37,v38,v39,v40,(.agg #[vi vk c0,vi vk c1]),v42,v43,v44,v45,v2,v3,puIw,HB.out,HP.out,HQ.out,kn HO,kp HN,km HR,fun h=>(by have q:=HU.out (by simpa [mkd] using h);simp[mkd,q]),fun h=>(by have q:=HW.out (by simpa [mkd] using h);simp[mkd,q]),fun h=>(by have q:=HX.out (by simpa [mkd] using h);simp[mkd,q]),kq HY,fun h=>(by have q:=HC0.out (by simpa [mkd] using h);simp[mkd,q]),fun h=>(by have q:=HC1.out (by simpa [mkd] using h);simp[mkd,q]),kq E0,kq E1,kq E2,kq E3,kq E4,rf_,kq E6,kq E7,kq E11⟩
   · obtain rfl:=(E4.out (by simp[haf])).symm
     obtain rfl:=(E5.out (by simp[haf])).symm;have nap:M 9=false:=by cases h8:M 9 with|false=>rfl|true=>exact absurd (HU.out h8) (by simp[hL])
     have nbs:M 8=false:=by cases h8:M 8 with|false=>rfl|true=>exact absurd (HW.out h8) (by simp[hL])
     have nas:M 10=false:=by cases h8:M 10 with|false=>rfl|true=>exact absurd (HX.out h8) (by simp[nap])
     have K9:=hid (KR.out w' HB.out);go_wp2_with fail;(with_reducible refine(K9.out).mono ?_)
     rintro e9 w9 ⟨rfl,hb9⟩
     have lt9:=hb9.size;have hO:=HO.out nap;go_wp2;unfold FrB;exact⟨v36,v37,v38,v39,(.slice A n ca),(.agg #[vi vk c0,vi vk c1]),(.agg #[vi vk r0,vi vk r1]),v43,v44,v45,v2,v3,puIw,HB.out.trans (hb9.mono HB.out.size),HP.out.below hb9 HP.out.lt,HQ.out.below hb9 HQ.out.lt,fun _=>own_bl hO hb9 (Nat.le_refl _),fun h=>absurd h (by simp[mkd,nap]),fun h=>absurd h (by simp[mkd,nbs]),fun h=>absurd h (by simp[mkd,nap]),fun h=>absurd h (by simp[mkd,nbs]),fun h=>absurd h (by simp[mkd,nas]),fun h=>absurd h (by simp[mkd,nas]),fun h=>(by have q:=HC0.out (by simpa [mkd] using h);simp[mkd,q]),fun h=>(by have q:=HC1.out (by simpa [mkd] using h);simp[mkd,q]),kq E0,kq E1,kq E2,kq E3,rf_,rf_,rf_,kq E7,kq E11⟩
   · obtain rfl:=(E6.out (by simp[haf])).symm
     have nap:M 9=false:=by cases h8:M 9 with|false=>rfl|true=>exact absurd (HU.out h8) (by simp[hL])
     have nbs:M 8=false:=by cases h8:M 8 with|false=>rfl|true=>exact absurd (HW.out h8) (by simp[hL])
     have nas:M 10=false:=by cases h8:M 10 with|false=>rfl|true=>exact absurd (HX.out h8) (by simp[nap])
     have K9:=hid (KN3.out w');go_wp2_with fail;(with_reducible refine(K9.out).mono ?_)
     rintro e9 w9 ⟨rfl,hb9⟩
     have lt9:=hb9.size;have hO:=HO.out nap;go_wp2;unfold FrB;exact⟨v36,v37,v38,v39,v40,v41,(.agg #[vi vk r0,vi vk r1]),(tx l6),v44,v45,v2,v3,puIw,HB.out.trans (hb9.mono HB.out.size),HP.out.below hb9 HP.out.lt,HQ.out.below hb9 HQ.out.lt,fun _=>own_bl hO hb9 (Nat.le_refl _),fun h=>absurd h (by simp[mkd,nap]),fun h=>absurd h (by simp[mkd,nbs]),fun h=>absurd h (by simp[mkd,nap]),fun h=>absurd h (by simp[mkd,nbs]),fun h=>absurd h (by simp[mkd,nas]),fun h=>absurd h (by simp[mkd,nas]),fun h=>(by have q:=HC0.out (by simpa [mkd] using h);simp[mkd,q]),fun _=>by simp[mkd,show M 6=true by simp[haf]],kq E0,kq E1,kq E2,kq E3,kq E4,kq E5,rf_,rf_,kq E11⟩
   · obtain rfl:=(E3.out (by simp[haf])).symm
     obtain rfl:=(E7.out (by simp[haf])).symm;have nap:M 9=false:=by cases h8:M 9 with|false=>rfl|true=>exact absurd (HU.out h8).1 (by simp[hL])
     have nas:M 10=false:=by cases h8:M 10 with|false=>rfl|true=>exact absurd (HX.out h8) (by simp[nap])
     have hO:=HO.out nap;have mc:M 3=true∧M 7=true:=by simp[haf]
     have mq0:=HC0.out (by simp[haf]);have mq1:=HC1.out (by simp[haf]);have hBs:=HB.out.size;go_wp2;unfold FrB;exact⟨v36,v37,v38,(tx l5),v40,v41,v42,(tx l6),(.slice (some ⟨w'.heap.size,0,none⟩) 2 2),v45,v2,v3,puIw,HB.out.alloc om_ _,HP.out.alloc _,HQ.out.alloc _,fun _=>own_bl hO (bl_alloc _ _) (Nat.le_refl _),fun h=>absurd h (by simp[mkd,nap]),fun _ _=>⟨_,rfl,reads_tx2 w' _ _ _⟩,fun h=>absurd h (by simp[mkd,nap]),fun _=>by simp[mkd,mc,mq0,mq1],fun h=>absurd h (by simp[mkd,nas]),fun h=>absurd h (by simp[mkd,nas]),fun h=>(by have q:=HC0.out (by simpa [mkd] using h);simp[mkd,q]),fun h=>(by have q:=HC1.out (by simpa [mkd] using h);simp[mkd,q]),kq E0,kq E1,kq E2,rf_,kq E4,kq E5,kq E6,rf_,kq E11⟩
   · obtain rfl:=(E0.out (by simp[haf])).symm
     have mb:M 8=true:=by simp[haf]
     have m0:M 0=true:=by simp[haf]
     have mw:=HW.out mb;have nas:M 10=false:=by cases h8:M 10 with|false=>rfl|true=>exact absurd (HX.out h8) (by simp[hL])
     have hO:=HO.out hL;have hBs:=HB.out.size;obtain⟨b7,rfl,hR⟩:=HR.out mb hL;have hne:=own_blk_ne hO HP.out dc_;have hne2:=own_blk_ne hO HQ.out dc_;simp only[Act.put,List.setIfInBounds_toArray,List.set_cons_zero,List.set_cons_succ];refine wpList_append_any _ rfl (.tmp 36) (.tmp 44) _ rfl w.heap.size 9 i0 _ 1 16 underlying24 hi0 hz0 hz1 hzb rfl dc_ sv 4 (txs ([l1,l2]++[l3,l4])) (by simp[Act.eval]) hO w'.heap.size (some ⟨b7,0,none⟩) 2 2 (txs [l5,l6]) (by simp[Act.eval]) hR (txs_one _) (by simp only[maxLen];omega) om_ om_ ?_;intro u9 w9 hown9 hg9 hob9;have hB9:Below w.heap.size w w9:=HB.out.grown hg9 om_ (fun k hk=>own_base hO k hk);go_wp2;unfold FrB;exact⟨(sv),v37,v38,v39,v40,v41,v42,v43,(.slice (some ⟨b7,0,none⟩) 2 2),u9,v2,v3,puIw,hB9,HP.out.grown hg9 (fun q=>hne q.symm),HQ.out.grown hg9 (fun q=>hne2 q.symm),fun h=>absurd h (by simp[mkd]),fun _=>by rw[txs_app];exact hown9,fun _ h=>absurd h (by simp[mkd]),fun _=>by simp[mkd,mb,mw,m0],fun h=>(by have q:=HW.out (by simpa [mkd] using h);simp[mkd,q]),fun h=>absurd h (by simp[mkd,nas]),fun h=>absurd h (by simp[mkd,nas]),fun h=>(by have q:=HC0.out (by simpa [mkd] using h);simp[mkd,q]),fun h=>(by have q:=HC1.out (by simpa [mkd] using h);simp[mkd,q]),rf_,kq E1,kq E2,kq E3,kq E4,kq E5,kq E6,kq E7,kq E11⟩
   · have ma:M 9=true:=by simp[haf]
     go_wp2;unfold FrB;exact⟨v36,v37,v38,v39,v40,v41,v42,v43,v44,v45,v45,v3,puIw,HB.out,HP.out,HQ.out,kn HO,kp HN,km HR,fun h=>(by have q:=HU.out (by simpa [mkd] using h);simp[mkd,q]),fun h=>(by have q:=HW.out (by simpa [mkd] using h);simp[mkd,q]),fun _=>by simp[mkd,ma],rf_,fun h=>(by have q:=HC0.out (by simpa [mkd] using h);simp[mkd,q]),fun h=>(by have q:=HC1.out (by simpa [mkd] using h);simp[mkd,q]),kq E0,kq E1,kq E2,kq E3,kq E4,kq E5,kq E6,kq E7,kq E11⟩
   · go_wp2
     unfold FrB;exact⟨v36,v37,v38,v39,v40,v41,v42,v43,v44,v45,v2,(vi vk 0),puIw,HB.out,HP.out,HQ.out,kn HO,kp HN,km HR,fun h=>(by have q:=HU.out (by simpa [mkd] using h);simp[mkd,q]),fun h=>(by have q:=HW.out (by simpa [mkd] using h);simp[mkd,q]),fun h=>(by have q:=HX.out (by simpa [mkd] using h);simp[mkd,q]),kq HY,fun h=>(by have q:=HC0.out (by simpa [mkd] using h);simp[mkd,q]),fun h=>(by have q:=HC1.out (by simpa [mkd] using h);simp[mkd,q]),kq E0,kq E1,kq E2,kq E3,kq E4,kq E5,kq E6,kq E7,rf_⟩
  case fin=>
   rintro M a1' w' hall ⟨v36,v37,v38,v39,v40,v41,v42,v43,v44,v45,v2,v3,rfl,hB,hP,hQ,hO,hN,hR,hU,hW,hX,hY,hC0,hC1,e0,e1,e2,e3,e4,e5,e6,e7,e11⟩
   simp only[Act.put,List.setIfInBounds_toArray,List.set_cons_zero,List.set_cons_succ];obtain rfl:=hY (hall 10 dc_);obtain rfl:=e11 (hall 11 dc_);go_wp2;go_ret2
   exact⟨_,rfl,by rw[←HLL.out];exact hN (hall 9 dc_),hB⟩
end
end Go.Proofs.YtdeiofgddhbdaaaGreatDoor
