/- The reference's clock: Floor of a day, Split, At, Text. -/
import Derived.BigRegion
import Derived.Test.YtbpnacacnncopaaGreatDoorHSt
set_option linter.unusedSimpArgs false
set_option linter.unusedVariables false
set_option maxHeartbeats 4000000
set_option maxRecDepth 100000
open Go.RowKit
open Go.Lib (hid)
open Go.Proofs.Tryz
open Go.Value renaming int→vi
open Go.IntKind renaming i64→vk
namespace Go.Proofs.YtbpnacacnncopaaGreatDoor
section
open Go.Shelf Frm
def RdR(s:Bs)(e:Ending):Prop:=(∃x,CA.vld x∧dateT x=s∧e=.returned (.tuple #[.agg (dav x),.bool true]))∨((¬ ∃x,CA.vld x∧dateT x=s)∧e=.returned (.tuple #[.agg (dtv 0 0 0),.bool false]))
theorem by_ne{c:UInt8}{n:Nat}(h: ¬c=UInt8.ofNat n)(_hn:n<256):((c.toNat:Int)==(n:Int))=false∧((c.toNat:Int) != (n:Int))=true:=by
 have: ¬c.toNat=n:=fun e=>h (by rw[←e];exact(UInt8.ofNat_toNat).symm);simp;omega
theorem rdParse_any(s:Bs)(w:World)(hl:s.length≤1000):Calls Tryz.prog 87 #[tx s] w fun e w'=>RdR s e∧Below w.heap.size w w':=by
 have hz:=tx_size s;have G0:=hid (Blk.new w 100 (dtv 0 0 0));have b0:=hid (bl_alloc w (.cells (dtv 0 0 0) 100));have e0:w.alloc (.cells #[vi vk 0,vi vk 0,vi vk 0] 100)=w.alloc (.cells (dtv 0 0 0) 100):=rfl;by_cases h10:s.length=10
 case neg=>
  have HNO:Hid (RdR s (.returned (.tuple #[.agg (dtv 0 0 0),.bool false]))):=hid (.inr ⟨fun⟨x,h1,h2⟩=>h10 (by rw[←h2];exact dateT_len h1),rfl⟩);obtain⟨n,hn⟩: ∃n,s.length=n:=⟨_,rfl⟩;rw[hn] at hz h10;have q:((n:Int) != 10)=true:=by simp;omega
  generalize RdR s=R at*;clear hn h10 hl;go_enter func87,ntmps87;go_upto_region 1 with fail
  try rw[e0]
  clear e0;generalize w.alloc (.cells (dtv 0 0 0) 100)=w0 at*;have y0:w0.cell? ⟨w.heap.size,0,none⟩=some (vi vk 0):=G0.out.cell 0;have y1:w0.cell? ⟨w.heap.size,1,none⟩=some (vi vk 0):=G0.out.cell 1;have y2:w0.cell? ⟨w.heap.size,2,none⟩=some (vi vk 0):=G0.out.cell 2;have z0:=G0.out.frozen 0;have z1:=G0.out.frozen 1;have z2:=G0.out.frozen 2;go_wp2;refine bodyPost_ret (v:=.tuple #[.agg (dtv 0 0 0),.bool false]) (by simp[results,results87,go_sem,dtv, *];done) rfl ⟨HNO.out,?_⟩;exact((b0.out.setCell (Nat.le_refl _) _).setCell (Nat.le_refl _) _).setCell (Nat.le_refl _) _
 case pos=>
  obtain⟨a0,a1,a2,a3,a4,a5,a6,a7,a8,a9,rfl⟩: ∃a0 a1 a2 a3 a4 a5 a6 a7 a8 a9,s=[a0,a1,a2,a3,a4,a5,a6,a7,a8,a9]:=by
   match s,h10 with
   | [a0,a1,a2,a3,a4,a5,a6,a7,a8,a9],_=>exact⟨a0,a1,a2,a3,a4,a5,a6,a7,a8,a9,rfl⟩
  have g4:=getBL (s:=[a0,a1,a2,a3,a4,a5,a6,a7,a8,a9]) (k:=4) rfl;have g7:=getBL (s:=[a0,a1,a2,a3,a4,a5,a6,a7,a8,a9]) (k:=7) rfl;have s1:=slice_hd [a0,a1,a2,a3,a4,a5,a6,a7,a8,a9] 4 (by simp);have s2:=slice_tx [a0,a1,a2,a3,a4,a5,a6,a7,a8,a9] 5 7 om_ (by simp);have s3:=slice_tl [a0,a1,a2,a3,a4,a5,a6,a7,a8,a9] 8 (by simp);simp only[List.take_succ_cons,List.take_zero,List.drop_succ_cons,List.drop_zero,Nat.reduceSub] at s1 s2 s3;rw[show((4:Nat):Int)=4 from rfl] at s1;rw[show((5:Nat):Int)=5 from rfl,show((7:Nat):Int)=7 from rfl] at s2;rw[show((8:Nat):Int)=8 from rfl] at s3;have K1:=hid (fun W=>rnum9_any [a0,a1,a2,a3] W (by simp));have K2:=hid (fun W=>rnum9_any [a5,a6] W (by simp));have K3:=hid (fun W=>rnum9_any [a8,a9] W (by simp));have hz':(⟨([a0,a1,a2,a3,a4,a5,a6,a7,a8,a9]:Bs).toArray⟩:ByteArray).size=10:=rfl;have hback:=fun(x:CA.Date) (h:CA.vld x) (e:dateT x=[a0,a1,a2,a3,a4,a5,a6,a7,a8,a9])=>date_back h e;have hfor:= @date_of a0 a1 a2 a3 a5 a6 a8 a9;obtain⟨Y,hY⟩: ∃Y,rI [a0,a1,a2,a3]=Y:=⟨_,rfl⟩;obtain⟨M,hM⟩: ∃M,rI [a5,a6]=M:=⟨_,rfl⟩;obtain⟨D,hD⟩: ∃D,rI [a8,a9]=D:=⟨_,rfl⟩;rw[hY] at K1;rw[hM] at K2;rw[hD] at K3;rw[hY,hM,hD] at hback hfor;clear hY hM hD h10 hl hz;have HB:=hid hback;have HF:=hid hfor;clear hback hfor;by_cases c4:a4=45
  case neg=>
   have q:=by_ne (n:=45) c4 om_;have q1:((a4.toNat:Int) != 45)=true:=q.2;have HNO:Hid (RdR [a0,a1,a2,a3,a4,a5,a6,a7,a8,a9] (.returned (.tuple #[.agg (dtv 0 0 0),.bool false]))):=hid (.inr ⟨fun⟨x,h1,h2⟩=>c4 (HB.out x h1 h2).1,rfl⟩);generalize RdR [a0,a1,a2,a3,a4,a5,a6,a7,a8,a9]=R at*;clear q c4 K1 K2 K3 HB HF s1 s2 s3;go_enter func87,ntmps87;go_upto_region 1 with fail
   try rw[e0]
   clear e0;generalize w.alloc (.cells (dtv 0 0 0) 100)=w0 at*;have y0:w0.cell? ⟨w.heap.size,0,none⟩=some (vi vk 0):=G0.out.cell 0;have y1:w0.cell? ⟨w.heap.size,1,none⟩=some (vi vk 0):=G0.out.cell 1;have y2:w0.cell? ⟨w.heap.size,2,none⟩=some (vi vk 0):=G0.out.cell 2;have z0:=G0.out.frozen 0;have z1:=G0.out.frozen 1;have z2:=G0.out.frozen 2;go_wp2;refine bodyPost_ret (v:=.tuple #[.agg (dtv 0 0 0),.bool false]) (by simp[results,results87,go_sem,dtv, *];done) rfl ⟨HNO.out,?_⟩;exact((b0.out.setCell (Nat.le_refl _) _).setCell (Nat.le_refl _) _).setCell (Nat.le_refl _) _
  case pos=>
   subst c4;by_cases c7:a7=45
   case neg=>
    have q:=by_ne (n:=45) c7 om_;have q1:((a7.toNat:Int) != 45)=true:=q.2;have HNO:Hid (RdR [a0,a1,a2,a3,45,a5,a6,a7,a8,a9] (.returned (.tuple #[.agg (dtv 0 0 0),.bool false]))):=hid (.inr ⟨fun⟨x,h1,h2⟩=>c7 (HB.out x h1 h2).2.1,rfl⟩);generalize RdR [a0,a1,a2,a3,45,a5,a6,a7,a8,a9]=R at*;clear q c7 K1 K2 K3 HB HF s1 s2 s3;go_enter func87,ntmps87;go_upto_region 1 with fail
    try rw[e0]
    clear e0;generalize w.alloc (.cells (dtv 0 0 0) 100)=w0 at*;have y0:w0.cell? ⟨w.heap.size,0,none⟩=some (vi vk 0):=G0.out.cell 0;have y1:w0.cell? ⟨w.heap.size,1,none⟩=some (vi vk 0):=G0.out.cell 1;have y2:w0.cell? ⟨w.heap.size,2,none⟩=some (vi vk 0):=G0.out.cell 2;have z0:=G0.out.frozen 0;have z1:=G0.out.frozen 1;have z2:=G0.out.frozen 2;go_wp2;refine bodyPost_ret (v:=.tuple #[.agg (dtv 0 0 0),.bool false]) (by simp[results,results87,go_sem,dtv, *];done) rfl ⟨HNO.out,?_⟩;exact((b0.out.setCell (Nat.le_refl _) _).setCell (Nat.le_refl _) _).setCell (Nat.le_refl _) _
   case pos=>
    subst c7;have KV:=hid (fun W=>rDValid_any Y M D W);obtain⟨ok,hok⟩: ∃ok,vdB Y M D=ok:=⟨_,rfl⟩;rw[hok] at KV;unfold dtv at KV;have HR:Hid (RdR [a0,a1,a2,a3,45,a5,a6,45,a8,a9] (.returned (if ok=true then .tuple #[.agg (dtv Y M D),.bool true] else .tuple #[.agg (dtv 0 0 0),.bool false]))):=hid (by
     cases ok with
     |true=>
      obtain⟨x,h1,h2,rfl,h4,rfl⟩:=HF.out hok;rw[if_pos rfl];exact .inl ⟨x,h1,h2,by rw[←h4]⟩
     |false=>
      rw[if_neg (by simp)];refine .inr ⟨fun⟨x,h1,h2⟩=>?_,rfl⟩;obtain⟨-,-,e1,e2,e3⟩:=HB.out x h1 h2;rw[e1,e2,e3,vdB_of h1] at hok;cases hok)
    generalize RdR [a0,a1,a2,a3,45,a5,a6,45,a8,a9]=R at*;clear HB HF hok;go_enter func87,ntmps87;go_upto_region 1 with fail
    try rw[e0]
    clear e0;generalize w.alloc (.cells (dtv 0 0 0) 100)=w0 at*;go_upto_region 3 with fail
    have G1:=hid (G0.out.alloc (.cells #[vi vk Y,vi vk M,vi vk D] 100)).drew;have D1:=hid (Blk.new w0 100 #[vi vk Y,vi vk M,vi vk D]).drew;have b1:=hid (bl_drew (b0.out.trans ((bl_alloc w0 (.cells #[vi vk Y,vi vk M,vi vk D] 100)).mono b0.out.size)));go_region_held3 (fun _=>True) (trivial) (first|(go_at_call 130;first|(with_reducible refine(K1.out _).mono ?_;rintro e w8 ⟨rfl,rfl⟩)|(with_reducible refine(K2.out _).mono ?_;rintro e w8 ⟨rfl,rfl⟩)|(with_reducible refine(K3.out _).mono ?_;rintro e w8 ⟨rfl,rfl⟩))|fail)
    all_goals
     clear K1 K2 K3 s1 s2 s3 g4 g7 hz' G0 b0;generalize (w0.alloc (.cells #[vi vk Y,vi vk M,vi vk D] 100)).drew=w3 at*;have y0: ∀i,w3.cell? ⟨w0.heap.size,i,none⟩=(#[vi vk Y,vi vk M,vi vk D]:Array Value)[i]? :=fun i=>D1.out.cell i;go_wp2_with fail;(with_reducible refine(KV.out _).mono ?_)
     rintro e w4 ⟨rfl,hb⟩
     have G4:=hid (G1.out.below hb G1.out.lt);have D4:=hid (D1.out.below hb D1.out.lt);have b4:=hid (b1.out.trans (hb.mono b1.out.size));clear hb y0 G1 D1 b1 KV;have y0:w4.cell? ⟨w.heap.size,0,none⟩=some (vi vk 0):=G4.out.cell 0;have y1:w4.cell? ⟨w.heap.size,1,none⟩=some (vi vk 0):=G4.out.cell 1;have y2:w4.cell? ⟨w.heap.size,2,none⟩=some (vi vk 0):=G4.out.cell 2;have x0:w4.cell? ⟨w0.heap.size,0,none⟩=some (vi vk Y):=D4.out.cell 0;have x1:w4.cell? ⟨w0.heap.size,1,none⟩=some (vi vk M):=D4.out.cell 1;have x2:w4.cell? ⟨w0.heap.size,2,none⟩=some (vi vk D):=D4.out.cell 2;have z0:=G4.out.frozen 0;have z1:=G4.out.frozen 1;have z2:=G4.out.frozen 2;cases ok with
     |true=>
      rw[if_pos rfl] at HR;go_wp2;refine bodyPost_ret (v:=.tuple #[.agg (dtv Y M D),.bool true]) (by simp[results,results87,go_sem,dtv, *];done) rfl ⟨HR.out,?_⟩;exact((b4.out.setCell (Nat.le_refl _) _).setCell (Nat.le_refl _) _).setCell (Nat.le_refl _) _
     |false=>
      rw[if_neg (by simp)] at HR;go_wp2;refine bodyPost_ret (v:=.tuple #[.agg (dtv 0 0 0),.bool false]) (by simp[results,results87,go_sem,dtv, *];done) rfl ⟨HR.out,?_⟩;exact((b4.out.setCell (Nat.le_refl _) _).setCell (Nat.le_refl _) _).setCell (Nat.le_refl _) _
end
section
open Go.Shelf Frm
open Lib (decDigits)
theorem rfday_any(a:Int)(w:World)(h0: -70368744177664≤a)(h1:a≤70368744177664):Calls Tryz.prog 113 #[vi vk a,vi vk 86400000] w fun e w'=>e=.returned (vi vk (a/86400000))∧w'=w:=by
 have hm:=(mod_td a (d:=86400000) om_).2;have hq: -900000≤a/86400000∧a/86400000≤900000:=by omega
 generalize a/86400000=q at*;by_cases hneg:a.tmod 86400000<0
 · rw[if_pos hneg] at hm
   have d:decide (Int.tmod a 86400000<0)=true:=decide_eq_true hneg;have s2:wrap64 (Int.tdiv a 86400000)=Int.tdiv a 86400000:=IntWalk.wrap64_in _ om_;have s1:wrap64 (Int.tdiv a 86400000-1)=Int.tdiv a 86400000-1:=IntWalk.wrap64_in _ om_;have T:=hid hm;clear hm hneg hq h0 h1;go_enter func113,ntmps113;go_wp2;go_ret;exact⟨ret_int (by first|exact T.out|(rw[s1];exact T.out)),rfl⟩
 · rw[if_neg hneg] at hm
   have d:decide (Int.tmod a 86400000<0)=false:=decide_eq_false hneg;have s2:wrap64 (Int.tdiv a 86400000)=Int.tdiv a 86400000:=IntWalk.wrap64_in _ om_;have T:=hid hm;clear hm hneg hq h0 h1;go_enter func113,ntmps113;go_wp2;go_ret;exact⟨ret_int (by first|exact T.out|(rw[s2];exact T.out)),rfl⟩
theorem rSplit_any(t:Int)(w:World)(ht:insB t=true):Calls Tryz.prog 76 #[vi vk t] w fun e w'=>CsR t e∧Below w.heap.size w w':=by
 have KI:=hid (fun W=>rInstant_any t W);rw[ht] at KI;unfold insB at ht;rw[decide_eq_true_eq] at ht;have KF:=hid (fun W=>rfday_any t W ht.1 ht.2);have K1:=hid rFirst_any;have K2:=hid rLast_any;have hno:=fun(h:t/86400000< -730119∨2921939<t/86400000)=>(show¬ ∃x,CA.vld x∧CA.num x=t/86400000 from fun⟨x,h1,h2⟩=>by have:=num_range h1;omega);unfold CsR;have hms:t-t/86400000*86400000=t%86400000:=by omega
 have hms0:0≤t%86400000:=by omega
 have hms2:t%86400000<86400000:=by omega
 have hnb: -900000≤t/86400000∧t/86400000≤900000:=by omega
 generalize t%86400000=ms at*;generalize t/86400000=n at*;have HMS:=hid hms;clear hms;have R0:=hid (Blk.new w 100 #[vi vk 0,vi vk 0,vi vk 0]);have b0:=hid ((Below.refl w.heap.size w).alloc (Nat.le_refl _) (.cells #[vi vk 0,vi vk 0,vi vk 0] 100));by_cases hn:n< -730119
 · have HNO:=hid (hno om_)
   have d1:decide (n< -730119)=true:=decide_eq_true hn;clear hno;go_enter func76,ntmps76;go_upto_region 1 with fail
   generalize (w.alloc (.cells #[vi vk 0,vi vk 0,vi vk 0] 100))=w1 at*;go_wp2_with fail;(with_reducible refine(KI.out _).mono ?_)
   rintro e w2 ⟨rfl,rfl⟩
   go_wp2_with fail;(with_reducible refine(KF.out _).mono ?_)
   rintro e w3 ⟨rfl,rfl⟩
   go_wp2_with fail;(with_reducible refine(K1.out _).mono ?_)
   rintro e w4 ⟨rfl,hb⟩
   have R4:=hid (R0.out.below hb R0.out.lt);have b4:=hid (b0.out.trans (hb.mono b0.out.size));clear hb R0 b0;have y0:w4.cell? ⟨w.heap.size,0,none⟩=some (vi vk 0):=R4.out.cell 0;have y1:w4.cell? ⟨w.heap.size,1,none⟩=some (vi vk 0):=R4.out.cell 1;have y2:w4.cell? ⟨w.heap.size,2,none⟩=some (vi vk 0):=R4.out.cell 2;have z0:=R4.out.frozen 0;have z1:=R4.out.frozen 1;have z2:=R4.out.frozen 2;go_wp2;refine bodyPost_ret (v:=.tuple #[.agg #[vi vk 0,vi vk 0,vi vk 0],vi vk 0,vi vk 20]) (by simp[results,results76,go_sem, *];done) rfl ⟨.inr ⟨HNO.out,rfl⟩,?_⟩;exact((b4.out.setCell (by simp) _).setCell (by simp) _).setCell (by simp) _
 by_cases hm:2921939<n
 · have HNO:=hid (hno om_)
   have d1:decide (n< -730119)=false:=decide_eq_false hn;have d2:decide (2921939<n)=true:=decide_eq_true hm;clear hno;go_enter func76,ntmps76;go_upto_region 1 with fail
   generalize (w.alloc (.cells #[vi vk 0,vi vk 0,vi vk 0] 100))=w1 at*;go_wp2_with fail;(with_reducible refine(KI.out _).mono ?_)
   rintro e w2 ⟨rfl,rfl⟩
   go_wp2_with fail;(with_reducible refine(KF.out _).mono ?_)
   rintro e w3 ⟨rfl,rfl⟩
   go_wp2_with fail;(with_reducible refine(K1.out _).mono ?_)
   rintro e w4 ⟨rfl,hb⟩
   have R4:=hid (R0.out.below hb R0.out.lt);have b4:=hid (b0.out.trans (hb.mono b0.out.size));clear hb R0 b0;go_wp2_with fail;(with_reducible refine(K2.out _).mono ?_)
   rintro e w5 ⟨rfl,hb⟩
   have R5:=hid (R4.out.below hb R4.out.lt);have b5:=hid (b4.out.trans (hb.mono b4.out.size));clear hb R4 b4;have y0:w5.cell? ⟨w.heap.size,0,none⟩=some (vi vk 0):=R5.out.cell 0;have y1:w5.cell? ⟨w.heap.size,1,none⟩=some (vi vk 0):=R5.out.cell 1;have y2:w5.cell? ⟨w.heap.size,2,none⟩=some (vi vk 0):=R5.out.cell 2;have z0:=R5.out.frozen 0;have z1:=R5.out.frozen 1;have z2:=R5.out.frozen 2;go_upto_region 5 with fail
   clear d1 d2 hm hn hnb hms0 hms2 ht KI K1 K2 KF;go_wp2;refine bodyPost_ret (v:=.tuple #[.agg #[vi vk 0,vi vk 0,vi vk 0],vi vk 0,vi vk 20]) (by simp[results,results76,go_sem, *];done) rfl ⟨.inr ⟨HNO.out,rfl⟩,?_⟩;exact((b5.out.setCell (by simp) _).setCell (by simp) _).setCell (by simp) _
 · have KD:=hid (fun W=>rDateOf_any n W om_ om_)
   simp only[dtv] at KD;have hwm:wrap64 (t-n*86400000)=ms:=by have:=HMS.out;rw[IntWalk.wrap64_in _ om_];exact this
   have hmm:t-n*86400000=ms:=HMS.out;have d1:decide (n< -730119)=false:=decide_eq_false hn;have d2:decide (2921939<n)=false:=decide_eq_false hm;clear hno;go_enter func76,ntmps76;go_upto_region 1 with fail
   generalize (w.alloc (.cells #[vi vk 0,vi vk 0,vi vk 0] 100))=w1 at*;go_wp2_with fail;(with_reducible refine(KI.out _).mono ?_)
   rintro e w2 ⟨rfl,rfl⟩
   go_wp2_with fail;(with_reducible refine(KF.out _).mono ?_)
   rintro e w3 ⟨rfl,rfl⟩
   go_wp2_with fail;(with_reducible refine(K1.out _).mono ?_)
   rintro e w4 ⟨rfl,hb⟩
   have R4:=hid (R0.out.below hb R0.out.lt);have b4:=hid (b0.out.trans (hb.mono b0.out.size));clear hb R0 b0;go_wp2_with fail;(with_reducible refine(K2.out _).mono ?_)
   rintro e w5 ⟨rfl,hb⟩
   have R5:=hid (R4.out.below hb R4.out.lt);have b5:=hid (b4.out.trans (hb.mono b4.out.size));clear hb R4 b4;go_wp2_with fail;(with_reducible refine(KD.out _).mono ?_)
   rintro e w6 ⟨⟨y,d,m,hv,hnn,rfl⟩,hb⟩
   have R6:=hid (R5.out.below hb R5.out.lt);have b6:=hid (b5.out.trans (hb.mono b5.out.size));clear hb R5 b5;have HV:=hid hv;have HN:=hid hnn;clear hv hnn;have y0:w6.cell? ⟨w.heap.size,0,none⟩=some (vi vk 0):=R6.out.cell 0;have y1:w6.cell? ⟨w.heap.size,1,none⟩=some (vi vk 0):=R6.out.cell 1;have y2:w6.cell? ⟨w.heap.size,2,none⟩=some (vi vk 0):=R6.out.cell 2;have z0:=R6.out.frozen 0;have z1:=R6.out.frozen 1;have z2:=R6.out.frozen 2;go_wp2;refine bodyPost_ret (v:=.tuple #[.agg #[vi vk y,vi vk ((m:Int)),vi vk d],vi vk ms,vi vk 0]) (by simp[results,results76,go_sem, *];done) rfl ⟨.inl ⟨y,d,m,HV.out,HN.out,rfl⟩,?_⟩;exact((b6.out.setCell (by simp) _).setCell (by simp) _).setCell (by simp) _
theorem rAt_any(x:CA.Date)(ms:Nat)(w:World)(hv:CA.vld x)(hm:ms<86400000):
 Calls Tryz.prog 89 #[.agg (dav x),vi vk (ms:Int)] w fun e w'=>e=.returned (if insB (CA.num x*86400000+ms)=true then .tuple #[vi vk (CA.num x*86400000+ms),vi vk 0] else .tuple #[vi vk 0,vi vk 5])∧Below w.heap.size w w':=by
 have KV:=hid (fun W=>rDValid_any x.y x.m x.d W);rw[vdB_of hv] at KV;obtain⟨v1,v2,v3,v4,v5,v6⟩:=id hv;have hdm:=dm_le x.y x.m;have KN:=hid (fun W=>rNumber_any x.y x.d x.m W v1 v2 v3 v4 om_ om_);have hr:=num_range hv;have KI:=hid (fun W=>rInstant_any (CA.num x*86400000+ms) W);obtain⟨y,m,d⟩:=x;simp only[] at KN KI KV hr⊢;generalize CA.num ⟨y,m,d⟩=n at*;show Calls Tryz.prog 89 #[.agg (dtv y m d),vi vk (ms:Int)] w _
 unfold dtv at KN KV⊢;have d0:decide ((ms:Int)<0)=false:=decide_eq_false om_;have d1:decide (86400000≤(ms:Int))=false:=decide_eq_false om_;have d2:decide (86400000≤ms)=false:=decide_eq_false om_;have hr0:=hr.1;have hr1:=hr.2;generalize insB (n*86400000+ms)=b at*;clear hv hr v1 v2 v3 v4 v5 v6 hdm;cases b with
 |false=>
  rw[if_neg (by simp)];have D0:=hid (Blk.new w 100 #[vi vk y,vi vk ((m:Int)),vi vk d]);have b0:=hid ((Below.refl w.heap.size w).alloc (Nat.le_refl _) (.cells #[vi vk y,vi vk ((m:Int)),vi vk d] 100));go_enter func89,ntmps89;go_upto_region 1 with fail
  generalize (w.alloc (.cells #[vi vk y,vi vk ((m:Int)),vi vk d] 100))=w1 at*;have yD: ∀i,w1.cell? ⟨w.heap.size,i,none⟩=(#[vi vk y,vi vk ((m:Int)),vi vk d]:Array Value)[i]? :=fun i=>D0.out.cell i;go_wp2_with fail;(with_reducible refine(KV.out _).mono ?_)
  rintro e w2 ⟨rfl,hb⟩
  have D2:=hid (D0.out.below hb D0.out.lt);have b2:=hid (b0.out.trans (hb.mono b0.out.size));clear hb D0 b0 yD;have yD: ∀i,w2.cell? ⟨w.heap.size,i,none⟩=(#[vi vk y,vi vk ((m:Int)),vi vk d]:Array Value)[i]? :=fun i=>D2.out.cell i;go_wp2_with fail;(with_reducible refine(KN.out _).mono ?_)
  rintro e w3 ⟨rfl,hb⟩
  have b3:=hid (b2.out.trans (hb.mono b2.out.size));clear hb b2 yD D2;go_wp2_with fail;(with_reducible refine(KI.out _).mono ?_)
  rintro e w4 ⟨rfl,rfl⟩
  go_wp2;go_ret2
  exact⟨rfl,b3.out⟩
 |true=>
  rw[if_pos rfl];have D0:=hid (Blk.new w 100 #[vi vk y,vi vk ((m:Int)),vi vk d]);have b0:=hid ((Below.refl w.heap.size w).alloc (Nat.le_refl _) (.cells #[vi vk y,vi vk ((m:Int)),vi vk d] 100));go_enter func89,ntmps89;go_upto_region 1 with fail
  generalize (w.alloc (.cells #[vi vk y,vi vk ((m:Int)),vi vk d] 100))=w1 at*;have yD: ∀i,w1.cell? ⟨w.heap.size,i,none⟩=(#[vi vk y,vi vk ((m:Int)),vi vk d]:Array Value)[i]? :=fun i=>D0.out.cell i;go_wp2_with fail;(with_reducible refine(KV.out _).mono ?_)
  rintro e w2 ⟨rfl,hb⟩
  have D2:=hid (D0.out.below hb D0.out.lt);have b2:=hid (b0.out.trans (hb.mono b0.out.size));clear hb D0 b0 yD;have yD: ∀i,w2.cell? ⟨w.heap.size,i,none⟩=(#[vi vk y,vi vk ((m:Int)),vi vk d]:Array Value)[i]? :=fun i=>D2.out.cell i;go_wp2_with fail;(with_reducible refine(KN.out _).mono ?_)
  rintro e w3 ⟨rfl,hb⟩
  have b3:=hid (b2.out.trans (hb.mono b2.out.size));clear hb b2 yD D2;go_wp2_with fail;(with_reducible refine(KI.out _).mono ?_)
  rintro e w4 ⟨rfl,rfl⟩
  go_wp2;go_ret2
  exact⟨rfl,b3.out⟩
theorem rckText_any(t:Int)(w:World)(ht:insB t=true):Calls Tryz.prog 31 #[vi vk t] w fun e w'=>CtR t e∧Below w.heap.size w w':=by
 have KS:=hid (rSplit_any t w ht);clear ht;go_enter func31,ntmps31;go_wp2_with fail;(with_reducible refine(KS.out).mono ?_)
 rintro e w1 ⟨hcs,hb⟩
 have b1:=hid hb;clear hb KS;rcases hcs with ⟨y,d,m,hv,hn,rfl⟩|⟨hno,rfl⟩
 case inr=>
  have HNO:=hid hno;clear hno;have b2:=hid (b1.out.trans ((bl_alloc w1 (.cells #[vi vk 0,vi vk 0,vi vk 0] 100)).mono b1.out.size));go_wp2;go_ret2
  exact⟨.inr ⟨fun⟨s,x,h1,h2,_⟩=>HNO.out ⟨x,h1,h2⟩,rfl⟩,b2.out⟩
 case inl=>
  have HV:=hid hv;have HN:=hid hn;have hms:t%86400000<86400000:=by omega
  obtain⟨ms,hms0⟩: ∃ms:Nat,t%86400000=ms:=⟨(t%86400000).toNat,om_⟩;rw[hms0] at hms⊢;have HI:Hid (IsInst t (dateT ⟨y,m,d⟩++32::CT.clockT ms)):=hid ⟨_,hv,hn,by rw[hms0,Int.toNat_natCast]⟩;have KT:=hid (fun(W:World)=>show Calls Tryz.prog 77 #[.agg #[vi vk y,vi vk ((m:Int)),vi vk d]] W _ from rdtext_any ⟨y,m,d⟩ W hv);have lD:=dateT_len hv;obtain⟨D,hD⟩: ∃D,dateT ⟨y,m,d⟩=D:=⟨_,rfl⟩;simp only[hD] at KT HI lD;clear hv hn hD hms0;have D1:=hid (fun W=>cdigits_any (ms/3600000) 2 W om_ om_);have D2:=hid (fun W=>cdigits_any (ms/60000%60) 2 W om_ om_);have D3:=hid (fun W=>cdigits_any (ms/1000%60) 2 W om_ om_);have D4:=hid (fun W=>cdigits_any (ms%1000) 3 W om_ om_);rw[show((2:Nat):Int)=2 from rfl] at D1 D2 D3;rw[show((3:Nat):Int)=3 from rfl] at D4;have l1:(dgs (ms/3600000) 2).length=2:=dgs_len 2 _ om_;have l2:(dgs (ms/60000%60) 2).length=2:=dgs_len 2 _ om_;have l3:(dgs (ms/1000%60) 2).length=2:=dgs_len 2 _ om_;have l4:(dgs (ms%1000) 3).length=3:=dgs_len 3 _ om_;have hc0:CT.clockT ms=dgs (ms/3600000) 2++58::(dgs (ms/60000%60) 2++58::(dgs (ms/1000%60) 2++(if ms%1000=0 then[] else 46::dgs (ms%1000) 3))):=rfl;obtain⟨S1,hS1⟩: ∃S1,ms/1000=S1:=⟨_,rfl⟩;obtain⟨h1,hh1⟩: ∃z,ms/3600000=z:=⟨_,rfl⟩;obtain⟨h2,hh2⟩: ∃z,ms/60000=z:=⟨_,rfl⟩;obtain⟨h3,hh3⟩: ∃z,h2%60=z:=⟨_,rfl⟩;obtain⟨h4,hh4⟩: ∃z,S1%60=z:=⟨_,rfl⟩;obtain⟨h5,hh5⟩: ∃z,ms%1000=z:=⟨_,rfl⟩;have q1:((ms:Nat):Int).tdiv 1000=(S1:Int):=by rw[Int.tdiv_eq_ediv_of_nonneg om_];omega
  have q2:((ms:Nat):Int).tdiv 3600000=(h1:Int):=by rw[Int.tdiv_eq_ediv_of_nonneg om_];omega
  have q3:((ms:Nat):Int).tdiv 60000=(h2:Int):=by rw[Int.tdiv_eq_ediv_of_nonneg om_];omega
  have q4:((h2:Nat):Int).tmod 60=(h3:Int):=by rw[Int.tmod_eq_emod_of_nonneg om_];omega
  have q5:((S1:Nat):Int).tmod 60=(h4:Int):=by rw[Int.tmod_eq_emod_of_nonneg om_];omega
  have q6:((ms:Nat):Int).tmod 1000=(h5:Int):=by rw[Int.tmod_eq_emod_of_nonneg om_];omega
  rw[hh1] at D1 l1 hc0;rw[hh2,hh3] at D2 l2 hc0;rw[hS1,hh4] at D3 l3 hc0;rw[hh5] at D4 l4 hc0;have k1:S1<100000:=by omega
  have k2:h1<100000:=by omega
  have k3:h2<100000:=by omega
  have k4:h5<100000:=by omega
  clear hS1 hh1 hh2 hh3 hh4 hh5;generalize dgs h1 2=A at*;generalize dgs h3 2=B at*;generalize dgs h4 2=C at*;generalize dgs h5 3=F at*;have a1:=tx_add D [32] om_ (by simp);have a2:=tx_add (D++[32]) A (by simp;omega) om_;have a3:=tx_add (D++[32]++A) [58] (by simp;omega) (by simp);have a4:=tx_add (D++[32]++A++[58]) B (by simp;omega) om_;have a5:=tx_add (D++[32]++A++[58]++B) [58] (by simp;omega) (by simp);have a6:=tx_add (D++[32]++A++[58]++B++[58]) C (by simp;omega) om_;have a7:=tx_add (D++[32]++A++[58]++B++[58]++C) [46] (by simp;omega) (by simp);have a8:=tx_add (D++[32]++A++[58]++B++[58]++C++[46]) F (by simp;omega) om_;have hfin:D++32::CT.clockT ms=if h5=0 then D++[32]++A++[58]++B++[58]++C else D++[32]++A++[58]++B++[58]++C++[46]++F:=by
   rw[hc0];split<;>simp
  rw[hfin] at HI;clear hfin hc0 l1 l2 l3 l4 lD HV HN;generalize D++[32]=E01 at*;generalize E01++A=E02 at*;generalize E02++[58]=E03 at*;generalize E03++B=E04 at*;generalize E04++[58]=E05 at*;generalize E05++C=E06 at*;generalize E06++[46]=E07 at*;generalize E07++F=E08 at*;have X2:=hid (Blk.new w1 100 #[vi vk y,vi vk ((m:Int)),vi vk d]);have b2:=hid (b1.out.trans ((bl_alloc w1 (.cells #[vi vk y,vi vk ((m:Int)),vi vk d] 100)).mono b1.out.size));clear b1;go_upto_region 2 with fail
  generalize w1.alloc (.cells #[vi vk y,vi vk ((m:Int)),vi vk d] 100)=w3 at*;have yD: ∀i,w3.cell? ⟨w1.heap.size,i,none⟩=(#[vi vk y,vi vk ((m:Int)),vi vk d]:Array Value)[i]? :=fun i=>X2.out.cell i;go_wp2_with fail;(with_reducible refine(KT.out _).mono ?_)
  rintro e w4 ⟨rfl,hb⟩
  have b4:=hid (b2.out.trans (hb.mono b2.out.size));clear hb b2 yD X2;go_wp2_with fail;(with_reducible refine(D1.out _).mono ?_)
  rintro e w5 ⟨rfl,hb⟩
  have b5:=hid (b4.out.trans (hb.mono b4.out.size));clear hb b4;go_wp2_with fail;(with_reducible refine(D2.out _).mono ?_)
  rintro e w6 ⟨rfl,hb⟩
  have b6:=hid (b5.out.trans (hb.mono b5.out.size));clear hb b5;go_wp2_with fail;(with_reducible refine(D3.out _).mono ?_)
  rintro e w7 ⟨rfl,hb⟩
  have b7:=hid (b6.out.trans (hb.mono b6.out.size));clear hb b6;by_cases h0:h5=0
  · subst h0
    rw[if_pos rfl] at HI;go_wp2;go_ret2
    exact⟨.inl ⟨_,HI.out,rfl⟩,b7.out⟩
  · have dd:decide ((0:Int)<(h5:Int))=true:=decide_eq_true om_
    have dd2:decide (0<h5)=true:=decide_eq_true om_;rw[if_neg h0] at HI;clear h0;go_wp2_with fail;(with_reducible refine(D4.out _).mono ?_)
    rintro e w8 ⟨rfl,hb⟩
    have b8:=hid (b7.out.trans (hb.mono b7.out.size));clear hb b7;go_wp2;go_ret2
    exact⟨.inl ⟨_,HI.out,rfl⟩,b8.out⟩
end
end Go.Proofs.YtbpnacacnncopaaGreatDoor
