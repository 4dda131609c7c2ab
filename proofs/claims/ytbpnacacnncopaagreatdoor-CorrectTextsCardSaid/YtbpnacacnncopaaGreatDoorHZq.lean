/- Law 22: CorrectTexts returns true. -/
import Derived.Test.YtbpnacacnncopaaGreatDoorHYx
import Derived.Test.YtbpnacacnncopaaGreatDoorHXp
set_option linter.unusedSimpArgs false
set_option linter.unusedVariables false
set_option maxHeartbeats 4000000
set_option maxRecDepth 100000
open Go.RowKit
open Go.Lib (hid)
open Go.Proofs.Tryz
open Go.Value renaming int→vi
open Go.IntKind renaming i64→vk
namespace Go.Proofs.YtbpnacacnncopaaGreatDoor
section
open Frm
def exS:Sgt:=⟨[83,116,97,114],1,0,0,2400000,0,1,400,0,100,10100⟩
theorem ex_si:siS exS=true:=by decide+kernel
theorem ex_giv:givB 0 [] exS 0 0 0 0=true:=by decide+kernel
theorem ex_dep:depA exS=3520∧depB exS=3520:=by
 have h:dpL 400=3520:=isq_one om_ om_ om_;have h2:dpH 400=3520:=by unfold dpH;rw[h];rfl
 exact⟨show((dpL 400:Nat):Int)=3520 by rw[h];rfl,show((dpH 400:Nat):Int)=3520 by rw[h2];rfl⟩
theorem ex_co:coA 0 [] 2400000=0∧coB 0 [] 2400000=0:=by decide+kernel
theorem ex_ha:haA 0 [] exS=2396480∧haB 0 [] exS=2396480:=by
 have h1:apA 0 [] exS=2400000-0+coA 0 [] 2400000:=rfl;have h2:apB 0 [] exS=2400000+0+coB 0 [] 2400000:=rfl;unfold haA haB;rw[h1,h2,ex_co.1,ex_co.2,ex_dep.1,ex_dep.2];decide
theorem ex_in:inHa 0 [] exS=true:=by unfold inHa;rw[ex_ha.1,ex_ha.2];decide
theorem ex_ho:2395000<hoA 0 [] exS 0 0 0 0∧hoB 0 [] exS 0 0 0 0<2396000:=by
 unfold hoA hoB;rw[ex_ha.1,ex_ha.2];decide+kernel
theorem inst_zero: ∃f,IsInst 0 f:=⟨_,⟨2000,1,1⟩,by have:=(vd_of (y:=2000) (m:=1) (d:=1) (by decide+kernel)).1;exact this,by decide+kernel,rfl⟩
theorem ex_text: ∃x,TextOf exS x:=by
 obtain⟨f,hf⟩:=inst_zero;exact⟨_,f,f,hf,hf,rfl⟩
theorem text_short{s:Sgt}{x:Bs}(hv:siS s=true)(h:TextOf s x):x.length≤300:=by
 obtain⟨f,l,hf,hl,rfl⟩:=h;have k:=si_ok hv;have a1:=inst_len hf;have a2:=inst_len hl;have b1:=limb_len k.limb.1 k.limb.2;have b2:=hor_len k.hor.1 k.hor.2;have c1:=text_len (n:=s.hs) (by have:=k.hs;omega);have c2:=text_len (n:=s.by_) (by have:=k.by_;omega);have d0:=name_len k.na;have d1:=itoa_short (n:=s.eye) (by have:=k.eye;omega);have d2:=itoa_short (n:=s.shore) (by have:=k.shore;omega);have d3:=itoa_short (n:=s.temp) (by have:=k.temp;omega);have d4:=itoa_short (n:=s.press) (by have:=k.press;omega);simp only[txtW,SW.jn,List.length_append,List.length_cons,List.length_nil];omega
theorem ctext_ok{s:Sgt}{x:Bs}(hv:siS s=true)(hx:TextOf s x)(w:World)(he:En w):Calls Tryz.prog 8 #[sgS s] w fun e w'=>e=.returned (.tuple #[tx x,vi vk 0])∧Below w.heap.size w w':=
 (ctext_any s w (by have:=name_len (si_ok hv).na;omega) he).mono fun e w' ⟨hr,hb⟩=>by
   refine⟨?_,hb⟩;rcases hr with ⟨h,_⟩|⟨_,y,hy,_,h⟩|⟨_,h,_⟩
   · rw[hv] at h;cases h
   · rw[text_one hx hy];exact h
   · exact absurd ⟨x,hx⟩ h
theorem goodT_one{s t:Sgt}{x:Bs}(h:GoodT s x)(k:GoodT t x):s=t:=by
 obtain⟨w0,w1,w2,w3,w4,w5,w6,w7,w8,w9,w10,w11,w12,h1,h2⟩:=h;obtain⟨v0,v1,v2,v3,v4,v5,v6,v7,v8,v9,v10,v11,v12,k1,k2⟩:=k;rw[h1] at k1;simp only[List.cons.injEq,and_true] at k1;obtain⟨rfl,rfl,rfl,rfl,rfl,rfl,rfl,rfl,rfl,rfl,rfl,rfl,rfl⟩:=k1;exact good_one h2 k2
theorem cparse_ok{s:Sgt}{x:Bs}(hv:siS s=true)(hx:TextOf s x)(w:World)(he:En w):Calls Tryz.prog 11 #[tx x] w fun e w'=>e=.returned (.tuple #[sgS s,vi vk 0])∧Below w.heap.size w w':=
 (cparse_any x w (text_short hv hx) he).mono fun e w' ⟨hr,hb⟩=>by
   refine⟨?_,hb⟩;have hg:GoodT s x:=by
    obtain⟨w0,w1,w2,w3,w4,w5,w6,w7,w8,w9,w10,w11,w12,h1,h2⟩:=text_good hv hx;exact⟨w0,w1,w2,w3,w4,w5,w6,w7,w8,w9,w10,w11,w12,h1,h2⟩
   have one: ∀t,GoodT t x→t=s:=fun t ht=>goodT_one ht hg;rcases hr with ⟨t,h,_,h2⟩|⟨t,h,h2,_⟩|⟨h,_⟩
   · rw[one t h] at h2;exact h2
   · rw[one t h,hv] at h2;cases h2
   · exact absurd ⟨s,hg⟩ h
theorem example_any(n:Int)(w:World):Calls Tryz.prog 20 #[vi vk n] w fun e w'=>e=.returned (sgv [83,116,97,114] 1 0 0 n 0 1 400 0 100 10100)∧Below w.heap.size w w':=by
 go_enter func20,ntmps20;go_wp2;refine bodyPost_ret (v:=sgv [83,116,97,114] 1 0 0 n 0 1 400 0 100 10100) (by simp[results,results20,go_sem, *];done) rfl ⟨rfl,?_⟩;exact bl_
theorem work_ex: ∃r0 r1 x0 x1 s0 s1 h0 h1:Int,2395000<h0∧h1<2396000∧ ∀w,Calls Tryz.prog 16 #[.agg #[vi vk 0,.slice none 0 0],sgv [83,116,97,114] 1 0 0 2400000 0 1 400 0 100 10100,.agg #[vi vk 0,vi vk 0,vi vk 0,vi vk 0,vi vk 0,vi vk 0,vi vk 0,vi vk 0]] w fun e w'=>e=.returned (.tuple #[wkV 0 0 3520 3520 r0 r1 x0 x1 s0 s1 2396480 2396480 h0 h1,vi vk 0])∧Below w.heap.size w w':=by
 refine⟨rfL (haB 0 [] exS) 100 10100,rfH (haA 0 [] exS) 100 10100,pxA 0 0 (haA 0 [] exS) (haB 0 [] exS),pxB 0 0 (haA 0 [] exS) (haB 0 [] exS),seA 1 0 0 0 0 (haA 0 [] exS) (haB 0 [] exS),seB 1 0 0 0 0 (haA 0 [] exS) (haB 0 [] exS),_,_,ex_ho.1,ex_ho.2,fun w=>(Work_any 0 [] none 0 0 exS 0 0 0 0 0 0 0 0 w (.inl rfl) rfl om_ dc_).mono fun e w' ⟨hr,hb⟩=>⟨?_,hb⟩⟩;rcases hr with ⟨h,_⟩|⟨_,h,_⟩|⟨_,_,h⟩
 · rw[ex_giv] at h;cases h
 · rw[ex_in] at h;cases h
 · have e1:coA 0 [] exS.hs=0:=ex_co.1
   have e2:coB 0 [] exS.hs=0:=ex_co.2;have e3:wkS 0 [] exS 0 0 0 0=wkV (coA 0 [] exS.hs) (coB 0 [] exS.hs) (depA exS) (depB exS) (rfL (haB 0 [] exS) 100 10100) (rfH (haA 0 [] exS) 100 10100) (pxA 0 0 (haA 0 [] exS) (haB 0 [] exS)) (pxB 0 0 (haA 0 [] exS) (haB 0 [] exS)) (seA 1 0 0 0 0 (haA 0 [] exS) (haB 0 [] exS)) (seB 1 0 0 0 0 (haA 0 [] exS) (haB 0 [] exS)) (haA 0 [] exS) (haB 0 [] exS) (hoA 0 [] exS 0 0 0 0) (hoB 0 [] exS 0 0 0 0):=rfl;rw[h,e3,e1,e2,ex_dep.1,ex_dep.2,ex_ha.1,ex_ha.2]
end
section
open Frm
theorem ex_sg:sgS exS=sgv [83,116,97,114] 1 0 0 2400000 0 1 400 0 100 10100:=rfl
theorem awake22_any(w:World)(he:En w):Calls Tryz.prog 7 #[] w fun e w'=>e=.returned (.bool true)∧Below w.heap.size w w':=by
 have KX:=hid example_any;obtain⟨r0,r1,x0,x1,s0,s1,h0,h1,hh0,hh1,hW⟩:=work_ex;have KW:=hid hW;obtain⟨x,hx⟩:=ex_text;have hT: ∀w,En w→Calls Tryz.prog 8 #[sgv [83,116,97,114] 1 0 0 2400000 0 1 400 0 100 10100] w fun e w'=>e=.returned (.tuple #[tx x,vi vk 0])∧Below w.heap.size w w':=by
  have h:=fun w he=>ctext_ok ex_si hx w he;simp only[ex_sg] at h;exact h
 have KT:=hid hT;have hP: ∀w,En w→Calls Tryz.prog 11 #[tx x] w fun e w'=>e=.returned (.tuple #[sgv [83,116,97,114] 1 0 0 2400000 0 1 400 0 100 10100,vi vk 0])∧Below w.heap.size w w':=by
  have h:=fun w he=>cparse_ok ex_si hx w he;simp only[ex_sg] at h;exact h
 have KP:=hid hP;have d0:decide (h0>2395000)=true:=decide_eq_true hh0;have d1:decide (h1<2396000)=true:=decide_eq_true hh1;have hA: ∀a b W,(binOp .eql 41 (tiv a b) (tiv a b)).run Tryz.prog W=.ok (.bool true) W:=fun a b W=>by rw[run_eql_struct,show(10000:Nat)=9998+1+1 from rfl,eqInArc];simp[Result.andThen]
 have hS: ∀W,(binOp .eql 25 (sgv [83,116,97,114] 1 0 0 2400000 0 1 400 0 100 10100) (sgv [83,116,97,114] 1 0 0 2400000 0 1 400 0 100 10100)).run Tryz.prog W=.ok (.bool true) W:=fun W=>by rw[run_eql_struct,eqInSight];simp[Result.andThen,sgE]
 have N9:=hid he;clear hW hx he hT hP;have N0:=hid (N9.out);have b0:=hid (Below.refl w.heap.size w);go_enter func7,ntmps7;go_wp2_with fail;(with_reducible refine(KX.out 2400000 _).mono ?_)
 rintro e w1 ⟨rfl,hb⟩
 have N1:=hid (N0.out.bl hb);have b1:=hid (b0.out.trans (hb.mono b0.out.size));clear hb N0 b0;go_wp2_with fail;(with_reducible refine(KW.out _).mono ?_)
 rintro e w2 ⟨rfl,hb⟩
 have N2:=hid (N1.out.bl hb);have b2:=hid (b1.out.trans (hb.mono b1.out.size));clear hb N1 b1;have W3:=hid (Blk.new w2 46 #[vi vk 0,vi vk 0,vi vk 3520,vi vk 3520,vi vk r0,vi vk r1,vi vk x0,vi vk x1,vi vk s0,vi vk s1,vi vk 2396480,vi vk 2396480,vi vk h0,vi vk h1]);have N3:=hid (N2.out.bl (bl_alloc w2 (.cells #[vi vk 0,vi vk 0,vi vk 3520,vi vk 3520,vi vk r0,vi vk r1,vi vk x0,vi vk x1,vi vk s0,vi vk s1,vi vk 2396480,vi vk 2396480,vi vk h0,vi vk h1] 46)));have b3:=hid (b2.out.trans ((bl_alloc w2 (.cells #[vi vk 0,vi vk 0,vi vk 3520,vi vk 3520,vi vk r0,vi vk r1,vi vk x0,vi vk x1,vi vk s0,vi vk s1,vi vk 2396480,vi vk 2396480,vi vk h0,vi vk h1] 46)).mono b2.out.size));clear N2 b2;go_upto_region 2 with fail
 generalize w2.alloc (.cells #[vi vk 0,vi vk 0,vi vk 3520,vi vk 3520,vi vk r0,vi vk r1,vi vk x0,vi vk x1,vi vk s0,vi vk s1,vi vk 2396480,vi vk 2396480,vi vk h0,vi vk h1] 46)=w4 at*;go_wp2_with fail;(with_reducible refine(KX.out 2400000 _).mono ?_)
 rintro e w5 ⟨rfl,hb⟩
 have W5:=hid (W3.out.below hb W3.out.lt);have N5:=hid (N3.out.bl hb);have b5:=hid (b3.out.trans (hb.mono b3.out.size));clear hb W3 N3 b3;go_wp2_with fail;(with_reducible refine(KT.out _ N5.out).mono ?_)
 rintro e w6 ⟨rfl,hb⟩
 have W6:=hid (W5.out.below hb W5.out.lt);have N6:=hid (N5.out.bl hb);have b6:=hid (b5.out.trans (hb.mono b5.out.size));clear hb W5 N5 b5;go_upto_region 3 with fail
 go_wp2_with fail;(with_reducible refine(KP.out _ N6.out).mono ?_)
 rintro e w7 ⟨rfl,hb⟩
 have W7:=hid (W6.out.below hb W6.out.lt);have N7:=hid (N6.out.bl hb);have b7:=hid (b6.out.trans (hb.mono b6.out.size));clear hb W6 N6 b6;have W8:=hid (W7.out.alloc (.cells #[txb [83,116,97,114],vi vk 1,vi vk 0,vi vk 0,vi vk 2400000,vi vk 0,vi vk 1,vi vk 400,vi vk 0,vi vk 100,vi vk 10100] 25));have P8:=hid (Blk.new w7 25 #[txb [83,116,97,114],vi vk 1,vi vk 0,vi vk 0,vi vk 2400000,vi vk 0,vi vk 1,vi vk 400,vi vk 0,vi vk 100,vi vk 10100]);have N8:=hid (N7.out.bl (bl_alloc w7 (.cells #[txb [83,116,97,114],vi vk 1,vi vk 0,vi vk 0,vi vk 2400000,vi vk 0,vi vk 1,vi vk 400,vi vk 0,vi vk 100,vi vk 10100] 25)));have b8:=hid (b7.out.trans ((bl_alloc w7 (.cells #[txb [83,116,97,114],vi vk 1,vi vk 0,vi vk 0,vi vk 2400000,vi vk 0,vi vk 1,vi vk 400,vi vk 0,vi vk 100,vi vk 10100] 25)).mono b7.out.size));clear W7 N7 b7;go_upto_region 4 with fail
 generalize w7.alloc (.cells #[txb [83,116,97,114],vi vk 1,vi vk 0,vi vk 0,vi vk 2400000,vi vk 0,vi vk 1,vi vk 400,vi vk 0,vi vk 100,vi vk 10100] 25)=w9 at*;have yW: ∀(s:BQ w9) i,s.w.cell? ⟨w2.heap.size,i,none⟩=(#[vi vk 0,vi vk 0,vi vk 3520,vi vk 3520,vi vk r0,vi vk r1,vi vk x0,vi vk x1,vi vk s0,vi vk s1,vi vk 2396480,vi vk 2396480,vi vk h0,vi vk h1]:Array Value)[i]? :=fun s i=>(W8.out.below s.hb W8.out.lt).cell i;have yP: ∀(s:BQ w9) i,s.w.cell? ⟨w7.heap.size,i,none⟩=(#[txb [83,116,97,114],vi vk 1,vi vk 0,vi vk 0,vi vk 2400000,vi vk 0,vi vk 1,vi vk 400,vi vk 0,vi vk 100,vi vk 10100]:Array Value)[i]? :=fun s i=>(P8.out.below s.hb P8.out.lt).cell i;refine wp_region_bq w9 (by kernel_rfl) (by kernel_rfl) (Below.refl _ _) ?_;repeat (go_big_quiet_step (first|(go_at_call 20;exact quiet_bq (KX.out _ _))|fail))
 refine wpQuiet_nil ?_;intro w10 hb;have W10:=hid (W8.out.below hb W8.out.lt);have P10:=hid (P8.out.below hb P8.out.lt);have N10:=hid (N8.out.bl hb);have b10:=hid (b8.out.trans (hb.mono b8.out.size));clear hb W8 P8 N8 b8 yW yP;go_wp2;go_ret;exact⟨rfl,b10.out⟩
end
section
open Frm
theorem parse_same(t:Bs)(hl:t.length≤300): ∃(b:Bs) (a1 a2 a3 a4 a5 a6 a7 a8 a9 a10 E:Int),(∀W,En W→Calls Tryz.prog 11 #[tx t] W fun e w'=>e=.returned (.tuple #[sgv b a1 a2 a3 a4 a5 a6 a7 a8 a9 a10,vi vk E])∧Below W.heap.size W w')∧
 (∀W,Calls Tryz.prog 12 #[tx t] W fun e w'=>e=.returned (.tuple #[sgv b a1 a2 a3 a4 a5 a6 a7 a8 a9 a10,vi vk E])∧Below W.heap.size W w'):=by
 by_cases hg: ∃s,GoodT s t
 · obtain⟨p,hp⟩:=hg
   cases hv:siS p with
   |true=>
    have key: ∀e,CpsR t e→e=.returned (.tuple #[sgS p,vi vk 0]):=fun e hr=>by
     rcases hr with ⟨q,h,h2,h3⟩|⟨q,h,h2,h3⟩|⟨h,_⟩
     · rw[h3,goodT_one h hp]
     · rw[goodT_one h hp,hv] at h2;cases h2
     · exact absurd ⟨p,hp⟩ h
    exact⟨p.body,p.limb,p.lo,p.hi,p.hs,p.by_,p.hor,p.eye,p.shore,p.temp,p.press,0,fun W hW=>(cparse_any t W hl hW).mono fun e w' ⟨hr,hb⟩=>⟨key e hr,hb⟩,fun W=>(rparse22_any t W hl).mono fun e w' ⟨hr,hb⟩=>⟨key e hr,hb⟩⟩
   |false=>
    have key: ∀e,CpsR t e→e=.returned (.tuple #[sg0,vi vk 1]):=fun e hr=>by
     rcases hr with ⟨q,h,h2,h3⟩|⟨q,h,h2,h3⟩|⟨h,_⟩
     · rw[goodT_one h hp,hv] at h2;cases h2
     · exact h3
     · exact absurd ⟨p,hp⟩ h
    exact⟨[],0,0,0,0,0,0,0,0,0,0,1,fun W hW=>(cparse_any t W hl hW).mono fun e w' ⟨hr,hb⟩=>⟨key e hr,hb⟩,fun W=>(rparse22_any t W hl).mono fun e w' ⟨hr,hb⟩=>⟨key e hr,hb⟩⟩
 · have key: ∀e,CpsR t e→e=.returned (.tuple #[sg0,vi vk 7]):=fun e hr=>by
    rcases hr with ⟨q,h,h2,h3⟩|⟨q,h,h2,h3⟩|⟨_,h⟩
    · exact absurd ⟨q,h⟩ hg
    · exact absurd ⟨q,h⟩ hg
    · exact h
   exact⟨[],0,0,0,0,0,0,0,0,0,0,7,fun W hW=>(cparse_any t W hl hW).mono fun e w' ⟨hr,hb⟩=>⟨key e hr,hb⟩,fun W=>(rparse22_any t W hl).mono fun e w' ⟨hr,hb⟩=>⟨key e hr,hb⟩⟩
theorem texts_any(s:Sgt)(t:Bs)(w:World)(he:En w):Calls Tryz.prog 3 #[sgS s,tx t] w fun e w'=>e=.returned (.bool true)∧Below w.heap.size w w':=by
 have KA:=hid awake22_any;have N9:=hid he;have hs1:=txb_size s.body;have hs2:=txb_size t;by_cases hl:s.body.length>100
 · have d1:decide ((s.body.length:Int)>100)=true:=decide_eq_true om_
   clear hl;obtain⟨body,limb,tlo,thi,hs,by_,hor,eye,shore,temp,press⟩:=s;simp only[] at*;have S0:=hid (Blk.new w 25 #[txb body,vi vk limb,vi vk tlo,vi vk thi,vi vk hs,vi vk by_,vi vk hor,vi vk eye,vi vk shore,vi vk temp,vi vk press]);have N0:=hid ((N9.out).bl (bl_alloc w (.cells #[txb body,vi vk limb,vi vk tlo,vi vk thi,vi vk hs,vi vk by_,vi vk hor,vi vk eye,vi vk shore,vi vk temp,vi vk press] 25)));have b0:=hid ((Below.refl w.heap.size w).alloc (Nat.le_refl _) (.cells #[txb body,vi vk limb,vi vk tlo,vi vk thi,vi vk hs,vi vk by_,vi vk hor,vi vk eye,vi vk shore,vi vk temp,vi vk press] 25));go_enter func3,ntmps3;go_upto_region 1 with fail
   generalize (w.alloc (.cells #[txb body,vi vk limb,vi vk tlo,vi vk thi,vi vk hs,vi vk by_,vi vk hor,vi vk eye,vi vk shore,vi vk temp,vi vk press] 25))=w1 at*;go_wp2_with fail;(with_reducible refine(KA.out _ N0.out).mono ?_)
   rintro e w2 ⟨rfl,hb⟩
   have S2:=hid (S0.out.below hb S0.out.lt);have N2:=hid (N0.out.bl hb);have b2:=hid (b0.out.trans (hb.mono b0.out.size));clear hb S0 N0 b0;go_upto_region 3 with fail
   have yS: ∀i,w2.cell? ⟨w.heap.size,i,none⟩=(#[txb body,vi vk limb,vi vk tlo,vi vk thi,vi vk hs,vi vk by_,vi vk hor,vi vk eye,vi vk shore,vi vk temp,vi vk press]:Array Value)[i]? :=fun i=>S2.out.cell i;go_upto_region 4 with fail
   go_wp2;go_ret;exact⟨rfl,b2.out⟩
 have d1:decide ((s.body.length:Int)>100)=false:=decide_eq_false om_;by_cases ht:t.length>300
 · have d2:decide ((t.length:Int)>300)=true:=decide_eq_true om_
   clear hl ht;obtain⟨body,limb,tlo,thi,hs,by_,hor,eye,shore,temp,press⟩:=s;simp only[] at*;have S0:=hid (Blk.new w 25 #[txb body,vi vk limb,vi vk tlo,vi vk thi,vi vk hs,vi vk by_,vi vk hor,vi vk eye,vi vk shore,vi vk temp,vi vk press]);have N0:=hid ((N9.out).bl (bl_alloc w (.cells #[txb body,vi vk limb,vi vk tlo,vi vk thi,vi vk hs,vi vk by_,vi vk hor,vi vk eye,vi vk shore,vi vk temp,vi vk press] 25)));have b0:=hid ((Below.refl w.heap.size w).alloc (Nat.le_refl _) (.cells #[txb body,vi vk limb,vi vk tlo,vi vk thi,vi vk hs,vi vk by_,vi vk hor,vi vk eye,vi vk shore,vi vk temp,vi vk press] 25));go_enter func3,ntmps3;go_upto_region 1 with fail
   generalize (w.alloc (.cells #[txb body,vi vk limb,vi vk tlo,vi vk thi,vi vk hs,vi vk by_,vi vk hor,vi vk eye,vi vk shore,vi vk temp,vi vk press] 25))=w1 at*;go_wp2_with fail;(with_reducible refine(KA.out _ N0.out).mono ?_)
   rintro e w2 ⟨rfl,hb⟩
   have S2:=hid (S0.out.below hb S0.out.lt);have N2:=hid (N0.out.bl hb);have b2:=hid (b0.out.trans (hb.mono b0.out.size));clear hb S0 N0 b0;go_upto_region 3 with fail
   have yS: ∀i,w2.cell? ⟨w.heap.size,i,none⟩=(#[txb body,vi vk limb,vi vk tlo,vi vk thi,vi vk hs,vi vk by_,vi vk hor,vi vk eye,vi vk shore,vi vk temp,vi vk press]:Array Value)[i]? :=fun i=>S2.out.cell i;go_upto_region 4 with fail
   go_wp2;go_ret;exact⟨rfl,b2.out⟩
 · have d2:decide ((t.length:Int)>300)=false:=decide_eq_false om_
   obtain⟨pbody,plimb,ptlo,pthi,phs,pby_,phor,peye,pshore,ptemp,ppress,E,kp,kr⟩:=parse_same t om_;have KP:=hid kp;have KR:=hid kr;clear kp kr;have HC:Hid ((siS s=false∧ ∀W,En W→Calls Tryz.prog 8 #[sgS s] W fun e w'=>e=.returned (.tuple #[tx [],vi vk 1])∧Below W.heap.size W w')∨
    (siS s=true∧ ∃x:Bs,(∀W,En W→Calls Tryz.prog 8 #[sgS s] W fun e w'=>e=.returned (.tuple #[tx x,vi vk 0])∧Below W.heap.size W w')∧(∀W,Calls Tryz.prog 10 #[sgS s] W fun e w'=>e=.returned (.tuple #[tx x,vi vk 0])∧Below W.heap.size W w'))∨
    (siS s=true∧(∀W,En W→Calls Tryz.prog 8 #[sgS s] W fun e w'=>e=.returned (.tuple #[tx [],vi vk 20])∧Below W.heap.size W w')∧(∀W,Calls Tryz.prog 10 #[sgS s] W fun e w'=>e=.returned (.tuple #[tx [],vi vk 20])∧Below W.heap.size W w'))):=hid (by
    cases hv:siS s with
    |false=>
     refine .inl ⟨rfl,fun W hW=>(ctext_any s W om_ hW).mono fun e w' ⟨hr,hb⟩=>⟨?_,hb⟩⟩;rcases hr with ⟨_,h⟩|⟨h,_⟩|⟨h,_⟩
     · exact h
     · rw[hv] at h;cases h
     · rw[hv] at h;cases h
    |true=>
     by_cases hx: ∃x,TextOf s x
     · obtain⟨x,hx⟩:=hx
       refine .inr (.inl ⟨rfl,x,fun W hW=>ctext_ok hv hx W hW,fun W=>(rtext22_any s W hv).mono fun e w' ⟨hr,hb⟩=>⟨?_,hb⟩⟩);rcases hr with ⟨y,hy,h⟩|⟨h,_⟩
       · rw[h,text_one hx hy]
       · exact absurd ⟨x,hx⟩ h
     · refine .inr (.inr ⟨rfl,fun W hW=>(ctext_any s W om_ hW).mono fun e w' ⟨hr,hb⟩=>⟨?_,hb⟩,fun W=>(rtext22_any s W hv).mono fun e w' ⟨hr,hb⟩=>⟨?_,hb⟩⟩)
       · rcases hr with ⟨h,_⟩|⟨_,x,h,_⟩|⟨_,_,h⟩
         · rw[hv] at h;cases h
         · exact absurd ⟨x,h⟩ hx
         · exact h
       · rcases hr with ⟨y,hy,_⟩|⟨_,h⟩
         · exact absurd ⟨y,hy⟩ hx
         · exact h)
   have KV:Hid (∀W,Calls Tryz.prog 9 #[sgS s] W fun e w'=>e=.returned (.bool (siS s))∧Below W.heap.size W w'):=hid fun W=>rValid_any s.body s.limb s.lo s.hi s.hs s.by_ s.hor s.eye s.shore s.temp s.press W om_;have KQ: ∀W,(binOp .eql 25 (sgv pbody plimb ptlo pthi phs pby_ phor peye pshore ptemp ppress) (sgv pbody plimb ptlo pthi phs pby_ phor peye pshore ptemp ppress)).run Tryz.prog W=.ok (.bool true) W:=fun W=>by rw[run_eql_struct,eqInSight];simp[Result.andThen,sgE]
   obtain⟨bv,hbv⟩: ∃b,siS s=b:=⟨_,rfl⟩;rw[hbv] at HC KV;clear hl ht hbv he;obtain⟨body,limb,tlo,thi,hs,by_,hor,eye,shore,temp,press⟩:=s;simp only[] at*;have S0:=hid (Blk.new w 25 #[txb body,vi vk limb,vi vk tlo,vi vk thi,vi vk hs,vi vk by_,vi vk hor,vi vk eye,vi vk shore,vi vk temp,vi vk press]);have N0:=hid ((N9.out).bl (bl_alloc w (.cells #[txb body,vi vk limb,vi vk tlo,vi vk thi,vi vk hs,vi vk by_,vi vk hor,vi vk eye,vi vk shore,vi vk temp,vi vk press] 25)));have b0:=hid ((Below.refl w.heap.size w).alloc (Nat.le_refl _) (.cells #[txb body,vi vk limb,vi vk tlo,vi vk thi,vi vk hs,vi vk by_,vi vk hor,vi vk eye,vi vk shore,vi vk temp,vi vk press] 25));go_enter func3,ntmps3;go_upto_region 1 with fail
   generalize (w.alloc (.cells #[txb body,vi vk limb,vi vk tlo,vi vk thi,vi vk hs,vi vk by_,vi vk hor,vi vk eye,vi vk shore,vi vk temp,vi vk press] 25))=w1 at*;go_wp2_with fail;(with_reducible refine(KA.out _ N0.out).mono ?_)
   rintro e w2 ⟨rfl,hb⟩
   have S2:=hid (S0.out.below hb S0.out.lt);have N2:=hid (N0.out.bl hb);have b2:=hid (b0.out.trans (hb.mono b0.out.size));clear hb S0 N0 b0;go_upto_region 3 with fail
   have yS: ∀i,w2.cell? ⟨w.heap.size,i,none⟩=(#[txb body,vi vk limb,vi vk tlo,vi vk thi,vi vk hs,vi vk by_,vi vk hor,vi vk eye,vi vk shore,vi vk temp,vi vk press]:Array Value)[i]? :=fun i=>S2.out.cell i;go_upto_region 5 with fail
   rcases HC.out with ⟨hv,KT⟩|⟨hv,x,KT,KU⟩|⟨hv,KT,KU⟩
   ·
    replace KT:=hid KT
    subst hv;go_wp2_with fail;(with_reducible refine(KT.out _ N2.out).mono ?_)
    rintro e w3 ⟨rfl,hb⟩
    have S3:=hid (S2.out.below hb S2.out.lt);have N3:=hid (N2.out.bl hb);have b3:=hid (b2.out.trans (hb.mono b2.out.size));clear hb S2 N2 b2 yS;go_upto_region 6 with fail
    have yS: ∀i,w3.cell? ⟨w.heap.size,i,none⟩=(#[txb body,vi vk limb,vi vk tlo,vi vk thi,vi vk hs,vi vk by_,vi vk hor,vi vk eye,vi vk shore,vi vk temp,vi vk press]:Array Value)[i]? :=fun i=>S3.out.cell i;go_wp2_with fail;(with_reducible refine(KV.out _).mono ?_)
    rintro e w4 ⟨rfl,hb⟩
    have S4:=hid (S3.out.below hb S3.out.lt);have N4:=hid (N3.out.bl hb);have b4:=hid (b3.out.trans (hb.mono b3.out.size));clear hb S3 N3 b3 yS;go_upto_region 12 with fail
    go_wp2_with fail;(with_reducible refine(KP.out _ N4.out).mono ?_)
    rintro e w5 ⟨rfl,hb⟩
    have S5:=hid (S4.out.below hb S4.out.lt);have N5:=hid (N4.out.bl hb);have b5:=hid (b4.out.trans (hb.mono b4.out.size));clear hb S4 N4 b4;have S6:=hid (S5.out.alloc (.cells #[txb pbody,vi vk plimb,vi vk ptlo,vi vk pthi,vi vk phs,vi vk pby_,vi vk phor,vi vk peye,vi vk pshore,vi vk ptemp,vi vk ppress] 25));have P6:=hid (Blk.new w5 25 #[txb pbody,vi vk plimb,vi vk ptlo,vi vk pthi,vi vk phs,vi vk pby_,vi vk phor,vi vk peye,vi vk pshore,vi vk ptemp,vi vk ppress]);have N6:=hid (N5.out.bl (bl_alloc w5 (.cells #[txb pbody,vi vk plimb,vi vk ptlo,vi vk pthi,vi vk phs,vi vk pby_,vi vk phor,vi vk peye,vi vk pshore,vi vk ptemp,vi vk ppress] 25)));have b6:=hid (b5.out.trans ((bl_alloc w5 (.cells #[txb pbody,vi vk plimb,vi vk ptlo,vi vk pthi,vi vk phs,vi vk pby_,vi vk phor,vi vk peye,vi vk pshore,vi vk ptemp,vi vk ppress] 25)).mono b5.out.size));clear S5 N5 b5;go_upto_region 13 with fail
    generalize w5.alloc (.cells #[txb pbody,vi vk plimb,vi vk ptlo,vi vk pthi,vi vk phs,vi vk pby_,vi vk phor,vi vk peye,vi vk pshore,vi vk ptemp,vi vk ppress] 25)=w7 at*;go_wp2_with fail;(with_reducible refine(KR.out _).mono ?_)
    rintro e w8 ⟨rfl,hb⟩
    have S8:=hid (S6.out.below hb S6.out.lt);have P8:=hid (P6.out.below hb P6.out.lt);have N8:=hid (N6.out.bl hb);have b8:=hid (b6.out.trans (hb.mono b6.out.size));clear hb S6 P6 N6 b6;have S9:=hid (S8.out.alloc (.cells #[txb pbody,vi vk plimb,vi vk ptlo,vi vk pthi,vi vk phs,vi vk pby_,vi vk phor,vi vk peye,vi vk pshore,vi vk ptemp,vi vk ppress] 25));have P9:=hid (P8.out.alloc (.cells #[txb pbody,vi vk plimb,vi vk ptlo,vi vk pthi,vi vk phs,vi vk pby_,vi vk phor,vi vk peye,vi vk pshore,vi vk ptemp,vi vk ppress] 25));have Q9:=hid (Blk.new w8 25 #[txb pbody,vi vk plimb,vi vk ptlo,vi vk pthi,vi vk phs,vi vk pby_,vi vk phor,vi vk peye,vi vk pshore,vi vk ptemp,vi vk ppress]);have N9:=hid (N8.out.bl (bl_alloc w8 (.cells #[txb pbody,vi vk plimb,vi vk ptlo,vi vk pthi,vi vk phs,vi vk pby_,vi vk phor,vi vk peye,vi vk pshore,vi vk ptemp,vi vk ppress] 25)));have b9:=hid (b8.out.trans ((bl_alloc w8 (.cells #[txb pbody,vi vk plimb,vi vk ptlo,vi vk pthi,vi vk phs,vi vk pby_,vi vk phor,vi vk peye,vi vk pshore,vi vk ptemp,vi vk ppress] 25)).mono b8.out.size));clear S8 P8 N8 b8;go_upto_region 14 with fail
    generalize w8.alloc (.cells #[txb pbody,vi vk plimb,vi vk ptlo,vi vk pthi,vi vk phs,vi vk pby_,vi vk phor,vi vk peye,vi vk pshore,vi vk ptemp,vi vk ppress] 25)=w10 at*;have yP: ∀i,w10.cell? ⟨w5.heap.size,i,none⟩=(#[txb pbody,vi vk plimb,vi vk ptlo,vi vk pthi,vi vk phs,vi vk pby_,vi vk phor,vi vk peye,vi vk pshore,vi vk ptemp,vi vk ppress]:Array Value)[i]? :=fun i=>P9.out.cell i;have yQ: ∀i,w10.cell? ⟨w8.heap.size,i,none⟩=(#[txb pbody,vi vk plimb,vi vk ptlo,vi vk pthi,vi vk phs,vi vk pby_,vi vk phor,vi vk peye,vi vk pshore,vi vk ptemp,vi vk ppress]:Array Value)[i]? :=fun i=>Q9.out.cell i;go_wp2;go_ret;exact⟨rfl,b9.out⟩
   ·
    replace KT:=hid KT
    subst hv;replace KU:=hid KU
    go_wp2_with fail;(with_reducible refine(KT.out _ N2.out).mono ?_)
    rintro e w3 ⟨rfl,hb⟩
    have S3:=hid (S2.out.below hb S2.out.lt);have N3:=hid (N2.out.bl hb);have b3:=hid (b2.out.trans (hb.mono b2.out.size));clear hb S2 N2 b2 yS;go_upto_region 6 with fail
    have yS: ∀i,w3.cell? ⟨w.heap.size,i,none⟩=(#[txb body,vi vk limb,vi vk tlo,vi vk thi,vi vk hs,vi vk by_,vi vk hor,vi vk eye,vi vk shore,vi vk temp,vi vk press]:Array Value)[i]? :=fun i=>S3.out.cell i;go_wp2_with fail;(with_reducible refine(KV.out _).mono ?_)
    rintro e w4 ⟨rfl,hb⟩
    have S4:=hid (S3.out.below hb S3.out.lt);have N4:=hid (N3.out.bl hb);have b4:=hid (b3.out.trans (hb.mono b3.out.size));clear hb S3 N3 b3 yS;go_upto_region 9 with fail
    have yS: ∀i,w4.cell? ⟨w.heap.size,i,none⟩=(#[txb body,vi vk limb,vi vk tlo,vi vk thi,vi vk hs,vi vk by_,vi vk hor,vi vk eye,vi vk shore,vi vk temp,vi vk press]:Array Value)[i]? :=fun i=>S4.out.cell i;go_wp2_with fail;(with_reducible refine(KU.out _).mono ?_)
    rintro e w5 ⟨rfl,hb⟩
    have S5:=hid (S4.out.below hb S4.out.lt);have N5:=hid (N4.out.bl hb);have b5:=hid (b4.out.trans (hb.mono b4.out.size));clear hb S4 N4 b4 yS;go_upto_region 12 with fail
    go_wp2_with fail;(with_reducible refine(KP.out _ N5.out).mono ?_)
    rintro e w6 ⟨rfl,hb⟩
    have S6:=hid (S5.out.below hb S5.out.lt);have N6:=hid (N5.out.bl hb);have b6:=hid (b5.out.trans (hb.mono b5.out.size));clear hb S5 N5 b5;have S7:=hid (S6.out.alloc (.cells #[txb pbody,vi vk plimb,vi vk ptlo,vi vk pthi,vi vk phs,vi vk pby_,vi vk phor,vi vk peye,vi vk pshore,vi vk ptemp,vi vk ppress] 25));have P7:=hid (Blk.new w6 25 #[txb pbody,vi vk plimb,vi vk ptlo,vi vk pthi,vi vk phs,vi vk pby_,vi vk phor,vi vk peye,vi vk pshore,vi vk ptemp,vi vk ppress]);have N7:=hid (N6.out.bl (bl_alloc w6 (.cells #[txb pbody,vi vk plimb,vi vk ptlo,vi vk pthi,vi vk phs,vi vk pby_,vi vk phor,vi vk peye,vi vk pshore,vi vk ptemp,vi vk ppress] 25)));have b7:=hid (b6.out.trans ((bl_alloc w6 (.cells #[txb pbody,vi vk plimb,vi vk ptlo,vi vk pthi,vi vk phs,vi vk pby_,vi vk phor,vi vk peye,vi vk pshore,vi vk ptemp,vi vk ppress] 25)).mono b6.out.size));clear S6 N6 b6;go_upto_region 13 with fail
    generalize w6.alloc (.cells #[txb pbody,vi vk plimb,vi vk ptlo,vi vk pthi,vi vk phs,vi vk pby_,vi vk phor,vi vk peye,vi vk pshore,vi vk ptemp,vi vk ppress] 25)=w8 at*;go_wp2_with fail;(with_reducible refine(KR.out _).mono ?_)
    rintro e w9 ⟨rfl,hb⟩
    have S9:=hid (S7.out.below hb S7.out.lt);have P9:=hid (P7.out.below hb P7.out.lt);have N9:=hid (N7.out.bl hb);have b9:=hid (b7.out.trans (hb.mono b7.out.size));clear hb S7 P7 N7 b7;have S10:=hid (S9.out.alloc (.cells #[txb pbody,vi vk plimb,vi vk ptlo,vi vk pthi,vi vk phs,vi vk pby_,vi vk phor,vi vk peye,vi vk pshore,vi vk ptemp,vi vk ppress] 25));have P10:=hid (P9.out.alloc (.cells #[txb pbody,vi vk plimb,vi vk ptlo,vi vk pthi,vi vk phs,vi vk pby_,vi vk phor,vi vk peye,vi vk pshore,vi vk ptemp,vi vk ppress] 25));have Q10:=hid (Blk.new w9 25 #[txb pbody,vi vk plimb,vi vk ptlo,vi vk pthi,vi vk phs,vi vk pby_,vi vk phor,vi vk peye,vi vk pshore,vi vk ptemp,vi vk ppress]);have N10:=hid (N9.out.bl (bl_alloc w9 (.cells #[txb pbody,vi vk plimb,vi vk ptlo,vi vk pthi,vi vk phs,vi vk pby_,vi vk phor,vi vk peye,vi vk pshore,vi vk ptemp,vi vk ppress] 25)));have b10:=hid (b9.out.trans ((bl_alloc w9 (.cells #[txb pbody,vi vk plimb,vi vk ptlo,vi vk pthi,vi vk phs,vi vk pby_,vi vk phor,vi vk peye,vi vk pshore,vi vk ptemp,vi vk ppress] 25)).mono b9.out.size));clear S9 P9 N9 b9;go_upto_region 14 with fail
    generalize w9.alloc (.cells #[txb pbody,vi vk plimb,vi vk ptlo,vi vk pthi,vi vk phs,vi vk pby_,vi vk phor,vi vk peye,vi vk pshore,vi vk ptemp,vi vk ppress] 25)=w11 at*;have yP: ∀i,w11.cell? ⟨w6.heap.size,i,none⟩=(#[txb pbody,vi vk plimb,vi vk ptlo,vi vk pthi,vi vk phs,vi vk pby_,vi vk phor,vi vk peye,vi vk pshore,vi vk ptemp,vi vk ppress]:Array Value)[i]? :=fun i=>P10.out.cell i;have yQ: ∀i,w11.cell? ⟨w9.heap.size,i,none⟩=(#[txb pbody,vi vk plimb,vi vk ptlo,vi vk pthi,vi vk phs,vi vk pby_,vi vk phor,vi vk peye,vi vk pshore,vi vk ptemp,vi vk ppress]:Array Value)[i]? :=fun i=>Q10.out.cell i;go_wp2;go_ret;exact⟨rfl,b10.out⟩
   ·
    replace KT:=hid KT
    subst hv;replace KU:=hid KU
    go_wp2_with fail;(with_reducible refine(KT.out _ N2.out).mono ?_)
    rintro e w3 ⟨rfl,hb⟩
    have S3:=hid (S2.out.below hb S2.out.lt);have N3:=hid (N2.out.bl hb);have b3:=hid (b2.out.trans (hb.mono b2.out.size));clear hb S2 N2 b2 yS;go_upto_region 6 with fail
    have yS: ∀i,w3.cell? ⟨w.heap.size,i,none⟩=(#[txb body,vi vk limb,vi vk tlo,vi vk thi,vi vk hs,vi vk by_,vi vk hor,vi vk eye,vi vk shore,vi vk temp,vi vk press]:Array Value)[i]? :=fun i=>S3.out.cell i;go_wp2_with fail;(with_reducible refine(KV.out _).mono ?_)
    rintro e w4 ⟨rfl,hb⟩
    have S4:=hid (S3.out.below hb S3.out.lt);have N4:=hid (N3.out.bl hb);have b4:=hid (b3.out.trans (hb.mono b3.out.size));clear hb S3 N3 b3 yS;go_upto_region 9 with fail
    have yS: ∀i,w4.cell? ⟨w.heap.size,i,none⟩=(#[txb body,vi vk limb,vi vk tlo,vi vk thi,vi vk hs,vi vk by_,vi vk hor,vi vk eye,vi vk shore,vi vk temp,vi vk press]:Array Value)[i]? :=fun i=>S4.out.cell i;go_wp2_with fail;(with_reducible refine(KU.out _).mono ?_)
    rintro e w5 ⟨rfl,hb⟩
    have S5:=hid (S4.out.below hb S4.out.lt);have N5:=hid (N4.out.bl hb);have b5:=hid (b4.out.trans (hb.mono b4.out.size));clear hb S4 N4 b4 yS;go_upto_region 12 with fail
    go_wp2_with fail;(with_reducible refine(KP.out _ N5.out).mono ?_)
    rintro e w6 ⟨rfl,hb⟩
    have S6:=hid (S5.out.below hb S5.out.lt);have N6:=hid (N5.out.bl hb);have b6:=hid (b5.out.trans (hb.mono b5.out.size));clear hb S5 N5 b5;have S7:=hid (S6.out.alloc (.cells #[txb pbody,vi vk plimb,vi vk ptlo,vi vk pthi,vi vk phs,vi vk pby_,vi vk phor,vi vk peye,vi vk pshore,vi vk ptemp,vi vk ppress] 25));have P7:=hid (Blk.new w6 25 #[txb pbody,vi vk plimb,vi vk ptlo,vi vk pthi,vi vk phs,vi vk pby_,vi vk phor,vi vk peye,vi vk pshore,vi vk ptemp,vi vk ppress]);have N7:=hid (N6.out.bl (bl_alloc w6 (.cells #[txb pbody,vi vk plimb,vi vk ptlo,vi vk pthi,vi vk phs,vi vk pby_,vi vk phor,vi vk peye,vi vk pshore,vi vk ptemp,vi vk ppress] 25)));have b7:=hid (b6.out.trans ((bl_alloc w6 (.cells #[txb pbody,vi vk plimb,vi vk ptlo,vi vk pthi,vi vk phs,vi vk pby_,vi vk phor,vi vk peye,vi vk pshore,vi vk ptemp,vi vk ppress] 25)).mono b6.out.size));clear S6 N6 b6;go_upto_region 13 with fail
    generalize w6.alloc (.cells #[txb pbody,vi vk plimb,vi vk ptlo,vi vk pthi,vi vk phs,vi vk pby_,vi vk phor,vi vk peye,vi vk pshore,vi vk ptemp,vi vk ppress] 25)=w8 at*;go_wp2_with fail;(with_reducible refine(KR.out _).mono ?_)
    rintro e w9 ⟨rfl,hb⟩
    have S9:=hid (S7.out.below hb S7.out.lt);have P9:=hid (P7.out.below hb P7.out.lt);have N9:=hid (N7.out.bl hb);have b9:=hid (b7.out.trans (hb.mono b7.out.size));clear hb S7 P7 N7 b7;have S10:=hid (S9.out.alloc (.cells #[txb pbody,vi vk plimb,vi vk ptlo,vi vk pthi,vi vk phs,vi vk pby_,vi vk phor,vi vk peye,vi vk pshore,vi vk ptemp,vi vk ppress] 25));have P10:=hid (P9.out.alloc (.cells #[txb pbody,vi vk plimb,vi vk ptlo,vi vk pthi,vi vk phs,vi vk pby_,vi vk phor,vi vk peye,vi vk pshore,vi vk ptemp,vi vk ppress] 25));have Q10:=hid (Blk.new w9 25 #[txb pbody,vi vk plimb,vi vk ptlo,vi vk pthi,vi vk phs,vi vk pby_,vi vk phor,vi vk peye,vi vk pshore,vi vk ptemp,vi vk ppress]);have N10:=hid (N9.out.bl (bl_alloc w9 (.cells #[txb pbody,vi vk plimb,vi vk ptlo,vi vk pthi,vi vk phs,vi vk pby_,vi vk phor,vi vk peye,vi vk pshore,vi vk ptemp,vi vk ppress] 25)));have b10:=hid (b9.out.trans ((bl_alloc w9 (.cells #[txb pbody,vi vk plimb,vi vk ptlo,vi vk pthi,vi vk phs,vi vk pby_,vi vk phor,vi vk peye,vi vk pshore,vi vk ptemp,vi vk ppress] 25)).mono b9.out.size));clear S9 P9 N9 b9;go_upto_region 14 with fail
    generalize w9.alloc (.cells #[txb pbody,vi vk plimb,vi vk ptlo,vi vk pthi,vi vk phs,vi vk pby_,vi vk phor,vi vk peye,vi vk pshore,vi vk ptemp,vi vk ppress] 25)=w11 at*;have yP: ∀i,w11.cell? ⟨w6.heap.size,i,none⟩=(#[txb pbody,vi vk plimb,vi vk ptlo,vi vk pthi,vi vk phs,vi vk pby_,vi vk phor,vi vk peye,vi vk pshore,vi vk ptemp,vi vk ppress]:Array Value)[i]? :=fun i=>P10.out.cell i;have yQ: ∀i,w11.cell? ⟨w9.heap.size,i,none⟩=(#[txb pbody,vi vk plimb,vi vk ptlo,vi vk pthi,vi vk phs,vi vk pby_,vi vk phor,vi vk peye,vi vk pshore,vi vk ptemp,vi vk ppress]:Array Value)[i]? :=fun i=>Q10.out.cell i;go_wp2;go_ret;exact⟨rfl,b10.out⟩
end
end Go.Proofs.YtbpnacacnncopaaGreatDoor
