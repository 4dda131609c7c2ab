/- The reference's clock: Parse. -/
import Derived.Test.YtbpnacacnncopaaGreatDoorHSv
set_option linter.unusedSimpArgs false
set_option linter.unusedVariables false
set_option maxHeartbeats 4000000
set_option maxRecDepth 100000
open Go.RowKit
open Go.Lib (hid)
open Go.Proofs.Tryz
open Go.Value renaming int→vi
open Go.IntKind renaming i64→vk
namespace Go.Proofs.YtbpnacacnncopaaGreatDoor
section
open Go.Shelf Frm
open Lib (decDigits)
theorem back19{A:Bs}{b0 b1 b2 b3 b4 b5 b6 b7 b8:UInt8}{t:Int}(hA:A.length=10)(h:IsInst t (A++[b0,b1,b2,b3,b4,b5,b6,b7,b8])):
 ∃x H M X,CA.vld x∧dateT x=A∧b0=32∧b3=58∧b6=58∧rN [b1,b2] 2=(H,true)∧rN [b4,b5] 2=(M,true)∧rN [b7,b8] 2=(X,true)∧H≤23∧M≤59∧X≤59∧t=CA.num x*86400000+((msN H M X 0:Nat):Int):=by
 obtain⟨x,k,h1,h2,h3,h4,h5⟩:=inst_back hA h;obtain⟨c1,c2,c4,c5,c7,c8,H,M,X,r1,r2,r3,l1,l2,l3,h6⟩:=clock_back h2;rcases h6 with ⟨rfl,e⟩|⟨d0,d1,d2,F,_,_,_,e⟩
 · rw[e] at h4
   simp only[List.cons.injEq,and_true] at h4;obtain⟨rfl,rfl,rfl,rfl,rfl,rfl,rfl,rfl,rfl⟩:=h4;exact⟨x,H,M,X,h1,h3.symm,rfl,rfl,rfl,r1,r2,r3,l1,l2,l3,h5⟩
 · rw[e] at h4
   simp at h4
theorem back23{A:Bs}{b0 b1 b2 b3 b4 b5 b6 b7 b8 b9 c0 c1 c2:UInt8}{t:Int}(hA:A.length=10)(h:IsInst t (A++[b0,b1,b2,b3,b4,b5,b6,b7,b8,b9,c0,c1,c2])):
 ∃x H M X F,CA.vld x∧dateT x=A∧b0=32∧b3=58∧b6=58∧rN [b1,b2] 2=(H,true)∧rN [b4,b5] 2=(M,true)∧rN [b7,b8] 2=(X,true)∧H≤23∧M≤59∧X≤59∧b9=46∧rN [c0,c1,c2] 3=(F,true)∧F≠0∧t=CA.num x*86400000+((msN H M X F:Nat):Int):=by
 obtain⟨x,k,h1,h2,h3,h4,h5⟩:=inst_back hA h;obtain⟨c1,c2,c4,c5,c7,c8,H,M,X,r1,r2,r3,l1,l2,l3,h6⟩:=clock_back h2;rcases h6 with ⟨rfl,e⟩|⟨d0,d1,d2,F,r4,f0,rfl,e⟩
 · rw[e] at h4
   simp at h4
 · rw[e] at h4
   simp only[List.cons.injEq,and_true] at h4;obtain⟨rfl,rfl,rfl,rfl,rfl,rfl,rfl,rfl,rfl,rfl,rfl,rfl,rfl⟩:=h4;exact⟨x,H,M,X,F,h1,h3.symm,rfl,rfl,rfl,r1,r2,r3,l1,l2,l3,rfl,r4,f0,h5⟩
theorem ms_bd{H M X F:Nat}(h:H≤23)(m:M≤59)(x:X≤59)(f:F<1000):msN H M X F<86400000:=by unfold msN;omega
theorem rN_bd(l:Bs)(k:Nat)(hk:k≤3):(rN l k).1<1000:=by
 unfold rN;split
 · rename_i q
   have:=numU_dg3 (List.all_eq_true.1 q.2);rw[q.1] at this;exact Nat.lt_of_lt_of_le this (Nat.le_trans (Nat.pow_le_pow_right om_ hk) dc_)
 · decide
theorem rdP_any(A:Bs)(W:World)(h:A.length=10):Calls Tryz.prog 87 #[tx A] W fun e w'=>((∃(y d:Int) (m:Nat),CA.vld ⟨y,m,d⟩∧dateT ⟨y,m,d⟩=A∧e=.returned (.tuple #[.agg #[vi vk y,vi vk ((m:Int)),vi vk d],.bool true]))∨((¬ ∃x,CA.vld x∧dateT x=A)∧e=.returned (.tuple #[.agg #[vi vk 0,vi vk 0,vi vk 0],.bool false])))∧Below W.heap.size W w':=
 (rdParse_any A W om_).mono fun e w' ⟨hr,hb⟩=>by
   refine⟨?_,hb⟩;rcases hr with ⟨⟨y,m,d⟩,h1,h2,h3⟩|h
   · exact .inl ⟨y,d,m,h1,h2,h3⟩
   · exact .inr h
def RcR(s:Bs)(e:Ending):Prop:=(∃t,IsInst t s∧insB t=true∧e=.returned (.tuple #[vi vk t,vi vk 0]))∨(∃t,IsInst t s∧insB t=false∧e=.returned (.tuple #[vi vk 0,vi vk 5]))∨((∀t,¬IsInst t s)∧e=.returned (.tuple #[vi vk 0,vi vk 7]))
theorem ckP_any(s:Bs)(w:World)(hno: ¬s.length=19∧ ¬s.length=23):Calls Tryz.prog 44 #[tx s] w fun e w'=>RcR s e∧Below w.heap.size w w':=by
 have hz:=tx_size s;have HNO:Hid (RcR s (.returned (.tuple #[vi vk 0,vi vk 7]))):=hid (.inr (.inr ⟨fun t ⟨x,h1,h2,h3⟩=>by
  obtain⟨b1,b2,b4,b5,b7,b8,H,M,X,_,_,_,_,_,_,h6⟩:=clock_back (k:=(t%86400000).toNat) om_;have hd:=dateT_len h1;rcases h6 with ⟨_,e⟩|⟨c0,c1,c2,F,_,_,_,e⟩
  · rw[e] at h3
    have:=congrArg List.length h3;simp[hd] at this;omega
  · rw[e] at h3
    have:=congrArg List.length h3;simp[hd] at this;omega,rfl⟩))
 obtain⟨n,hn⟩: ∃n,s.length=n:=⟨_,rfl⟩;rw[hn] at hz hno;have q1:((n:Int) != 19)=true:=by simp;omega
 have q2:((n:Int) != 23)=true:=by simp;omega
 generalize RcR s=R at*;clear hn hno;go_enter func44,ntmps44;go_wp2;go_ret2
 exact⟨HNO.out,Below.refl _ _⟩
theorem ckP19_any(s:Bs)(w:World)(hl:s.length=19):Calls Tryz.prog 44 #[tx s] w fun e w'=>RcR s e∧Below w.heap.size w w':=by
 have hz:=tx_size s;rw[hl] at hz;obtain⟨a0,a1,a2,a3,a4,a5,a6,a7,a8,a9,b0,b1,b2,b3,b4,b5,b6,b7,b8,rfl⟩: ∃a0 a1 a2 a3 a4 a5 a6 a7 a8 a9 b0 b1 b2 b3 b4 b5 b6 b7 b8,s=[a0,a1,a2,a3,a4,a5,a6,a7,a8,a9,b0,b1,b2,b3,b4,b5,b6,b7,b8]:=by
  match s,hl with
  | [a0,a1,a2,a3,a4,a5,a6,a7,a8,a9,b0,b1,b2,b3,b4,b5,b6,b7,b8],_=>exact⟨a0,a1,a2,a3,a4,a5,a6,a7,a8,a9,b0,b1,b2,b3,b4,b5,b6,b7,b8,rfl⟩
 have g10:=getBL (s:=[a0,a1,a2,a3,a4,a5,a6,a7,a8,a9,b0,b1,b2,b3,b4,b5,b6,b7,b8]) (k:=10) (c:=b0) rfl;have g13:=getBL (s:=[a0,a1,a2,a3,a4,a5,a6,a7,a8,a9,b0,b1,b2,b3,b4,b5,b6,b7,b8]) (k:=13) (c:=b3) rfl;have g16:=getBL (s:=[a0,a1,a2,a3,a4,a5,a6,a7,a8,a9,b0,b1,b2,b3,b4,b5,b6,b7,b8]) (k:=16) (c:=b6) rfl;have s0:=slice_hd [a0,a1,a2,a3,a4,a5,a6,a7,a8,a9,b0,b1,b2,b3,b4,b5,b6,b7,b8] 10 (by simp);have s1:=slice_tx [a0,a1,a2,a3,a4,a5,a6,a7,a8,a9,b0,b1,b2,b3,b4,b5,b6,b7,b8] 11 13 om_ (by simp);have s2:=slice_tx [a0,a1,a2,a3,a4,a5,a6,a7,a8,a9,b0,b1,b2,b3,b4,b5,b6,b7,b8] 14 16 om_ (by simp);have s3:=slice_tx [a0,a1,a2,a3,a4,a5,a6,a7,a8,a9,b0,b1,b2,b3,b4,b5,b6,b7,b8] 17 19 om_ (by simp);simp only[List.take_succ_cons,List.take_zero,List.drop_succ_cons,List.drop_zero,Nat.reduceSub] at s0 s1 s2 s3;rw[show((10:Nat):Int)=10 from rfl] at s0;rw[show((11:Nat):Int)=11 from rfl,show((13:Nat):Int)=13 from rfl] at s1;rw[show((14:Nat):Int)=14 from rfl,show((16:Nat):Int)=16 from rfl] at s2;rw[show((17:Nat):Int)=17 from rfl,show((19:Nat):Int)=19 from rfl] at s3;have hback:=fun(t:Int) (h:IsInst t [a0,a1,a2,a3,a4,a5,a6,a7,a8,a9,b0,b1,b2,b3,b4,b5,b6,b7,b8])=>back19 (A:=[a0,a1,a2,a3,a4,a5,a6,a7,a8,a9]) (b0:=b0) (b1:=b1) (b2:=b2) (b3:=b3) (b4:=b4) (b5:=b5) (b6:=b6) (b7:=b7) (b8:=b8) (t:=t) rfl h;have KH:=hid (fun W=>rnumber_any [b1,b2] 2 W om_ (by simp));have lH:=rN_bd [b1,b2] 2 om_;have KM:=hid (fun W=>rnumber_any [b4,b5] 2 W om_ (by simp));have lM:=rN_bd [b4,b5] 2 om_;have KX:=hid (fun W=>rnumber_any [b7,b8] 2 W om_ (by simp));have lX:=rN_bd [b7,b8] 2 om_;have hfore: ∀(x:CA.Date) (H M X:Nat),CA.vld x→dateT x=[a0,a1,a2,a3,a4,a5,a6,a7,a8,a9]→b0=32→b3=58→b6=58→rN [b1,b2] 2=(H,true)→rN [b4,b5] 2=(M,true)→rN [b7,b8] 2=(X,true)→H≤23→M≤59→X≤59→IsInst (CA.num x*86400000+((msN H M X 0:Nat):Int)) [a0,a1,a2,a3,a4,a5,a6,a7,a8,a9,b0,b1,b2,b3,b4,b5,b6,b7,b8]:=by
  rintro x H M X hv hA rfl rfl rfl r1 r2 r3 l1 l2 l3
  exact inst_of hv (ms_bd l1 l2 l3 om_) hA (clock_of8 r1 r2 r3 l1 l2 l3)
 have KD:=hid (fun W=>rdP_any [a0,a1,a2,a3,a4,a5,a6,a7,a8,a9] W rfl);obtain⟨⟨H,x1⟩,eH⟩: ∃z,rN [b1,b2] 2=z:=⟨_,rfl⟩;rw[eH] at KH lH;simp only[] at KH lH;rw[show((2:Nat):Int)=2 from rfl] at KH;obtain⟨⟨M,x2⟩,eM⟩: ∃z,rN [b4,b5] 2=z:=⟨_,rfl⟩;rw[eM] at KM lM;simp only[] at KM lM;rw[show((2:Nat):Int)=2 from rfl] at KM;obtain⟨⟨X,x3⟩,eX⟩: ∃z,rN [b7,b8] 2=z:=⟨_,rfl⟩;rw[eX] at KX lX;simp only[] at KX lX;rw[show((2:Nat):Int)=2 from rfl] at KX;simp only[eH,eM,eX] at hback hfore;have HB:=hid hback;have HF:=hid hfore;have HN:Hid ((∀t,¬IsInst t [a0,a1,a2,a3,a4,a5,a6,a7,a8,a9,b0,b1,b2,b3,b4,b5,b6,b7,b8])→RcR [a0,a1,a2,a3,a4,a5,a6,a7,a8,a9,b0,b1,b2,b3,b4,b5,b6,b7,b8] (.returned (.tuple #[vi vk 0,vi vk 7]))):=hid fun h=>.inr (.inr ⟨h,rfl⟩);have HY:Hid (∀t:Int,IsInst t [a0,a1,a2,a3,a4,a5,a6,a7,a8,a9,b0,b1,b2,b3,b4,b5,b6,b7,b8]→RcR [a0,a1,a2,a3,a4,a5,a6,a7,a8,a9,b0,b1,b2,b3,b4,b5,b6,b7,b8] (.returned (if insB t=true then .tuple #[vi vk t,vi vk 0] else .tuple #[vi vk 0,vi vk 5]))):=hid (fun t h=>by
  cases hi:insB t with
  |true=>rw[if_pos rfl];exact .inl ⟨t,h,hi,rfl⟩
  |false=>rw[if_neg (by simp)];exact .inr (.inl ⟨t,h,hi,rfl⟩))
 clear hback hfore hl eH eM eX;generalize RcR [a0,a1,a2,a3,a4,a5,a6,a7,a8,a9,b0,b1,b2,b3,b4,b5,b6,b7,b8]=R at*;generalize hII:(fun t=>IsInst t [a0,a1,a2,a3,a4,a5,a6,a7,a8,a9,b0,b1,b2,b3,b4,b5,b6,b7,b8])=II;have hii: ∀t,IsInst t [a0,a1,a2,a3,a4,a5,a6,a7,a8,a9,b0,b1,b2,b3,b4,b5,b6,b7,b8]=II t:=fun t=>by rw[←hII]
 simp only[hii] at HB HF HN HY;clear hII hii;generalize [a0,a1,a2,a3,a4,a5,a6,a7,a8,a9]=A at*;generalize [a0,a1,a2,a3,a4,a5,a6,a7,a8,a9,b0,b1,b2,b3,b4,b5,b6,b7,b8]=s at*;go_enter func44,ntmps44;go_wp2_with fail;(with_reducible refine(KD.out _).mono ?_)
 rintro e w1 ⟨hcs,hb⟩
 have b1':=hid hb;clear hb KD;rcases hcs with ⟨y,d,m,hv,hA,rfl⟩|⟨hno,rfl⟩
 case inr=>
  have NO:=hid (HN.out fun t h=>by
   have q:=HB.out t h;exact hno ⟨q.choose,q.choose_spec.choose_spec.choose_spec.choose_spec.1,q.choose_spec.choose_spec.choose_spec.choose_spec.2.1⟩)
  clear hno HB HF HN HY;have D2:=hid (Blk.new w1 100 #[vi vk 0,vi vk 0,vi vk 0]);have b2':=hid (b1'.out.trans ((bl_alloc w1 (.cells #[vi vk 0,vi vk 0,vi vk 0] 100)).mono b1'.out.size));clear b1';go_upto_region 4 with fail
  generalize w1.alloc (.cells #[vi vk 0,vi vk 0,vi vk 0] 100)=w3 at*;go_wp2_with fail;(with_reducible refine(KH.out _).mono ?_)
  rintro e u0 ⟨rfl,rfl⟩
  go_wp2_with fail;(with_reducible refine(KM.out _).mono ?_)
  rintro e u1 ⟨rfl,rfl⟩
  go_wp2_with fail;(with_reducible refine(KX.out _).mono ?_)
  rintro e u2 ⟨rfl,rfl⟩
  go_wp2;go_ret2
  exact⟨NO.out,b2'.out⟩
 case inl=>
  have HV:=hid hv;have HA:=hid hA;clear hv hA;have D2:=hid (Blk.new w1 100 #[vi vk y,vi vk ((m:Int)),vi vk d]);have b2':=hid (b1'.out.trans ((bl_alloc w1 (.cells #[vi vk y,vi vk ((m:Int)),vi vk d] 100)).mono b1'.out.size));clear b1';go_upto_region 4 with fail
  generalize w1.alloc (.cells #[vi vk y,vi vk ((m:Int)),vi vk d] 100)=w3 at*;go_wp2_with fail;(with_reducible refine(KH.out _).mono ?_)
  rintro e u0 ⟨rfl,rfl⟩
  go_wp2_with fail;(with_reducible refine(KM.out _).mono ?_)
  rintro e u1 ⟨rfl,rfl⟩
  go_wp2_with fail;(with_reducible refine(KX.out _).mono ?_)
  rintro e u2 ⟨rfl,rfl⟩
  go_upto_region 7 with fail
  clear KH KM KX s0 s1 s2 s3;cases x1
  · have NO:=hid (HN.out fun t h=>by
     obtain⟨x,H',M',X',h1,h2,h3,h4,h5,h6,h7,h8,l1,l2,l3,h12⟩:=HB.out t h;simp at h6)
    clear HB HF HN HY;go_wp2;go_ret2
    exact⟨NO.out,b2'.out⟩
  cases x2
  · have NO:=hid (HN.out fun t h=>by
     obtain⟨x,H',M',X',h1,h2,h3,h4,h5,h6,h7,h8,l1,l2,l3,h12⟩:=HB.out t h;simp at h7)
    clear HB HF HN HY;go_wp2;go_ret2
    exact⟨NO.out,b2'.out⟩
  cases x3
  · have NO:=hid (HN.out fun t h=>by
     obtain⟨x,H',M',X',h1,h2,h3,h4,h5,h6,h7,h8,l1,l2,l3,h12⟩:=HB.out t h;simp at h8)
    clear HB HF HN HY;go_wp2;go_ret2
    exact⟨NO.out,b2'.out⟩
  by_cases qb0:b0=32
  case neg=>
   have q:=(by_ne (n:=32) qb0 om_).2;have q':((b0.toNat:Int) != 32)=true:=q;have NO:=hid (HN.out fun t h=>by
    obtain⟨x,H',M',X',h1,h2,h3,h4,h5,h6,h7,h8,l1,l2,l3,h12⟩:=HB.out t h;exact qb0 h3)
   clear q qb0;clear HB HF HN HY;go_wp2;go_ret2
   exact⟨NO.out,b2'.out⟩
  have Qb0:=hid qb0;have eb0:((b0.toNat:Int) != 32)=false:=by rw[qb0];rfl
  clear qb0;by_cases qb3:b3=58
  case neg=>
   have q:=(by_ne (n:=58) qb3 om_).2;have q':((b3.toNat:Int) != 58)=true:=q;have NO:=hid (HN.out fun t h=>by
    obtain⟨x,H',M',X',h1,h2,h3,h4,h5,h6,h7,h8,l1,l2,l3,h12⟩:=HB.out t h;exact qb3 h4)
   clear q qb3;clear HB HF HN HY;go_wp2;go_ret2
   exact⟨NO.out,b2'.out⟩
  have Qb3:=hid qb3;have eb3:((b3.toNat:Int) != 58)=false:=by rw[qb3];rfl
  clear qb3;by_cases qb6:b6=58
  case neg=>
   have q:=(by_ne (n:=58) qb6 om_).2;have q':((b6.toNat:Int) != 58)=true:=q;have NO:=hid (HN.out fun t h=>by
    obtain⟨x,H',M',X',h1,h2,h3,h4,h5,h6,h7,h8,l1,l2,l3,h12⟩:=HB.out t h;exact qb6 h5)
   clear q qb6;clear HB HF HN HY;go_wp2;go_ret2
   exact⟨NO.out,b2'.out⟩
  have Qb6:=hid qb6;have eb6:((b6.toNat:Int) != 58)=false:=by rw[qb6];rfl
  clear qb6;by_cases qH:H≤23
  case neg=>
   have d1:decide (23<H)=true:=decide_eq_true om_;have d2:decide ((H:Int)>23)=true:=decide_eq_true om_;have NO:=hid (HN.out fun t h=>by
    obtain⟨x,H',M',X',h1,h2,h3,h4,h5,h6,h7,h8,l1,l2,l3,h12⟩:=HB.out t h;simp at h6;omega)
   clear HB HF HN HY;go_wp2;go_ret2
   exact⟨NO.out,b2'.out⟩
  have dH:decide (23<H)=false:=decide_eq_false om_;by_cases qM:M≤59
  case neg=>
   have d1:decide (59<M)=true:=decide_eq_true om_;have d2:decide ((M:Int)>59)=true:=decide_eq_true om_;have NO:=hid (HN.out fun t h=>by
    obtain⟨x,H',M',X',h1,h2,h3,h4,h5,h6,h7,h8,l1,l2,l3,h12⟩:=HB.out t h;simp at h7;omega)
   clear HB HF HN HY;go_wp2;go_ret2
   exact⟨NO.out,b2'.out⟩
  have dM:decide (59<M)=false:=decide_eq_false om_;by_cases qX:X≤59
  case neg=>
   have d1:decide (59<X)=true:=decide_eq_true om_;have d2:decide ((X:Int)>59)=true:=decide_eq_true om_;have NO:=hid (HN.out fun t h=>by
    obtain⟨x,H',M',X',h1,h2,h3,h4,h5,h6,h7,h8,l1,l2,l3,h12⟩:=HB.out t h;simp at h8;omega)
   clear HB HF HN HY;go_wp2;go_ret2
   exact⟨NO.out,b2'.out⟩
  have dX:decide (59<X)=false:=decide_eq_false om_;have KA: ∃a b:Int,R (.returned (.tuple #[vi vk a,vi vk b]))∧ ∀W,Calls Tryz.prog 89 #[.agg #[vi vk y,vi vk ((m:Int)),vi vk d],vi vk ((H:Int)*3600000+(M:Int)*60000+(X:Int)*1000)] W fun e w'=>e=.returned (.tuple #[vi vk a,vi vk b])∧Below W.heap.size W w':=by
   have hi:=HF.out ⟨y,m,d⟩ H M X HV.out HA.out Qb0.out Qb3.out Qb6.out rfl rfl rfl qH qM qX;have k:=fun W=>rAt_any ⟨y,m,d⟩ (msN H M X 0) W HV.out (ms_bd qH qM qX om_);have hy:=HY.out _ hi;rw[show((msN H M X 0:Nat):Int)=((H:Int)*3600000+(M:Int)*60000+(X:Int)*1000) by unfold msN;omega] at k hy;generalize insB (CA.num ⟨y,m,d⟩*86400000+((H:Int)*3600000+(M:Int)*60000+(X:Int)*1000))=bi at k hy;cases bi with
   |true=>exact⟨_,_,by simpa using hy,fun W=>(k W).mono fun e w' ⟨he,hb⟩=>⟨by simpa using he,hb⟩⟩
   |false=>exact⟨_,_,by simpa using hy,fun W=>(k W).mono fun e w' ⟨he,hb⟩=>⟨by simpa using he,hb⟩⟩
  obtain⟨a,b,hR,hK⟩:=KA;have HR:=hid hR;have KA:=hid hK;clear hR hK;clear HB HF HN HY HV HA;have yD: ∀i,u2.cell? ⟨w1.heap.size,i,none⟩=(#[vi vk y,vi vk ((m:Int)),vi vk d]:Array Value)[i]? :=fun i=>D2.out.cell i;go_wp2_with fail;(with_reducible refine(KA.out _).mono ?_)
  rintro e w9 ⟨rfl,hb⟩
  have b9':=hid (b2'.out.trans (hb.mono b2'.out.size));clear hb b2' D2 yD;go_wp2;go_ret2
  exact⟨HR.out,b9'.out⟩
theorem ckP23_any(s:Bs)(w:World)(hl:s.length=23):Calls Tryz.prog 44 #[tx s] w fun e w'=>RcR s e∧Below w.heap.size w w':=by
 have hz:=tx_size s;rw[hl] at hz;obtain⟨a0,a1,a2,a3,a4,a5,a6,a7,a8,a9,b0,b1,b2,b3,b4,b5,b6,b7,b8,b9,c0,c1,c2,rfl⟩: ∃a0 a1 a2 a3 a4 a5 a6 a7 a8 a9 b0 b1 b2 b3 b4 b5 b6 b7 b8 b9 c0 c1 c2,s=[a0,a1,a2,a3,a4,a5,a6,a7,a8,a9,b0,b1,b2,b3,b4,b5,b6,b7,b8,b9,c0,c1,c2]:=by
  match s,hl with
  | [a0,a1,a2,a3,a4,a5,a6,a7,a8,a9,b0,b1,b2,b3,b4,b5,b6,b7,b8,b9,c0,c1,c2],_=>exact⟨a0,a1,a2,a3,a4,a5,a6,a7,a8,a9,b0,b1,b2,b3,b4,b5,b6,b7,b8,b9,c0,c1,c2,rfl⟩
 have g10:=getBL (s:=[a0,a1,a2,a3,a4,a5,a6,a7,a8,a9,b0,b1,b2,b3,b4,b5,b6,b7,b8,b9,c0,c1,c2]) (k:=10) (c:=b0) rfl;have g13:=getBL (s:=[a0,a1,a2,a3,a4,a5,a6,a7,a8,a9,b0,b1,b2,b3,b4,b5,b6,b7,b8,b9,c0,c1,c2]) (k:=13) (c:=b3) rfl;have g16:=getBL (s:=[a0,a1,a2,a3,a4,a5,a6,a7,a8,a9,b0,b1,b2,b3,b4,b5,b6,b7,b8,b9,c0,c1,c2]) (k:=16) (c:=b6) rfl;have g19:=getBL (s:=[a0,a1,a2,a3,a4,a5,a6,a7,a8,a9,b0,b1,b2,b3,b4,b5,b6,b7,b8,b9,c0,c1,c2]) (k:=19) (c:=b9) rfl;have s0:=slice_hd [a0,a1,a2,a3,a4,a5,a6,a7,a8,a9,b0,b1,b2,b3,b4,b5,b6,b7,b8,b9,c0,c1,c2] 10 (by simp);have s1:=slice_tx [a0,a1,a2,a3,a4,a5,a6,a7,a8,a9,b0,b1,b2,b3,b4,b5,b6,b7,b8,b9,c0,c1,c2] 11 13 om_ (by simp);have s2:=slice_tx [a0,a1,a2,a3,a4,a5,a6,a7,a8,a9,b0,b1,b2,b3,b4,b5,b6,b7,b8,b9,c0,c1,c2] 14 16 om_ (by simp);have s3:=slice_tx [a0,a1,a2,a3,a4,a5,a6,a7,a8,a9,b0,b1,b2,b3,b4,b5,b6,b7,b8,b9,c0,c1,c2] 17 19 om_ (by simp);have s4:=slice_tl [a0,a1,a2,a3,a4,a5,a6,a7,a8,a9,b0,b1,b2,b3,b4,b5,b6,b7,b8,b9,c0,c1,c2] 20 (by simp);simp only[List.take_succ_cons,List.take_zero,List.drop_succ_cons,List.drop_zero,Nat.reduceSub] at s0 s1 s2 s3 s4;rw[show((10:Nat):Int)=10 from rfl] at s0;rw[show((11:Nat):Int)=11 from rfl,show((13:Nat):Int)=13 from rfl] at s1;rw[show((14:Nat):Int)=14 from rfl,show((16:Nat):Int)=16 from rfl] at s2;rw[show((17:Nat):Int)=17 from rfl,show((19:Nat):Int)=19 from rfl] at s3;rw[show((20:Nat):Int)=20 from rfl] at s4;have hback:=fun(t:Int) (h:IsInst t [a0,a1,a2,a3,a4,a5,a6,a7,a8,a9,b0,b1,b2,b3,b4,b5,b6,b7,b8,b9,c0,c1,c2])=>back23 (A:=[a0,a1,a2,a3,a4,a5,a6,a7,a8,a9]) (b0:=b0) (b1:=b1) (b2:=b2) (b3:=b3) (b4:=b4) (b5:=b5) (b6:=b6) (b7:=b7) (b8:=b8) (b9:=b9) (c0:=c0) (c1:=c1) (c2:=c2) (t:=t) rfl h;have KH:=hid (fun W=>rnumber_any [b1,b2] 2 W om_ (by simp));have lH:=rN_bd [b1,b2] 2 om_;have KM:=hid (fun W=>rnumber_any [b4,b5] 2 W om_ (by simp));have lM:=rN_bd [b4,b5] 2 om_;have KX:=hid (fun W=>rnumber_any [b7,b8] 2 W om_ (by simp));have lX:=rN_bd [b7,b8] 2 om_;have KF:=hid (fun W=>rnumber_any [c0,c1,c2] 3 W om_ (by simp));have lF:=rN_bd [c0,c1,c2] 3 om_;have hfore: ∀(x:CA.Date) (H M X F:Nat),CA.vld x→dateT x=[a0,a1,a2,a3,a4,a5,a6,a7,a8,a9]→b0=32→b3=58→b6=58→rN [b1,b2] 2=(H,true)→rN [b4,b5] 2=(M,true)→rN [b7,b8] 2=(X,true)→H≤23→M≤59→X≤59→b9=46→rN [c0,c1,c2] 3=(F,true)→F≠0→IsInst (CA.num x*86400000+((msN H M X F:Nat):Int)) [a0,a1,a2,a3,a4,a5,a6,a7,a8,a9,b0,b1,b2,b3,b4,b5,b6,b7,b8,b9,c0,c1,c2]:=by
  rintro x H M X F hv hA rfl rfl rfl r1 r2 r3 l1 l2 l3 rfl r4 f0
  exact inst_of hv (ms_bd l1 l2 l3 (rN_three r4).2) hA (clock_of12 r1 r2 r3 r4 l1 l2 l3 f0)
 have KD:=hid (fun W=>rdP_any [a0,a1,a2,a3,a4,a5,a6,a7,a8,a9] W rfl);obtain⟨⟨H,x1⟩,eH⟩: ∃z,rN [b1,b2] 2=z:=⟨_,rfl⟩;rw[eH] at KH lH;simp only[] at KH lH;rw[show((2:Nat):Int)=2 from rfl] at KH;obtain⟨⟨M,x2⟩,eM⟩: ∃z,rN [b4,b5] 2=z:=⟨_,rfl⟩;rw[eM] at KM lM;simp only[] at KM lM;rw[show((2:Nat):Int)=2 from rfl] at KM;obtain⟨⟨X,x3⟩,eX⟩: ∃z,rN [b7,b8] 2=z:=⟨_,rfl⟩;rw[eX] at KX lX;simp only[] at KX lX;rw[show((2:Nat):Int)=2 from rfl] at KX;obtain⟨⟨F,x4⟩,eF⟩: ∃z,rN [c0,c1,c2] 3=z:=⟨_,rfl⟩;rw[eF] at KF lF;simp only[] at KF lF;rw[show((3:Nat):Int)=3 from rfl] at KF;simp only[eH,eM,eX,eF] at hback hfore;have HB:=hid hback;have HF:=hid hfore;have HN:Hid ((∀t,¬IsInst t [a0,a1,a2,a3,a4,a5,a6,a7,a8,a9,b0,b1,b2,b3,b4,b5,b6,b7,b8,b9,c0,c1,c2])→RcR [a0,a1,a2,a3,a4,a5,a6,a7,a8,a9,b0,b1,b2,b3,b4,b5,b6,b7,b8,b9,c0,c1,c2] (.returned (.tuple #[vi vk 0,vi vk 7]))):=hid fun h=>.inr (.inr ⟨h,rfl⟩);have HY:Hid (∀t:Int,IsInst t [a0,a1,a2,a3,a4,a5,a6,a7,a8,a9,b0,b1,b2,b3,b4,b5,b6,b7,b8,b9,c0,c1,c2]→RcR [a0,a1,a2,a3,a4,a5,a6,a7,a8,a9,b0,b1,b2,b3,b4,b5,b6,b7,b8,b9,c0,c1,c2] (.returned (if insB t=true then .tuple #[vi vk t,vi vk 0] else .tuple #[vi vk 0,vi vk 5]))):=hid (fun t h=>by
  cases hi:insB t with
  |true=>rw[if_pos rfl];exact .inl ⟨t,h,hi,rfl⟩
  |false=>rw[if_neg (by simp)];exact .inr (.inl ⟨t,h,hi,rfl⟩))
 clear hback hfore hl eH eM eX eF;generalize RcR [a0,a1,a2,a3,a4,a5,a6,a7,a8,a9,b0,b1,b2,b3,b4,b5,b6,b7,b8,b9,c0,c1,c2]=R at*;generalize hII:(fun t=>IsInst t [a0,a1,a2,a3,a4,a5,a6,a7,a8,a9,b0,b1,b2,b3,b4,b5,b6,b7,b8,b9,c0,c1,c2])=II;have hii: ∀t,IsInst t [a0,a1,a2,a3,a4,a5,a6,a7,a8,a9,b0,b1,b2,b3,b4,b5,b6,b7,b8,b9,c0,c1,c2]=II t:=fun t=>by rw[←hII]
 simp only[hii] at HB HF HN HY;clear hII hii;generalize [a0,a1,a2,a3,a4,a5,a6,a7,a8,a9]=A at*;generalize [a0,a1,a2,a3,a4,a5,a6,a7,a8,a9,b0,b1,b2,b3,b4,b5,b6,b7,b8,b9,c0,c1,c2]=s at*;go_enter func44,ntmps44;go_wp2_with fail;(with_reducible refine(KD.out _).mono ?_)
 rintro e w1 ⟨hcs,hb⟩
 have b1':=hid hb;clear hb KD;rcases hcs with ⟨y,d,m,hv,hA,rfl⟩|⟨hno,rfl⟩
 case inr=>
  have NO:=hid (HN.out fun t h=>by
   have q:=HB.out t h;exact hno ⟨q.choose,q.choose_spec.choose_spec.choose_spec.choose_spec.choose_spec.1,q.choose_spec.choose_spec.choose_spec.choose_spec.choose_spec.2.1⟩)
  clear hno HB HF HN HY;have D2:=hid (Blk.new w1 100 #[vi vk 0,vi vk 0,vi vk 0]);have b2':=hid (b1'.out.trans ((bl_alloc w1 (.cells #[vi vk 0,vi vk 0,vi vk 0] 100)).mono b1'.out.size));clear b1';go_upto_region 4 with fail
  generalize w1.alloc (.cells #[vi vk 0,vi vk 0,vi vk 0] 100)=w3 at*;go_wp2_with fail;(with_reducible refine(KH.out _).mono ?_)
  rintro e u0 ⟨rfl,rfl⟩
  go_wp2_with fail;(with_reducible refine(KM.out _).mono ?_)
  rintro e u1 ⟨rfl,rfl⟩
  go_wp2_with fail;(with_reducible refine(KX.out _).mono ?_)
  rintro e u2 ⟨rfl,rfl⟩
  go_wp2;go_ret2
  exact⟨NO.out,b2'.out⟩
 case inl=>
  have HV:=hid hv;have HA:=hid hA;clear hv hA;have D2:=hid (Blk.new w1 100 #[vi vk y,vi vk ((m:Int)),vi vk d]);have b2':=hid (b1'.out.trans ((bl_alloc w1 (.cells #[vi vk y,vi vk ((m:Int)),vi vk d] 100)).mono b1'.out.size));clear b1';go_upto_region 4 with fail
  generalize w1.alloc (.cells #[vi vk y,vi vk ((m:Int)),vi vk d] 100)=w3 at*;go_wp2_with fail;(with_reducible refine(KH.out _).mono ?_)
  rintro e u0 ⟨rfl,rfl⟩
  go_wp2_with fail;(with_reducible refine(KM.out _).mono ?_)
  rintro e u1 ⟨rfl,rfl⟩
  go_wp2_with fail;(with_reducible refine(KX.out _).mono ?_)
  rintro e u2 ⟨rfl,rfl⟩
  go_upto_region 7 with fail
  clear KH KM KX s0 s1 s2 s3;cases x1
  · have NO:=hid (HN.out fun t h=>by
     obtain⟨x,H',M',X',F',h1,h2,h3,h4,h5,h6,h7,h8,l1,l2,l3,h9,h10,h11,h12⟩:=HB.out t h;simp at h6)
    clear HB HF HN HY;go_wp2;go_ret2
    exact⟨NO.out,b2'.out⟩
  cases x2
  · have NO:=hid (HN.out fun t h=>by
     obtain⟨x,H',M',X',F',h1,h2,h3,h4,h5,h6,h7,h8,l1,l2,l3,h9,h10,h11,h12⟩:=HB.out t h;simp at h7)
    clear HB HF HN HY;go_wp2;go_ret2
    exact⟨NO.out,b2'.out⟩
  cases x3
  · have NO:=hid (HN.out fun t h=>by
     obtain⟨x,H',M',X',F',h1,h2,h3,h4,h5,h6,h7,h8,l1,l2,l3,h9,h10,h11,h12⟩:=HB.out t h;simp at h8)
    clear HB HF HN HY;go_wp2;go_ret2
    exact⟨NO.out,b2'.out⟩
  by_cases qb0:b0=32
  case neg=>
   have q:=(by_ne (n:=32) qb0 om_).2;have q':((b0.toNat:Int) != 32)=true:=q;have NO:=hid (HN.out fun t h=>by
    obtain⟨x,H',M',X',F',h1,h2,h3,h4,h5,h6,h7,h8,l1,l2,l3,h9,h10,h11,h12⟩:=HB.out t h;exact qb0 h3)
   clear q qb0;clear HB HF HN HY;go_wp2;go_ret2
   exact⟨NO.out,b2'.out⟩
  have Qb0:=hid qb0;have eb0:((b0.toNat:Int) != 32)=false:=by rw[qb0];rfl
  clear qb0;by_cases qb3:b3=58
  case neg=>
   have q:=(by_ne (n:=58) qb3 om_).2;have q':((b3.toNat:Int) != 58)=true:=q;have NO:=hid (HN.out fun t h=>by
    obtain⟨x,H',M',X',F',h1,h2,h3,h4,h5,h6,h7,h8,l1,l2,l3,h9,h10,h11,h12⟩:=HB.out t h;exact qb3 h4)
   clear q qb3;clear HB HF HN HY;go_wp2;go_ret2
   exact⟨NO.out,b2'.out⟩
  have Qb3:=hid qb3;have eb3:((b3.toNat:Int) != 58)=false:=by rw[qb3];rfl
  clear qb3;by_cases qb6:b6=58
  case neg=>
   have q:=(by_ne (n:=58) qb6 om_).2;have q':((b6.toNat:Int) != 58)=true:=q;have NO:=hid (HN.out fun t h=>by
    obtain⟨x,H',M',X',F',h1,h2,h3,h4,h5,h6,h7,h8,l1,l2,l3,h9,h10,h11,h12⟩:=HB.out t h;exact qb6 h5)
   clear q qb6;clear HB HF HN HY;go_wp2;go_ret2
   exact⟨NO.out,b2'.out⟩
  have Qb6:=hid qb6;have eb6:((b6.toNat:Int) != 58)=false:=by rw[qb6];rfl
  clear qb6;by_cases qH:H≤23
  case neg=>
   have d1:decide (23<H)=true:=decide_eq_true om_;have d2:decide ((H:Int)>23)=true:=decide_eq_true om_;have NO:=hid (HN.out fun t h=>by
    obtain⟨x,H',M',X',F',h1,h2,h3,h4,h5,h6,h7,h8,l1,l2,l3,h9,h10,h11,h12⟩:=HB.out t h;simp at h6;omega)
   clear HB HF HN HY;go_wp2;go_ret2
   exact⟨NO.out,b2'.out⟩
  have dH:decide (23<H)=false:=decide_eq_false om_;by_cases qM:M≤59
  case neg=>
   have d1:decide (59<M)=true:=decide_eq_true om_;have d2:decide ((M:Int)>59)=true:=decide_eq_true om_;have NO:=hid (HN.out fun t h=>by
    obtain⟨x,H',M',X',F',h1,h2,h3,h4,h5,h6,h7,h8,l1,l2,l3,h9,h10,h11,h12⟩:=HB.out t h;simp at h7;omega)
   clear HB HF HN HY;go_wp2;go_ret2
   exact⟨NO.out,b2'.out⟩
  have dM:decide (59<M)=false:=decide_eq_false om_;by_cases qX:X≤59
  case neg=>
   have d1:decide (59<X)=true:=decide_eq_true om_;have d2:decide ((X:Int)>59)=true:=decide_eq_true om_;have NO:=hid (HN.out fun t h=>by
    obtain⟨x,H',M',X',F',h1,h2,h3,h4,h5,h6,h7,h8,l1,l2,l3,h9,h10,h11,h12⟩:=HB.out t h;simp at h8;omega)
   clear HB HF HN HY;go_wp2;go_ret2
   exact⟨NO.out,b2'.out⟩
  have dX:decide (59<X)=false:=decide_eq_false om_;go_upto_region 11 with fail
  go_wp2_with fail;(with_reducible refine(KF.out _).mono ?_)
  rintro e u4 ⟨rfl,rfl⟩
  go_upto_region 12 with fail
  clear KF s4;cases x4
  · have NO:=hid (HN.out fun t h=>by
     obtain⟨x,H',M',X',F',h1,h2,h3,h4,h5,h6,h7,h8,l1,l2,l3,h9,h10,h11,h12⟩:=HB.out t h;simp at h10)
    clear HB HF HN HY;go_wp2;go_ret2
    exact⟨NO.out,b2'.out⟩
  by_cases qb9:b9=46
  case neg=>
   have q:=(by_ne (n:=46) qb9 om_).2;have q':((b9.toNat:Int) != 46)=true:=q;have NO:=hid (HN.out fun t h=>by
    obtain⟨x,H',M',X',F',h1,h2,h3,h4,h5,h6,h7,h8,l1,l2,l3,h9,h10,h11,h12⟩:=HB.out t h;exact qb9 h9)
   clear q qb9;clear HB HF HN HY;go_wp2;go_ret2
   exact⟨NO.out,b2'.out⟩
  have Qb9:=hid qb9;have eb9:((b9.toNat:Int) != 46)=false:=by rw[qb9];rfl
  clear qb9;by_cases qF:F=0
  case pos=>
   have d1:((F:Int)==0)=true:=by simp[qF]
   have NO:=hid (HN.out fun t h=>by
    obtain⟨x,H',M',X',F',h1,h2,h3,h4,h5,h6,h7,h8,l1,l2,l3,h9,h10,h11,h12⟩:=HB.out t h;simp at h10;omega)
   clear qF;clear HB HF HN HY;go_wp2;go_ret2
   exact⟨NO.out,b2'.out⟩
  have dF:((F:Int)==0)=false:=by simpa using qF
  have QF:=hid qF;clear qF;have KA: ∃a b:Int,R (.returned (.tuple #[vi vk a,vi vk b]))∧ ∀W,Calls Tryz.prog 89 #[.agg #[vi vk y,vi vk ((m:Int)),vi vk d],vi vk ((H:Int)*3600000+(M:Int)*60000+(X:Int)*1000+(F:Int))] W fun e w'=>e=.returned (.tuple #[vi vk a,vi vk b])∧Below W.heap.size W w':=by
   have hi:=HF.out ⟨y,m,d⟩ H M X F HV.out HA.out Qb0.out Qb3.out Qb6.out rfl rfl rfl qH qM qX Qb9.out rfl QF.out;have k:=fun W=>rAt_any ⟨y,m,d⟩ (msN H M X F) W HV.out (ms_bd qH qM qX om_);have hy:=HY.out _ hi;rw[show((msN H M X F:Nat):Int)=((H:Int)*3600000+(M:Int)*60000+(X:Int)*1000+(F:Int)) by unfold msN;omega] at k hy;generalize insB (CA.num ⟨y,m,d⟩*86400000+((H:Int)*3600000+(M:Int)*60000+(X:Int)*1000+(F:Int)))=bi at k hy;cases bi with
   |true=>exact⟨_,_,by simpa using hy,fun W=>(k W).mono fun e w' ⟨he,hb⟩=>⟨by simpa using he,hb⟩⟩
   |false=>exact⟨_,_,by simpa using hy,fun W=>(k W).mono fun e w' ⟨he,hb⟩=>⟨by simpa using he,hb⟩⟩
  obtain⟨a,b,hR,hK⟩:=KA;have HR:=hid hR;have KA:=hid hK;clear hR hK;clear HB HF HN HY HV HA;have yD: ∀i,u4.cell? ⟨w1.heap.size,i,none⟩=(#[vi vk y,vi vk ((m:Int)),vi vk d]:Array Value)[i]? :=fun i=>D2.out.cell i;go_wp2_with fail;(with_reducible refine(KA.out _).mono ?_)
  rintro e w9 ⟨rfl,hb⟩
  have b9':=hid (b2'.out.trans (hb.mono b2'.out.size));clear hb b2' D2 yD;go_wp2;go_ret2
  exact⟨HR.out,b9'.out⟩
theorem rckParse_any(s:Bs)(w:World):Calls Tryz.prog 44 #[tx s] w fun e w'=>RcR s e∧Below w.heap.size w w':=by
 by_cases h1:s.length=19
 · exact ckP19_any s w h1
 · by_cases h2:s.length=23
   · exact ckP23_any s w h2
   · exact ckP_any s w ⟨h1,h2⟩
theorem rckP_fix(s:Bs): ∃(a E:Int) (ok:Bool),(∀W,Calls Tryz.prog 44 #[tx s] W fun e w'=>e=.returned (.tuple #[vi vk a,vi vk E])∧Below W.heap.size W w')∧(E != 0)= !ok∧(ok=true→IsInst a s∧insB a=true)∧(ok=false→ ¬ ∃t,IsInst t s∧insB t=true):=by
 by_cases h: ∃t,IsInst t s
 · obtain⟨t,ht⟩:=h
   cases hi:insB t with
   |true=>
    refine⟨t,0,true,fun W=>(rckParse_any s W).mono fun e w' ⟨hr,hb⟩=>⟨?_,hb⟩,rfl,fun _=>⟨ht,hi⟩,nofun⟩;rcases hr with ⟨u,h1,h2,h3⟩|⟨u,h1,h2,h3⟩|⟨h1,h3⟩
    · rw[h3,inst_num h1 ht]
    · rw[inst_num h1 ht,hi] at h2;cases h2
    · exact absurd ht (h1 t)
   |false=>
    refine⟨0,5,false,fun W=>(rckParse_any s W).mono fun e w' ⟨hr,hb⟩=>⟨?_,hb⟩,rfl,nofun,fun _ ⟨u,h1,h2⟩=>by rw[inst_num h1 ht,hi] at h2;cases h2⟩;rcases hr with ⟨u,h1,h2,h3⟩|⟨u,h1,h2,h3⟩|⟨h1,h3⟩
    · rw[inst_num h1 ht,hi] at h2;cases h2
    · exact h3
    · exact absurd ht (h1 t)
 · refine⟨0,7,false,fun W=>(rckParse_any s W).mono fun e w' ⟨hr,hb⟩=>⟨?_,hb⟩,rfl,nofun,fun _ ⟨u,h1,_⟩=>h ⟨u,h1⟩⟩
   rcases hr with ⟨u,h1,h2,h3⟩|⟨u,h1,h2,h3⟩|⟨h1,h3⟩
   · exact absurd ⟨u,h1⟩ h
   · exact absurd ⟨u,h1⟩ h
   · exact h3
end
end Go.Proofs.YtbpnacacnncopaaGreatDoor
