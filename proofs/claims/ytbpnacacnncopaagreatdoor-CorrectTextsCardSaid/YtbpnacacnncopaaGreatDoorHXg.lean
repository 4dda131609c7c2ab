/- The reference's words for names, readings, weather, intervals: which sights are right. -/
import Derived.Test.YtbpnacacnncopaaGreatDoorHLp
set_option linter.unusedSimpArgs false
set_option linter.unusedVariables false
set_option maxHeartbeats 4000000
set_option maxRecDepth 100000
open Go.RowKit
open Go.Lib (hid)
open Go.Proofs.Tryz
open Go.Value renaming int→vi
open Go.IntKind renaming i64→vk
namespace Go.Proofs.YtbpnacacnncopaaGreatDoor
section
open Frm
open Lib (decDigits)
structure Sgt where
 body:Bs
 limb:Int
 lo:Int
 hi:Int
 hs:Int
 by_:Int
 hor:Int
 eye:Int
 shore:Int
 temp:Int
 press:Int
def limbL:List Bs:=[[99,101,110,116,101,114],[108,111,119,101,114],[117,112,112,101,114]]
def horL:List Bs:=[[110,97,116,117,114,97,108],[97,114,116,105,102,105,99,105,97,108],[115,104,111,114,101]]
def wordAt(l:List Bs)(k:Int):Bs:=l.getD (k-1).toNat []
def siS(s:Sgt):Bool:=siB s.body s.limb s.lo s.hi s.hs s.by_ s.hor s.eye s.shore s.temp s.press
def txtW(s:Sgt)(f l:Bs):List Bs:=[s.body,wordAt limbL s.limb,f,l,textL s.hs,textL s.by_,wordAt horL s.hor,Lib.itoa s.eye,Lib.itoa s.shore,Lib.itoa s.temp,Lib.itoa s.press]
def TextOf(s:Sgt)(x:Bs):Prop:= ∃f l,IsInst s.lo f∧IsInst s.hi l∧x=SW.jn 32 (txtW s f l)
theorem text_one{s:Sgt}{x y:Bs}(h:TextOf s x)(h':TextOf s y):x=y:=by
 obtain⟨f,l,a,b,rfl⟩:=h;obtain⟨f',l',a',b',rfl⟩:=h';obtain rfl:=inst_text a a';obtain rfl:=inst_text b b';rfl
structure Good(s:Sgt)(w0 w1 w2 w3 w4 w5 w6 w7 w8 w9 w10 w11 w12:Bs):Prop where
 h0:w0=s.body∧naB w0=true
 h1:w1=wordAt limbL s.limb∧1≤s.limb∧s.limb≤3
 h2:IsInst s.lo (w2++32::w3)∧insB s.lo=true
 h4:IsInst s.hi (w4++32::w5)∧insB s.hi=true
 h6:w6=textL s.hs∧s.hs.natAbs≤1099511627776
 h7:w7=textL s.by_∧s.by_.natAbs≤1099511627776
 h8:w8=wordAt horL s.hor∧1≤s.hor∧s.hor≤3
 h9:w9=Lib.itoa s.eye∧w9.length≤15
 h10:w10=Lib.itoa s.shore∧w10.length≤15
 h11:w11=Lib.itoa s.temp∧w11.length≤15
 h12:w12=Lib.itoa s.press∧w12.length≤15
theorem limb_at{a b:Int}(a1:1≤a)(a2:a≤3)(b1:1≤b)(b2:b≤3)(h:wordAt limbL a=wordAt limbL b):a=b:=by
 have ha:a=1∨a=2∨a=3:=by omega
 have hb:b=1∨b=2∨b=3:=by omega
 rcases ha with rfl|rfl|rfl<;>rcases hb with rfl|rfl|rfl<;>first|rfl|(exact absurd h dc_)
theorem hor_at{a b:Int}(a1:1≤a)(a2:a≤3)(b1:1≤b)(b2:b≤3)(h:wordAt horL a=wordAt horL b):a=b:=by
 have ha:a=1∨a=2∨a=3:=by omega
 have hb:b=1∨b=2∨b=3:=by omega
 rcases ha with rfl|rfl|rfl<;>rcases hb with rfl|rfl|rfl<;>first|rfl|(exact absurd h dc_)
theorem textL_inj{a b:Int}(ha:a.natAbs≤1099511627776)(hb:b.natAbs≤1099511627776)(h:textL a=textL b):a=b:=by
 have q:=parseP_text ha;rw[h,parseP_text hb] at q;exact(congrArg Prod.fst q).symm
theorem itoa_len_bd{n:Int}(h:(Lib.itoa n).length≤15):n.natAbs<1000000000000000:=by
 have key: ∀m:Nat,(decDigits m).length≤15→m<1000000000000000:=fun m hm=>by
  have:=numU_dg3 (dd_isD m);rw[numU_dd] at this;have h2:10^(decDigits m).length≤10^15:=Nat.pow_le_pow_right om_ hm;have h3:(10:Nat)^15=1000000000000000:=by decide
  omega
 rcases Int.lt_or_le n 0 with hn|hn
 · have e:Lib.itoa n=45::decDigits n.natAbs:=by
    unfold Lib.itoa;rw[if_pos hn]
   rw[e] at h;exact key _ (by simp at h;omega)
 · obtain⟨m,rfl⟩: ∃m:Nat,n=(m:Int):=⟨n.toNat,om_⟩
   rw[itoa_nat] at h;have:=key m h;omega
theorem itoa_inj15{a b:Int}(h:Lib.itoa a=Lib.itoa b)(hl:(Lib.itoa a).length≤15):a=b:=by
 have ha:=itoa_len_bd hl;have hb:=itoa_len_bd (by rw[←h];exact hl);have qa:=atR_itoa (n:=a) om_;have qb:=atR_itoa (n:=b) om_;rw[h,qb] at qa;exact(congrArg Prod.fst qa).symm
theorem good_one{s s':Sgt}{w0 w1 w2 w3 w4 w5 w6 w7 w8 w9 w10 w11 w12:Bs}(h:Good s w0 w1 w2 w3 w4 w5 w6 w7 w8 w9 w10 w11 w12)(k:Good s' w0 w1 w2 w3 w4 w5 w6 w7 w8 w9 w10 w11 w12):s=s':=by
 have e0:s.body=s'.body:=h.h0.1.symm.trans k.h0.1;have e1:s.limb=s'.limb:=limb_at h.h1.2.1 h.h1.2.2 k.h1.2.1 k.h1.2.2 (h.h1.1.symm.trans k.h1.1);have e2:s.lo=s'.lo:=inst_num h.h2.1 k.h2.1;have e4:s.hi=s'.hi:=inst_num h.h4.1 k.h4.1;have e6:s.hs=s'.hs:=textL_inj h.h6.2 k.h6.2 (h.h6.1.symm.trans k.h6.1);have e7:s.by_=s'.by_:=textL_inj h.h7.2 k.h7.2 (h.h7.1.symm.trans k.h7.1);have e8:s.hor=s'.hor:=hor_at h.h8.2.1 h.h8.2.2 k.h8.2.1 k.h8.2.2 (h.h8.1.symm.trans k.h8.1);have e9:s.eye=s'.eye:=itoa_inj15 (h.h9.1.symm.trans k.h9.1) (h.h9.1▸h.h9.2);have e10:s.shore=s'.shore:=itoa_inj15 (h.h10.1.symm.trans k.h10.1) (h.h10.1▸h.h10.2);have e11:s.temp=s'.temp:=itoa_inj15 (h.h11.1.symm.trans k.h11.1) (h.h11.1▸h.h11.2);have e12:s.press=s'.press:=itoa_inj15 (h.h12.1.symm.trans k.h12.1) (h.h12.1▸h.h12.2);cases s
 cases s'
 simp only[] at*;subst e0 e1 e2 e4 e6 e7 e8 e9 e10 e11 e12;rfl
structure SiOk(s:Sgt):Prop where
 na:naB s.body=true
 limb:1≤s.limb∧s.limb≤3
 lo:insB s.lo=true
 hi:insB s.hi=true
 ord:s.lo≤s.hi
 hs: -60000≤s.hs∧s.hs≤7800000
 by_:0≤s.by_∧s.by_≤60000
 hor:1≤s.hor∧s.hor≤3
 eye:0≤s.eye∧s.eye≤10000
 shore:0≤s.shore∧s.shore≤100000
 temp: -500≤s.temp∧s.temp≤600
 press:5000≤s.press∧s.press≤11000
theorem frB_iff{n a b:Int}:frB n a b=true↔a≤n∧n≤b:=by unfold frB;exact decide_eq_true_iff
theorem si_ok{s:Sgt}(h:siS s=true):SiOk s:=by
 unfold siS siB at h;simp only[Bool.and_eq_true,frB_iff] at h;obtain⟨⟨⟨⟨⟨⟨⟨h1,h2⟩,h3⟩,h4⟩,h5⟩,⟨⟨⟨h6,h7⟩,h8⟩,h9⟩⟩,hA⟩,hB⟩:=h;unfold clkB at h3;simp only[Bool.and_eq_true,decide_eq_true_eq] at h3;refine⟨h1,h2,?_,?_,?_,h4,h5,h6,h9,?_,h7,h8⟩
 · first|exact h3.1.2|exact h3.2.1|(simp_all;done)
 · first|exact h3.2|exact h3.2.2|(simp_all;done)
 · first|exact h3.1.1|exact h3.1|(simp_all;done)
 · unfold shB at hB
   split at hB
   · rw[frB_iff] at hB;omega
   · rw[decide_eq_true_eq] at hB;omega
theorem itoa_short{n:Int}(h:n.natAbs≤100000000):(Lib.itoa n).length≤15:=by
 rcases Int.lt_or_le n 0 with hn|hn
 · have e:Lib.itoa n=45::decDigits n.natAbs:=by
    unfold Lib.itoa;rw[if_pos hn]
   rw[e]
   have:=dd_len 9 n.natAbs (by have:(10:Nat)^(9+1)=10000000000:=by decide
                               omega)
   simp;omega
 · obtain⟨m,rfl⟩: ∃m:Nat,n=(m:Int):=⟨n.toNat,om_⟩
   rw[itoa_nat]
   have:=dd_len 9 m (by have:(10:Nat)^(9+1)=10000000000:=by decide
                        omega)
   omega
theorem itoa_no(n:Int):(32:UInt8)∉Lib.itoa n:=by
 have hd: ∀m,(32:UInt8)∉decDigits m:=fun m h=>by have:=dd_isD m 32 h;cases this
 rcases Int.lt_or_le n 0 with hn|hn
 · have e:Lib.itoa n=45::decDigits n.natAbs:=by
    unfold Lib.itoa;rw[if_pos hn]
   rw[e];simp only[List.mem_cons,not_or];exact⟨dc_,hd _⟩
 · obtain⟨m,rfl⟩: ∃m:Nat,n=(m:Int):=⟨n.toNat,om_⟩
   rw[itoa_nat];exact hd m
theorem name_no{s:Bs}(h:naB s=true):(32:UInt8)∉s:=by
 unfold naB allW at h;simp only[Bool.and_eq_true,decide_eq_true_eq] at h;intro hm;have:=List.all_eq_true.1 h.1.2.1 32 hm;exact absurd this dc_
theorem clockT_no(ms:Nat):(32:UInt8)∉CT.clockT ms:=by
 have hd: ∀n k,(32:UInt8)∉dgs n k:=fun n k=>CT.dgs_no dc_;unfold CT.clockT;split
 · simp[hd]
 · simp[hd]
theorem limb_no{k:Int}(h1:1≤k)(h2:k≤3):(32:UInt8)∉wordAt limbL k:=by
 have ha:k=1∨k=2∨k=3:=by omega
 rcases ha with rfl|rfl|rfl<;>decide
theorem hor_no{k:Int}(h1:1≤k)(h2:k≤3):(32:UInt8)∉wordAt horL k:=by
 have ha:k=1∨k=2∨k=3:=by omega
 rcases ha with rfl|rfl|rfl<;>decide
theorem jn13(s:Sgt)(a b c d:Bs):SW.jn 32 (txtW s (a++32::b) (c++32::d))=SW.jn 32 [s.body,wordAt limbL s.limb,a,b,c,d,textL s.hs,textL s.by_,wordAt horL s.hor,Lib.itoa s.eye,Lib.itoa s.shore,Lib.itoa s.temp,Lib.itoa s.press]:=by
 simp[txtW,SW.jn]
theorem text_good{s:Sgt}{x:Bs}(hv:siS s=true)(h:TextOf s x): ∃w0 w1 w2 w3 w4 w5 w6 w7 w8 w9 w10 w11 w12,SW.wrd 32 x=[w0,w1,w2,w3,w4,w5,w6,w7,w8,w9,w10,w11,w12]∧Good s w0 w1 w2 w3 w4 w5 w6 w7 w8 w9 w10 w11 w12:=by
 have k:=si_ok hv;obtain⟨f,l,hf,hl,rfl⟩:=h;have hf0:=hf;have hl0:=hl;obtain⟨x1,a1,a2,rfl⟩:=hf;obtain⟨x2,b1,b2,rfl⟩:=hl;rw[jn13];refine⟨_,_,_,_,_,_,_,_,_,_,_,_,_,SW.wrd_jn 32 _ (by simp) ?_,?_⟩
 · intro w hw
   simp only[List.mem_cons,List.not_mem_nil,or_false] at hw;rcases hw with rfl|rfl|rfl|rfl|rfl|rfl|rfl|rfl|rfl|rfl|rfl|rfl|rfl
   · exact name_no k.na
   · exact limb_no k.limb.1 k.limb.2
   · exact dateT_no _ dc_ dc_
   · exact clockT_no _
   · exact dateT_no _ dc_ dc_
   · exact clockT_no _
   · exact fun h=>text_sp _ _ h rfl
   · exact fun h=>text_sp _ _ h rfl
   · exact hor_no k.hor.1 k.hor.2
   · exact itoa_no _
   · exact itoa_no _
   · exact itoa_no _
   · exact itoa_no _
 · have:=k.hs
   have:=k.by_;have:=k.eye;have:=k.shore;have:=k.temp;have:=k.press;exact⟨⟨rfl,k.na⟩,⟨rfl,k.limb⟩,⟨hf0,k.lo⟩,⟨hl0,k.hi⟩,⟨rfl,om_⟩,⟨rfl,om_⟩,⟨rfl,k.hor⟩,⟨rfl,itoa_short om_⟩,⟨rfl,itoa_short om_⟩,⟨rfl,itoa_short om_⟩,⟨rfl,itoa_short om_⟩⟩
end
section
open Frm
theorem rLetter_any(c:Int)(w:World):Calls Tryz.prog 73 #[.int .u8 c] w fun e w'=>e=.returned (.bool (leB c))∧w'=w:=by
 unfold leB;go_enter func73,ntmps73;go_wp2;all_goals
  go_ret;exact⟨ret_boo (by first|rfl|(simp_all;done)|(simp_all;omega)),rfl⟩
theorem rDigit_any(c:Int)(w:World):Calls Tryz.prog 74 #[.int .u8 c] w fun e w'=>e=.returned (.bool (diB c))∧w'=w:=by
 unfold diB;go_enter func74,ntmps74;go_wp2;all_goals
  go_ret;exact⟨ret_boo (by first|rfl|(simp_all;done)|(simp_all;omega)),rfl⟩
theorem rName_any(s:Bs)(w:World)(hl:s.length≤100000):Calls Tryz.prog 27 #[txb s] w fun e w'=>e=.returned (.bool (naB s))∧w'=w:=by
 have hz:=txb_size s;have KL:=hid rLetter_any;have KD:=hid rDigit_any;cases s with
 |nil=>
  have dz:((⟨([]:Bs).toArray⟩:ByteArray).size)=0:=rfl;go_enter func27,ntmps27;go_wp2;go_ret;exact⟨ret_boo (by rfl),rfl⟩
 |cons c s=>
  obtain⟨n,hn⟩: ∃n,(c::s).length=n:=⟨_,rfl⟩;have hpos:0<n:=by rw[←hn];simp
  have h0:(c::s)[0]? =some c:=rfl;have hd:naB (c::s)=(decide (n≤20)&&allW (c::s)&&leB (c.toNat:Int)):=by unfold naB;rw[hn];simp
  rw[hd];have HN:=hid hn;rw[hn] at hz hl;clear hn hd;generalize c::s=z at*;have g0:=getBL h0;have dz:((n:Int)==0)=false:=by simp;omega
  by_cases h20:n≤20
  · have d20:decide ((n:Int)>20)=false:=decide_eq_false om_
    rw[decide_eq_true h20];obtain⟨b,hb⟩: ∃b,leB (c.toNat:Int)=b:=⟨_,rfl⟩;have K0:=hid (fun W=>KL.out (c.toNat:Int) W);rw[hb] at K0⊢;clear hb h0;cases b with
    |false=>
     go_enter func27,ntmps27;go_wp2_with (go_at_call 73;(with_reducible refine(K0.out _).mono ?_);rintro e w1 ⟨rfl,rfl⟩);go_ret;exact⟨ret_boo (by simp),rfl⟩
    |true=>
     go_enter func27,ntmps27;go_wp2_with (go_at_call 73;(with_reducible refine(K0.out _).mono ?_);rintro e w1 ⟨rfl,rfl⟩);clear K0 g0 d20 dz;go_loopg [3] n (fun gz s3 wr=> ∃k:Nat,k≤n∧n-k≤gz∧s3=vi vk (k:Int)∧(∀j c,j<k→z[j]? =some c→woB (c.toNat:Int)=true)∧wr=w1)
     case atStart=>exact⟨0,Nat.zero_le _,om_,rfl,fun j c h=>by omega,rfl⟩
     case round=>
      obtain⟨k,hk,hg,rfl,hall,rfl⟩:=hrel;have HA:=hid hall;clear hall;by_cases hlt:k<n
      · obtain⟨c,hc⟩: ∃c,z[k]? =some c:=⟨_,List.getElem?_eq_getElem (by rw[HN.out];exact hlt)⟩
        have g0:=getBL hc;have HC:=hid hc;clear hc;have K1:=hid (fun W=>KL.out (c.toNat:Int) W);have K2:=hid (fun W=>KD.out (c.toNat:Int) W);have hwo:woB (c.toNat:Int)=(leB (c.toNat:Int)||diB (c.toNat:Int)||decide ((c.toNat:Int)=95)):=rfl;have HW:=hid hwo;clear hwo;have hnx: ∀(_:woB (c.toNat:Int)=true),∀j c,j<k+1→z[j]? =some c→woB (c.toNat:Int)=true:=fun hb j d hj hd=>by
         rcases Nat.lt_or_ge j k with h|h
         · exact HA.out j d h hd
         · obtain rfl:j=k:=by omega
           obtain rfl:c=d:=Option.some.inj (HC.out.symm.trans hd);exact hb
        have HX:=hid hnx;clear hnx;generalize leB (c.toNat:Int)=x at*;generalize diB (c.toNat:Int)=y at*;cases x
        · cases y
          · by_cases h95:c.toNat=95
            · have d95:((c.toNat:Int) != 95)=false:=by simp;omega
              replace h95:=hid h95
              go_wp2_with (first|(go_at_call 73;(with_reducible refine(K1.out _).mono ?_);rintro e w1 ⟨rfl,rfl⟩)|(go_at_call 74;(with_reducible refine(K2.out _).mono ?_);rintro e w1 ⟨rfl,rfl⟩));go_roundg (n-(k+1))
              case measure=>omega
              case rel=>exact⟨k+1,om_,om_,by go_num,HX.out (by rw[HW.out,decide_eq_true (by have:=h95.out;omega)];rfl),rfl⟩
            · have d95:((c.toNat:Int) != 95)=true:=by simp;omega
              replace h95:=hid h95
              go_wp2_with (first|(go_at_call 73;(with_reducible refine(K1.out _).mono ?_);rintro e w1 ⟨rfl,rfl⟩)|(go_at_call 74;(with_reducible refine(K2.out _).mono ?_);rintro e w1 ⟨rfl,rfl⟩));go_ret;exact⟨ret_boo (by rw[allW_bad HC.out (by rw[HW.out,decide_eq_false (by have:=h95.out;omega)];rfl)];simp),rfl⟩
          · go_wp2_with (first|(go_at_call 73;(with_reducible refine(K1.out _).mono ?_);rintro e w1 ⟨rfl,rfl⟩)|(go_at_call 74;(with_reducible refine(K2.out _).mono ?_);rintro e w1 ⟨rfl,rfl⟩))
            go_roundg (n-(k+1))
            case measure=>omega
            case rel=>exact⟨k+1,om_,om_,by go_num,HX.out (by rw[HW.out];rfl),rfl⟩
        · go_wp2_with (first|(go_at_call 73;(with_reducible refine(K1.out _).mono ?_);rintro e w1 ⟨rfl,rfl⟩)|(go_at_call 74;(with_reducible refine(K2.out _).mono ?_);rintro e w1 ⟨rfl,rfl⟩))
          go_roundg (n-(k+1))
          case measure=>omega
          case rel=>exact⟨k+1,om_,om_,by go_num,HX.out (by rw[HW.out];rfl),rfl⟩
      · obtain rfl:k=n:=by omega
        have hall:allW z=true:=List.all_eq_true.2 fun c hc=>by
         obtain⟨j,hj⟩:=List.mem_iff_getElem?.1 hc;exact HA.out j c (by have:=(List.getElem?_eq_some_iff.1 hj).1;rw[HN.out] at this;exact this) hj
        have HL:=hid hall;clear hall;go_wp2;go_ret;exact⟨ret_boo (by rw[HL.out];rfl),rfl⟩
  · have d20:decide ((n:Int)>20)=true:=decide_eq_true om_
    rw[decide_eq_false h20];go_enter func27,ntmps27;go_wp2;go_ret;exact⟨ret_boo (by simp),rfl⟩
end
end Go.Proofs.YtbpnacacnncopaaGreatDoor
