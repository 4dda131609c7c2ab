/- Plain: the date and the time of day that the bytes of a text say. -/
import Derived.Test.YtbpnacacnncopaaGreatDoorHXm
set_option linter.unusedSimpArgs false
set_option linter.unusedVariables false
set_option maxHeartbeats 4000000
set_option maxRecDepth 100000
open Go.RowKit
open Go.Lib (hid)
open Go.Proofs.Tryz
open Go.Value renaming int→vi
open Go.IntKind renaming i64→vk
namespace Go.Proofs.YtbpnacacnncopaaGreatDoor
section
open Go.Shelf Frm
open Lib (decDigits)
theorem itoa_minus{m:Int}{B:Bs}(h:45::B=Lib.itoa m):m<0∧B=decDigits m.natAbs:=by
 rcases Int.lt_or_le m 0 with hn|hn
 · have e:Lib.itoa m=45::decDigits m.natAbs:=by unfold Lib.itoa;rw[if_pos hn]
   rw[e] at h;injection h with _ h
   exact⟨hn,h⟩
 · obtain⟨k,rfl⟩: ∃k:Nat,m=(k:Int):=⟨m.toNat,om_⟩
   rw[itoa_nat] at h;have:=dd_isD k 45 (by rw[←h];simp);exact absurd this dc_
theorem itoa_plus{m:Int}{c:UInt8}{B:Bs}(hc: ¬c=45)(h:c::B=Lib.itoa m):0≤m∧c::B=decDigits m.natAbs:=by
 rcases Int.lt_or_le m 0 with hn|hn
 · have e:Lib.itoa m=45::decDigits m.natAbs:=by unfold Lib.itoa;rw[if_pos hn]
   rw[e] at h;injection h with h _
   exact absurd h hc
 · obtain⟨k,rfl⟩: ∃k:Nat,m=(k:Int):=⟨m.toNat,om_⟩
   rw[itoa_nat] at h;exact⟨hn,by rw[h];simp⟩
def RiR(s:Bs)(e:Ending):Prop:= ∃(k:Int) (ok:Bool),e=.returned (.tuple #[vi vk k,.bool ok])∧(ok=true→s=Lib.itoa k∧s.length≤15)∧(ok=false→ ¬ ∃n:Int,s=Lib.itoa n∧s.length≤15)
theorem RiR.no{s:Bs}{k:Int}(h: ¬ ∃n:Int,s=Lib.itoa n∧s.length≤15):RiR s (.returned (.tuple #[vi vk k,.bool false])):=⟨k,false,rfl,nofun,fun _=>h⟩
theorem RiR.yes{s:Bs}{k:Int}(h:s=Lib.itoa k)(hl:s.length≤15):RiR s (.returned (.tuple #[vi vk k,.bool true])):=⟨k,true,rfl,fun _=>⟨h,hl⟩,nofun⟩
theorem bsq{a b:Bs}(h:a=b):((⟨a.toArray⟩:ByteArray)==⟨b.toArray⟩)=true:=(bs_eq h).1
theorem by_neI{c:UInt8}{n:Nat}(h: ¬c=UInt8.ofNat n):((c.toNat:Int)==(n:Int))=false∧((c.toNat:Int) != (n:Int))=true:=by
 have: ¬c.toNat=n:=fun e=>h (by rw[←e];exact(UInt8.ofNat_toNat).symm);simp;omega
theorem rint1_any(B s:Bs)(w:World)(hs:s=45::B)(hB:B≠[])(hl:s.length≤15):Calls Tryz.prog 47 #[tx s] w fun e w'=>RiR s e∧Below w.heap.size w w':=by
 have hz:=tx_size s;have hidx: ∀j,s[1+j]? =B[j]? :=fun j=>by rw[hs,Nat.add_comm];rfl
 have hlen:s.length=1+B.length:=by rw[hs];simp;omega
 have g0:=getBL (s:=s) (k:=0) (c:=45) (by rw[hs];rfl);have hform: ∀m,s=Lib.itoa m→B=decDigits m.natAbs∧m= -((numU B:Nat):Int):=fun m h=>by
  rw[hs] at h;obtain⟨h1,h2⟩:=itoa_minus h;refine⟨h2,?_⟩;rw[h2,numU_dd];omega
 obtain⟨n,hn⟩: ∃n,B.length=n:=⟨_,rfl⟩;have hpos:0<n:=by rw[←hn];exact List.length_pos_iff.2 hB
 have hlen2:s.length=(1+n:Nat):=by rw[hlen,hn]
 rw[hlen2] at hz hl;have hno: ∀j c,B[j]? =some c→isD c=false→ ¬ ∃m:Int,s=Lib.itoa m∧s.length≤15:=fun j c hj hc ⟨m,hm,_⟩=>by
  have:=dd_isD m.natAbs c (by rw[←(hform m hm).1];exact List.mem_of_getElem? hj);rw[hc] at this;cases this
 have hend: ¬s=Lib.itoa (-((numU B:Nat):Int))→ ¬ ∃m:Int,s=Lib.itoa m∧s.length≤15:=fun h ⟨m,hm,_⟩=>h (by rw[←(hform m hm).2];exact hm);have hlS:s.length≤15:=by rw[hlen2];omega
 have HNO:=hid hno;have HEND:=hid hend;have HLS:=hid hlS;have HI:=hid hidx;have HN:=hid hn;clear hno hend hlS hidx hn hlen hlen2 hform hB hs;obtain⟨Z,hZ⟩: ∃Z:Int,(-((numU B:Nat):Int))=Z:=⟨_,rfl⟩;rw[hZ] at HEND;have HZ:=hid hZ;clear hZ;have KD:=hid (fun(m:Int) (W:World) (h:m.natAbs<1000000000000000)=>dec_any m W h);have q1:(((1+n:Nat):Int)==1)=false:=by simp;omega
 have q2:decide (15<1+n)=false:=decide_eq_false om_;have q3:decide (((1+n:Nat):Int)>15)=false:=decide_eq_false om_;have q4:decide (0<1+n)=true:=decide_eq_true om_;have q5:decide (((1+n:Nat):Int)>0)=true:=decide_eq_true om_;have q6:decide (15<(1:Int)+(n:Int))=false:=decide_eq_false om_;have q7:decide (0<(1:Int)+(n:Int))=true:=decide_eq_true om_;have q8:(((1:Int)+(n:Int))==1)=false:=by simp;omega
 go_enter func47,ntmps47;go_wp2;go_loopg [4,6] n (fun gz s4 s6 wr=> ∃(k v:Nat),k≤n∧n-k≤gz∧s4=vi vk (v:Int)∧s6=vi vk ((1+k:Nat):Int)∧v=numU (B.take k)∧(∀j c,j<k→B[j]? =some c→isD c=true)∧wr=w)
 case atStart=>exact⟨0,0,Nat.zero_le _,om_,rfl,rfl,by simp[numU],fun j c h=>by omega,rfl⟩
 case round=>
  obtain⟨k,v,hk,hg,rfl,rfl,hv,hall,rfl⟩:=hrel;have HV:=hid hv;have HA:=hid hall;have hvb:v<1000000000000000:=by
   rw[hv];refine Nat.lt_of_lt_of_le (numU_lt B k (by rw[HN.out];exact hk) hall) ?_;exact Nat.le_trans (Nat.pow_le_pow_right om_ (show k≤15 by omega)) dc_
  clear hall hv;by_cases hlt:k<n
  · have dl:decide (1+k<1+n)=true:=decide_eq_true om_
    have dl2:decide (((1:Int)+(k:Int))<(1:Int)+(n:Int))=true:=decide_eq_true om_;have dl3:decide (k<n)=true:=decide_eq_true hlt;have hlt2:1+k<1+n:=by omega
    obtain⟨c,hc⟩: ∃c,B[k]? =some c:=⟨_,List.getElem?_eq_getElem (by rw[HN.out];exact hlt)⟩;have g1:=getBL ((HI.out k).trans hc);have HC:=hid hc;have hc3:c.toNat<256:=c.toNat_lt;clear hc;by_cases h0:c.toNat<48
    · have d0:decide (c.toNat<48)=true:=decide_eq_true h0
      have hR:=hid (HNO.out k c HC.out (by unfold isD;simp;omega));go_wp2;go_ret2
      exact⟨RiR.no hR.out,Below.refl _ _⟩
    · have d0:decide (c.toNat<48)=false:=decide_eq_false h0
      by_cases h1:57<c.toNat
      · have d1:decide (57<c.toNat)=true:=decide_eq_true h1
        have hR:=hid (HNO.out k c HC.out (by unfold isD;simp;omega));go_wp2;go_ret2
        exact⟨RiR.no hR.out,Below.refl _ _⟩
      · have d1:decide (57<c.toNat)=false:=decide_eq_false h1
        obtain⟨x,hx⟩: ∃x,c.toNat-48=x:=⟨_,rfl⟩;have hxi:(c.toNat:Int)-48=(x:Int):=by omega
        have hw8:IntKind.u8.wrap ((c.toNat:Int)-48)=(x:Int):=by rw[hxi];exact IntWalk.u8_in _ om_
        have x9:x≤9:=by omega
        have HX:=hid hx;have hw:wrap64 (10*(v:Int)+(x:Int))=((10*v+x:Nat):Int):=by rw[IntWalk.wrap64_in _ om_];omega
        clear hx hxi;go_wp2;go_roundg (n-(k+1))
        case measure=>omega
        case rel=>
         refine⟨k+1,10*v+x,om_,om_,by go_num,by go_num,by rw[numU_take HC.out,←HV.out,HX.out],fun j d hj hd=>?_,rfl⟩;rcases Nat.lt_or_ge j k with h|h
         · exact HA.out j d h hd
         · obtain rfl:j=k:=by omega
           obtain rfl:c=d:=Option.some.inj (HC.out.symm.trans hd);unfold isD;simp;omega
  · obtain rfl:k=n:=by omega
    have dl:decide (1+k<1+k)=false:=decide_eq_false om_;have dl2:decide (((1:Int)+(k:Int))<(1:Int)+(k:Int))=false:=decide_eq_false om_;have dl3:decide (k<k)=false:=decide_eq_false om_;have hv2:v=numU B:=by rw[HV.out,←HN.out,List.take_length]
    have hZv:Z=(-(v:Int)):=by rw[←HZ.out,hv2]
    have HV2:=hid hv2;have HXW:=hid hZv;clear hv2 hZv;have K:=hid (fun W=>KD.out (-(v:Int)) W om_);clear KD;by_cases heq:Lib.itoa (-(v:Int))=s
    · have hq:=(bs_eq heq).1
      have hq2:=(bs_eq heq).2.1;have HQ:=hid heq;rw[heq] at K;have hqq:=bsq (a:=s) (b:=s) rfl;clear heq;go_wp2_with fail;(with_reducible refine(K.out _).mono ?_)
      rintro e w1 ⟨rfl,hb⟩
      have b1:=hid hb;clear hb;go_wp2;go_ret2
      exact⟨RiR.yes HQ.out.symm HLS.out,b1.out⟩
    · have hq:=(bs_ne heq).1
      have hq2:=(bs_ne heq).2.1;have hR:=hid (HEND.out (by rw[HXW.out];exact fun e=>heq e.symm));generalize Lib.itoa (-(v:Int))=T at*;clear heq;go_wp2_with fail;(with_reducible refine(K.out _).mono ?_)
      rintro e w1 ⟨rfl,hb⟩
      have b1:=hid hb;clear hb;go_wp2;go_ret2
      exact⟨RiR.no hR.out,b1.out⟩
theorem rint0_any(B s:Bs)(w:World)(hs:s=B∧B.head?≠some 45)(hB:B≠[])(hl:s.length≤15):Calls Tryz.prog 47 #[tx s] w fun e w'=>RiR s e∧Below w.heap.size w w':=by
 have hz:=tx_size s;obtain⟨rfl,hh⟩:=hs;obtain⟨c0,B0,rfl⟩: ∃c0 B0,s=c0::B0:=by
  cases s with
  |nil=>exact absurd rfl hB
  |cons c0 B0=>exact⟨c0,B0,rfl⟩
 have hc0: ¬c0=45:=fun e=>hh (by rw[e];rfl);have g0:=getBL (s:=c0::B0) (k:=0) (c:=c0) rfl;have qc:=(by_neI (n:=45) hc0).1;have qc2:((c0.toNat:Int)==45)=false:=qc;have hform: ∀m,c0::B0=Lib.itoa m→c0::B0=decDigits m.natAbs∧m=((numU (c0::B0):Nat):Int):=fun m h=>by
  obtain⟨h1,h2⟩:=itoa_plus hc0 h;refine⟨h2,?_⟩;rw[h2,numU_dd];omega
 clear hh hc0 qc;generalize c0::B0=B at*;have hidx: ∀j:Nat,B[j]? =B[j]? :=fun j=>rfl;have hlen:B.length=B.length:=rfl;obtain⟨n,hn⟩: ∃n,B.length=n:=⟨_,rfl⟩;have hpos:0<n:=by rw[←hn];exact List.length_pos_iff.2 hB
 have hlen2:B.length=(n:Nat):=hn;rw[hlen2] at hz hl;have hno: ∀j c,B[j]? =some c→isD c=false→ ¬ ∃m:Int,B=Lib.itoa m∧B.length≤15:=fun j c hj hc ⟨m,hm,_⟩=>by
  have:=dd_isD m.natAbs c (by rw[←(hform m hm).1];exact List.mem_of_getElem? hj);rw[hc] at this;cases this
 have hend: ¬B=Lib.itoa ((numU B:Nat):Int)→ ¬ ∃m:Int,B=Lib.itoa m∧B.length≤15:=fun h ⟨m,hm,_⟩=>h (by rw[←(hform m hm).2];exact hm);have hlS:B.length≤15:=by rw[hlen2];omega
 have HNO:=hid hno;have HEND:=hid hend;have HLS:=hid hlS;have HI:=hid hidx;have HN:=hid hn;clear hno hend hlS hidx hn hlen hlen2 hform hB;obtain⟨Z,hZ⟩: ∃Z:Int,((numU B:Nat):Int)=Z:=⟨_,rfl⟩;rw[hZ] at HEND;have HZ:=hid hZ;clear hZ;have KD:=hid (fun(m:Int) (W:World) (h:m.natAbs<1000000000000000)=>dec_any m W h);have q1:(((n:Nat):Int)==0)=false:=by simp;omega
 have q2:decide (15<n)=false:=decide_eq_false om_;have q3:decide (((n:Nat):Int)>15)=false:=decide_eq_false om_;have q4:decide (0<n)=true:=decide_eq_true om_;have q5:decide (((n:Nat):Int)>0)=true:=decide_eq_true om_;have q6:decide (15<(n:Int))=false:=decide_eq_false om_;have q7:decide (0<(n:Int))=true:=decide_eq_true om_;have q8:(((n:Int))==0)=false:=by simp;omega
 go_enter func47,ntmps47;go_wp2;go_loopg [4,6] n (fun gz s4 s6 wr=> ∃(k v:Nat),k≤n∧n-k≤gz∧s4=vi vk (v:Int)∧s6=vi vk ((k:Nat):Int)∧v=numU (B.take k)∧(∀j c,j<k→B[j]? =some c→isD c=true)∧wr=w)
 case atStart=>exact⟨0,0,Nat.zero_le _,om_,rfl,rfl,by simp[numU],fun j c h=>by omega,rfl⟩
 case round=>
  obtain⟨k,v,hk,hg,rfl,rfl,hv,hall,rfl⟩:=hrel;have HV:=hid hv;have HA:=hid hall;have hvb:v<1000000000000000:=by
   rw[hv];refine Nat.lt_of_lt_of_le (numU_lt B k (by rw[HN.out];exact hk) hall) ?_;exact Nat.le_trans (Nat.pow_le_pow_right om_ (show k≤15 by omega)) dc_
  clear hall hv;by_cases hlt:k<n
  · have dl:decide (k<n)=true:=decide_eq_true om_
    have dl2:decide (((k:Int))<(n:Int))=true:=decide_eq_true om_;have dl3:decide (k<n)=true:=decide_eq_true hlt;have hlt2:k<n:=by omega
    obtain⟨c,hc⟩: ∃c,B[k]? =some c:=⟨_,List.getElem?_eq_getElem (by rw[HN.out];exact hlt)⟩;have g1:=getBL hc;have HC:=hid hc;have hc3:c.toNat<256:=c.toNat_lt;clear hc;by_cases h0:c.toNat<48
    · have d0:decide (c.toNat<48)=true:=decide_eq_true h0
      have hR:=hid (HNO.out k c HC.out (by unfold isD;simp;omega));go_wp2;go_ret2
      exact⟨RiR.no hR.out,Below.refl _ _⟩
    · have d0:decide (c.toNat<48)=false:=decide_eq_false h0
      by_cases h1:57<c.toNat
      · have d1:decide (57<c.toNat)=true:=decide_eq_true h1
        have hR:=hid (HNO.out k c HC.out (by unfold isD;simp;omega));go_wp2;go_ret2
        exact⟨RiR.no hR.out,Below.refl _ _⟩
      · have d1:decide (57<c.toNat)=false:=decide_eq_false h1
        obtain⟨x,hx⟩: ∃x,c.toNat-48=x:=⟨_,rfl⟩;have hxi:(c.toNat:Int)-48=(x:Int):=by omega
        have hw8:IntKind.u8.wrap ((c.toNat:Int)-48)=(x:Int):=by rw[hxi];exact IntWalk.u8_in _ om_
        have x9:x≤9:=by omega
        have HX:=hid hx;have hw:wrap64 (10*(v:Int)+(x:Int))=((10*v+x:Nat):Int):=by rw[IntWalk.wrap64_in _ om_];omega
        clear hx hxi;go_wp2;go_roundg (n-(k+1))
        case measure=>omega
        case rel=>
         refine⟨k+1,10*v+x,om_,om_,by go_num,by go_num,by rw[numU_take HC.out,←HV.out,HX.out],fun j d hj hd=>?_,rfl⟩;rcases Nat.lt_or_ge j k with h|h
         · exact HA.out j d h hd
         · obtain rfl:j=k:=by omega
           obtain rfl:c=d:=Option.some.inj (HC.out.symm.trans hd);unfold isD;simp;omega
  · obtain rfl:k=n:=by omega
    have dl:decide (k<k)=false:=decide_eq_false om_;have dl2:decide (((k:Int))<(k:Int))=false:=decide_eq_false om_;have dl3:decide (k<k)=false:=decide_eq_false om_;have hv2:v=numU B:=by rw[HV.out,←HN.out,List.take_length]
    have hZv:Z=(v:Int):=by rw[←HZ.out,hv2]
    have HV2:=hid hv2;have HXW:=hid hZv;clear hv2 hZv;have K:=hid (fun W=>KD.out (v:Int) W om_);clear KD;by_cases heq:Lib.itoa (v:Int)=B
    · have hq:=(bs_eq heq).1
      have hq2:=(bs_eq heq).2.1;have HQ:=hid heq;rw[heq] at K;have hqq:=bsq (a:=B) (b:=B) rfl;clear heq;go_wp2_with fail;(with_reducible refine(K.out _).mono ?_)
      rintro e w1 ⟨rfl,hb⟩
      have b1:=hid hb;clear hb;go_wp2;go_ret2
      exact⟨RiR.yes HQ.out.symm HLS.out,b1.out⟩
    · have hq:=(bs_ne heq).1
      have hq2:=(bs_ne heq).2.1;have hR:=hid (HEND.out (by rw[HXW.out];exact fun e=>heq e.symm));generalize Lib.itoa (v:Int)=T at*;clear heq;go_wp2_with fail;(with_reducible refine(K.out _).mono ?_)
      rintro e w1 ⟨rfl,hb⟩
      have b1:=hid hb;clear hb;go_wp2;go_ret2
      exact⟨RiR.no hR.out,b1.out⟩
theorem rinteger_any(s:Bs)(w:World)(h4:s.length≤1000):Calls Tryz.prog 47 #[tx s] w fun e w'=>RiR s e∧Below w.heap.size w w':=by
 have hz:=tx_size s;by_cases hl:s.length≤15
 · cases s with
   |nil=>
    have hno: ¬ ∃n:Int,([]:Bs)=Lib.itoa n∧([]:Bs).length≤15:=fun⟨m,hm,_⟩=>by
     unfold Lib.itoa at hm;split at hm
     · cases hm
     · have:=congrArg List.length hm
       have h2:=dd_pos m.natAbs;first|(simp at this;omega)|(have h3:=dd_pos m.toNat;simp at this;omega)
    have HN:=hid hno;have dz:((⟨([]:Bs).toArray⟩:ByteArray).size)=0:=rfl;clear hno;go_enter func47,ntmps47;go_wp2;go_ret2
    exact⟨RiR.no HN.out,Below.refl _ _⟩
   |cons c B=>
    by_cases hc:c=45
    · subst hc
      cases B with
      |nil=>
       have hno: ¬ ∃n:Int,([45]:Bs)=Lib.itoa n∧([45]:Bs).length≤15:=fun⟨m,hm,_⟩=>by
        have h2:=dd_pos m.natAbs;rw[←(itoa_minus hm).2] at h2;simp at h2
       have HN:=hid hno;have g0:=getBL (s:=[45]) (k:=0) (c:=45) rfl;have dz:((⟨([45]:Bs).toArray⟩:ByteArray).size)=1:=rfl;clear hno;go_enter func47,ntmps47;go_wp2;go_ret2
       exact⟨RiR.no HN.out,Below.refl _ _⟩
      |cons d B=>exact rint1_any (d::B) _ w rfl (by simp) hl
    · exact rint0_any (c::B) _ w ⟨rfl,by simpa using hc⟩ (by simp) hl
 · have hno: ¬ ∃n:Int,s=Lib.itoa n∧s.length≤15:=fun⟨m,_,h⟩=>hl h
   have HN:=hid hno;cases s with
   |nil=>simp at hl
   |cons c B=>
    obtain⟨n,hn⟩: ∃n,(c::B).length=n:=⟨_,rfl⟩;rw[hn] at hz hl h4;have g0:=getBL (s:=c::B) (k:=0) (c:=c) rfl;have q2:decide (15<n)=true:=decide_eq_true om_;have q3:decide ((n:Int)>15)=true:=decide_eq_true om_;have q4:decide (0<n)=true:=decide_eq_true om_;have q5:decide ((n:Int)>0)=true:=decide_eq_true om_;have q6:((n:Int)==0)=false:=by simp;omega
    have q7:((n:Int)==1)=false:=by simp;omega
    have h0n:0<n:=by omega
    by_cases hc:c=45
    · have qc:((c.toNat:Int)==45)=true:=by rw[hc];rfl
      clear hno hn hc;generalize c::B=s at*;go_enter func47,ntmps47;go_wp2;go_ret2
      exact⟨RiR.no HN.out,Below.refl _ _⟩
    · have qc:((c.toNat:Int)==45)=false:=(by_neI (n:=45) hc).1
      clear hno hn hc;generalize c::B=s at*;go_enter func47,ntmps47;go_wp2;go_ret2
      exact⟨RiR.no HN.out,Below.refl _ _⟩
end
section
open Frm
theorem rLeap_any(y:Int)(w:World)(h:0≤y):Calls Tryz.prog 206 #[vi vk y] w fun e w'=>e=.returned (.bool (CA.leap y))∧w'=w:=by
 unfold CA.leap;go_enter func206,ntmps206;go_wp2;all_goals
  go_ret;exact⟨ret_bo (by by_cases k4:y%4=0<;>by_cases k1:y%100=0<;>by_cases k0:y%400=0<;>first|(exfalso;omega)|simp_all),rfl⟩
theorem rDays_any(y:Int)(m:Nat)(w:World)(h:0≤y)(m1:1≤m)(m2:m≤12):Calls Tryz.prog 169 #[vi vk y,vi vk (m:Int)] w fun e w'=>e=.returned (vi vk (CA.dm y m))∧w'=w:=by
 have KL:=hid (fun W=>rLeap_any y W h);by_cases h2:m=2
 · subst h2
   cases hl:CA.leap y with
   |true=>
    rw[hl] at KL;rw[feb_len hl];clear hl;go_enter func169,ntmps169;go_wp2_with (go_at_call 206;(with_reducible refine(KL.out _).mono ?_);rintro e w1 ⟨rfl,rfl⟩);go_ret;exact⟨rfl,rfl⟩
   |false=>
    rw[hl] at KL;rw[show CA.dm y 2=28 by unfold CA.dm;simp[hl]];clear hl;go_enter func169,ntmps169;go_wp2_with (go_at_call 206;(with_reducible refine(KL.out _).mono ?_);rintro e w1 ⟨rfl,rfl⟩);go_ret;exact⟨rfl,rfl⟩
 · have hm:m=1∨m=3∨m=4∨m=5∨m=6∨m=7∨m=8∨m=9∨m=10∨m=11∨m=12:=by omega
   rcases hm with rfl|rfl|rfl|rfl|rfl|rfl|rfl|rfl|rfl|rfl|rfl
   all_goals
    clear h2;go_enter func169,ntmps169;go_wp2;go_ret;exact⟨rfl,rfl⟩
theorem rBefore_any(y:Int)(w:World)(h:1≤y)(h1:y≤1000000):Calls Tryz.prog 168 #[vi vk y] w fun e w'=>e=.returned (vi vk (CA.bef y))∧w'=w:=by
 have e4:(y-1).tdiv 4=(y-1)/4:=Int.tdiv_eq_ediv_of_nonneg om_;have e1:(y-1).tdiv 100=(y-1)/100:=Int.tdiv_eq_ediv_of_nonneg om_;have e0:(y-1).tdiv 400=(y-1)/400:=Int.tdiv_eq_ediv_of_nonneg om_;go_enter func168,ntmps168;go_wp2;go_ret;exact⟨ret_in (by unfold CA.bef;first|rfl|(simp_all;done)|(simp_all;omega)|omega),rfl⟩
theorem num_first:CA.num ⟨1,1,1⟩= -730119:=by decide
theorem num_last:CA.num ⟨9999,12,31⟩=2921939:=by decide
theorem vd_no{y m d:Int}(h: ¬(1≤y∧y≤9999∧1≤m∧m≤12∧1≤d∧d≤CA.dm y m.toNat)):vdB y m d=false:=by
 cases q:vdB y m d with
 |false=>rfl
 |true=>
  unfold vdB at q;simp only[Bool.and_eq_true,decide_eq_true_eq] at q;exact absurd ⟨q.1.1,q.1.2.1,q.1.2.2.1,q.1.2.2.2,q.2.1,q.2.2⟩ h
theorem vd_yes{y m d:Int}(h:1≤y∧y≤9999∧1≤m∧m≤12∧1≤d∧d≤CA.dm y m.toNat):vdB y m d=true:=by
 unfold vdB;simp only[Bool.and_eq_true,decide_eq_true_eq];exact⟨⟨h.1,h.2.1,h.2.2.1,h.2.2.2.1⟩,h.2.2.2.2.1,h.2.2.2.2.2⟩
theorem rDValid_any(y m d:Int)(w:World):Calls Tryz.prog 131 #[.agg (dtv y m d)] w fun e w'=>e=.returned (.bool (vdB y m d))∧Below w.heap.size w w':=by
 have b0:=hid (bl_alloc w (.cells (dtv y m d) 100));have G0:=hid (Blk.new w 100 (dtv y m d));have KD:Hid (∀W,1≤y→1≤m→m≤12→Calls Tryz.prog 169 #[vi vk y,vi vk m] W fun e w'=>e=.returned (vi vk (CA.dm y m.toNat))∧w'=W):=hid fun W h1 h2 h3=>by
  have:=rDays_any y m.toNat W om_ om_ om_;rwa [show((m.toNat:Nat):Int)=m by omega] at this
 obtain⟨D,hD⟩: ∃D,CA.dm y m.toNat=D:=⟨_,rfl⟩;have hV: ∀b,(b=true↔1≤y∧y≤9999∧1≤m∧m≤12∧1≤d∧d≤D)→vdB y m d=b:=fun b h=>by
  cases b with
  |true=>exact vd_yes (by rw[hD];exact h.1 rfl)
  |false=>exact vd_no (fun q=>by rw[hD] at q;have:=h.2 q;cases this)
 rw[hD] at KD;have HV:=hid hV;clear hV hD;have hc:(¬(1≤y))∨((1≤y)∧ ¬(y≤9999))∨((1≤y)∧(y≤9999)∧ ¬(1≤m))∨((1≤y)∧(y≤9999)∧(1≤m)∧ ¬(m≤12))∨((1≤y)∧(y≤9999)∧(1≤m)∧(m≤12)∧ ¬(1≤d))∨((1≤y)∧(y≤9999)∧(1≤m)∧(m≤12)∧(1≤d)∧ ¬(d≤D))∨((1≤y)∧(y≤9999)∧(1≤m)∧(m≤12)∧(1≤d)∧(d≤D)):=by omega
 rcases hc with c1|⟨c1,c2⟩|⟨c1,c2,c3⟩|⟨c1,c2,c3,c4⟩|⟨c1,c2,c3,c4,c5⟩|⟨c1,c2,c3,c4,c5,c6⟩|⟨c1,c2,c3,c4,c5,c6⟩
 · have hv:=HV.out false ⟨fun h=>by simp at h,fun h=>absurd h.1 c1⟩
   have d1:=decide_eq_false c1;have K:=KD;rw[hv];clear hv HV KD;go_enter func131,ntmps131;go_upto_region 1 with fail
   generalize w.alloc (.cells (dtv y m d) 100)=w0 at*;have y0: ∀s:BQ w0,s.w.cell? ⟨w.heap.size,0,none⟩=some (vi vk y):=fun s=>(G0.out.below s.hb G0.out.lt).cell 0;have y1: ∀s:BQ w0,s.w.cell? ⟨w.heap.size,1,none⟩=some (vi vk m):=fun s=>(G0.out.below s.hb G0.out.lt).cell 1;have y2: ∀s:BQ w0,s.w.cell? ⟨w.heap.size,2,none⟩=some (vi vk d):=fun s=>(G0.out.below s.hb G0.out.lt).cell 2;refine wp_region_bq w0 (by kernel_rfl) (by kernel_rfl) (Below.refl _ _) ?_;repeat (go_big_quiet_step (first|(go_at_call 169;with_reducible exact quiet_bq0 (K.out _))|fail))
   refine wpQuiet_nil ?_;intro w9 hb9;go_wp2;go_ret;exact⟨ret_bo (by simp[*]),b0.out.trans (hb9.mono b0.out.size)⟩
 · have hv:=HV.out false ⟨fun h=>by simp at h,fun h=>absurd h.2.1 c2⟩
   have d1:=decide_eq_true c1;have d2:=decide_eq_false c2;have K:=KD;rw[hv];clear hv HV KD;go_enter func131,ntmps131;go_upto_region 1 with fail
   generalize w.alloc (.cells (dtv y m d) 100)=w0 at*;have y0: ∀s:BQ w0,s.w.cell? ⟨w.heap.size,0,none⟩=some (vi vk y):=fun s=>(G0.out.below s.hb G0.out.lt).cell 0;have y1: ∀s:BQ w0,s.w.cell? ⟨w.heap.size,1,none⟩=some (vi vk m):=fun s=>(G0.out.below s.hb G0.out.lt).cell 1;have y2: ∀s:BQ w0,s.w.cell? ⟨w.heap.size,2,none⟩=some (vi vk d):=fun s=>(G0.out.below s.hb G0.out.lt).cell 2;refine wp_region_bq w0 (by kernel_rfl) (by kernel_rfl) (Below.refl _ _) ?_;repeat (go_big_quiet_step (first|(go_at_call 169;with_reducible exact quiet_bq0 (K.out _))|fail))
   refine wpQuiet_nil ?_;intro w9 hb9;go_wp2;go_ret;exact⟨ret_bo (by simp[*]),b0.out.trans (hb9.mono b0.out.size)⟩
 · have hv:=HV.out false ⟨fun h=>by simp at h,fun h=>absurd h.2.2.1 c3⟩
   have d1:=decide_eq_true c1;have d2:=decide_eq_true c2;have d3:=decide_eq_false c3;have K:=KD;rw[hv];clear hv HV KD;go_enter func131,ntmps131;go_upto_region 1 with fail
   generalize w.alloc (.cells (dtv y m d) 100)=w0 at*;have y0: ∀s:BQ w0,s.w.cell? ⟨w.heap.size,0,none⟩=some (vi vk y):=fun s=>(G0.out.below s.hb G0.out.lt).cell 0;have y1: ∀s:BQ w0,s.w.cell? ⟨w.heap.size,1,none⟩=some (vi vk m):=fun s=>(G0.out.below s.hb G0.out.lt).cell 1;have y2: ∀s:BQ w0,s.w.cell? ⟨w.heap.size,2,none⟩=some (vi vk d):=fun s=>(G0.out.below s.hb G0.out.lt).cell 2;refine wp_region_bq w0 (by kernel_rfl) (by kernel_rfl) (Below.refl _ _) ?_;repeat (go_big_quiet_step (first|(go_at_call 169;with_reducible exact quiet_bq0 (K.out _))|fail))
   refine wpQuiet_nil ?_;intro w9 hb9;go_wp2;go_ret;exact⟨ret_bo (by simp[*]),b0.out.trans (hb9.mono b0.out.size)⟩
 · have hv:=HV.out false ⟨fun h=>by simp at h,fun h=>absurd h.2.2.2.1 c4⟩
   have d1:=decide_eq_true c1;have d2:=decide_eq_true c2;have d3:=decide_eq_true c3;have d4:=decide_eq_false c4;have K:=KD;rw[hv];clear hv HV KD;go_enter func131,ntmps131;go_upto_region 1 with fail
   generalize w.alloc (.cells (dtv y m d) 100)=w0 at*;have y0: ∀s:BQ w0,s.w.cell? ⟨w.heap.size,0,none⟩=some (vi vk y):=fun s=>(G0.out.below s.hb G0.out.lt).cell 0;have y1: ∀s:BQ w0,s.w.cell? ⟨w.heap.size,1,none⟩=some (vi vk m):=fun s=>(G0.out.below s.hb G0.out.lt).cell 1;have y2: ∀s:BQ w0,s.w.cell? ⟨w.heap.size,2,none⟩=some (vi vk d):=fun s=>(G0.out.below s.hb G0.out.lt).cell 2;refine wp_region_bq w0 (by kernel_rfl) (by kernel_rfl) (Below.refl _ _) ?_;repeat (go_big_quiet_step (first|(go_at_call 169;with_reducible exact quiet_bq0 (K.out _))|fail))
   refine wpQuiet_nil ?_;intro w9 hb9;go_wp2;go_ret;exact⟨ret_bo (by simp[*]),b0.out.trans (hb9.mono b0.out.size)⟩
 · have hv:=HV.out false ⟨fun h=>by simp at h,fun h=>absurd h.2.2.2.2.1 c5⟩
   have d1:=decide_eq_true c1;have d2:=decide_eq_true c2;have d3:=decide_eq_true c3;have d4:=decide_eq_true c4;have d5:=decide_eq_false c5;have K:=hid (fun W=>KD.out W c1 c3 c4);rw[hv];clear hv HV KD;go_enter func131,ntmps131;go_upto_region 1 with fail
   generalize w.alloc (.cells (dtv y m d) 100)=w0 at*;have y0: ∀s:BQ w0,s.w.cell? ⟨w.heap.size,0,none⟩=some (vi vk y):=fun s=>(G0.out.below s.hb G0.out.lt).cell 0;have y1: ∀s:BQ w0,s.w.cell? ⟨w.heap.size,1,none⟩=some (vi vk m):=fun s=>(G0.out.below s.hb G0.out.lt).cell 1;have y2: ∀s:BQ w0,s.w.cell? ⟨w.heap.size,2,none⟩=some (vi vk d):=fun s=>(G0.out.below s.hb G0.out.lt).cell 2;refine wp_region_bq w0 (by kernel_rfl) (by kernel_rfl) (Below.refl _ _) ?_;repeat (go_big_quiet_step (first|(go_at_call 169;with_reducible exact quiet_bq0 (K.out _))|fail))
   refine wpQuiet_nil ?_;intro w9 hb9;go_wp2;go_ret;exact⟨ret_bo (by simp[*]),b0.out.trans (hb9.mono b0.out.size)⟩
 · have hv:=HV.out false ⟨fun h=>by simp at h,fun h=>absurd h.2.2.2.2.2 c6⟩
   have d1:=decide_eq_true c1;have d2:=decide_eq_true c2;have d3:=decide_eq_true c3;have d4:=decide_eq_true c4;have d5:=decide_eq_true c5;have d6:=decide_eq_false c6;have K:=hid (fun W=>KD.out W c1 c3 c4);rw[hv];clear hv HV KD;go_enter func131,ntmps131;go_upto_region 1 with fail
   generalize w.alloc (.cells (dtv y m d) 100)=w0 at*;have y0: ∀s:BQ w0,s.w.cell? ⟨w.heap.size,0,none⟩=some (vi vk y):=fun s=>(G0.out.below s.hb G0.out.lt).cell 0;have y1: ∀s:BQ w0,s.w.cell? ⟨w.heap.size,1,none⟩=some (vi vk m):=fun s=>(G0.out.below s.hb G0.out.lt).cell 1;have y2: ∀s:BQ w0,s.w.cell? ⟨w.heap.size,2,none⟩=some (vi vk d):=fun s=>(G0.out.below s.hb G0.out.lt).cell 2;refine wp_region_bq w0 (by kernel_rfl) (by kernel_rfl) (Below.refl _ _) ?_;repeat (go_big_quiet_step (first|(go_at_call 169;with_reducible exact quiet_bq0 (K.out _))|fail))
   refine wpQuiet_nil ?_;intro w9 hb9;go_wp2;go_ret;exact⟨ret_bo (by simp[*]),b0.out.trans (hb9.mono b0.out.size)⟩
 · have hv:=HV.out true ⟨fun _=>⟨c1,c2,c3,c4,c5,c6⟩,fun _=>rfl⟩
   have d1:=decide_eq_true c1;have d2:=decide_eq_true c2;have d3:=decide_eq_true c3;have d4:=decide_eq_true c4;have d5:=decide_eq_true c5;have d6:=decide_eq_true c6;have K:=hid (fun W=>KD.out W c1 c3 c4);rw[hv];clear hv HV KD;go_enter func131,ntmps131;go_upto_region 1 with fail
   generalize w.alloc (.cells (dtv y m d) 100)=w0 at*;have y0: ∀s:BQ w0,s.w.cell? ⟨w.heap.size,0,none⟩=some (vi vk y):=fun s=>(G0.out.below s.hb G0.out.lt).cell 0;have y1: ∀s:BQ w0,s.w.cell? ⟨w.heap.size,1,none⟩=some (vi vk m):=fun s=>(G0.out.below s.hb G0.out.lt).cell 1;have y2: ∀s:BQ w0,s.w.cell? ⟨w.heap.size,2,none⟩=some (vi vk d):=fun s=>(G0.out.below s.hb G0.out.lt).cell 2;refine wp_region_bq w0 (by kernel_rfl) (by kernel_rfl) (Below.refl _ _) ?_;repeat (go_big_quiet_step (first|(go_at_call 169;with_reducible exact quiet_bq0 (K.out _))|fail))
   refine wpQuiet_nil ?_;intro w9 hb9;go_wp2;go_ret;exact⟨ret_bo (by simp[*]),b0.out.trans (hb9.mono b0.out.size)⟩
theorem rDayOf_any(y d:Int)(m:Nat)(w:World)(h:0≤y)(m1:1≤m)(m2:m≤12)(d0:0≤d)(d1:d≤100):Calls Tryz.prog 184 #[.agg (dtv y m d)] w fun e w'=>e=.returned (vi vk (CA.cum y m+d))∧Below w.heap.size w w':=by
 have KD:=hid (fun(k:Nat) (W:World) (k1:1≤k) (k2:k≤12)=>rDays_any y k W h k1 k2);have G0:=hid (Blk.new w 100 (dtv y m d));have b0:=hid (bl_alloc w (.cells (dtv y m d) 100));go_enter func184,ntmps184;go_upto_region 1 with fail
 generalize w.alloc (.cells (dtv y m d) 100)=w0 at*;have y2:w0.cell? ⟨w.heap.size,2,none⟩=some (vi vk d):=G0.out.cell 2;go_wp2_with fail;go_loopw [3,4] (fun s3 s4 wr=> ∃k:Nat,1≤k∧k≤m∧s4=vi vk k∧s3=vi vk (CA.cum y k+d)∧Blk wr w.heap.size 100 (dtv y m d)∧Below w.heap.size w wr) (fun _ s4 _=>m-(intOf s4).toNat)
 case atStart=>exact⟨1,Nat.le_refl _,m1,rfl,by show vi vk d=vi vk (0+d);rw[Int.zero_add],G0.out,b0.out⟩
 case round=>
  obtain⟨k,k1,k2,rfl,rfl,hG,hB⟩:=hrel;have y0:wr.cell? ⟨w.heap.size,0,none⟩=some (vi vk y):=hG.cell 0;have y1:wr.cell? ⟨w.heap.size,1,none⟩=some (vi vk (m:Int)):=hG.cell 1;have GG:=hid hG;have BB:=hid hB;clear hG hB y2;by_cases hk:k<m
  · have dk:decide ((k:Int)<(m:Int))=true:=decide_eq_true om_
    have K:=hid (KD.out k wr k1 om_);have hc:=CA.cum_succ y k1;have hb:=CA.cum_bd y k;have hd:=CA.dm_pos y k;go_wp2_with fail;(with_reducible refine(K.out).mono ?_)
    rintro e w1 ⟨rfl,rfl⟩
    go_wp2;go_roundw
    case rel=>exact⟨k+1,om_,om_,by go_num,by rw[hc];go_num,GG.out,BB.out⟩
    case measure=>simp[intOf];omega
  · have dk:decide ((k:Int)<(m:Int))=false:=decide_eq_false om_
    obtain rfl:k=m:=by omega
    go_wp2;go_ret;exact⟨rfl,BB.out⟩
theorem rNumber_any(y d:Int)(m:Nat)(w:World)(h:1≤y)(h1:y≤9999)(m1:1≤m)(m2:m≤12)(d0:0≤d)(d1:d≤31):Calls Tryz.prog 132 #[.agg (dtv y m d)] w fun e w'=>e=.returned (vi vk (CA.num ⟨y,m,d⟩))∧Below w.heap.size w w':=by
 have KB:=hid (fun W=>rBefore_any y W h om_);have KZ:=hid (fun W=>rBefore_any 2000 W om_ om_);rw[CA.bef_2000] at KZ;have KD:=hid (fun W=>rDayOf_any y d m W om_ m1 m2 d0 om_);have hb:=bef_bd h (show y≤10000 by omega);have hc:=CA.cum_bd y m;unfold CA.num;simp only[];have hC:0≤CA.cum y m+d∧CA.cum y m+d≤1000:=by omega
 generalize CA.cum y m+d=C at*;generalize CA.bef y=B at*;have b0:=bl_alloc w (.cells (dtv y m d) 100);have G0:=Blk.new w 100 (dtv y m d);clear hc h h1 m1 m2 d0 d1;obtain⟨hb0,hb1⟩:=hb;obtain⟨hC0,hC1⟩:=hC;go_enter func132,ntmps132;go_upto_region 1 with fail
 generalize w.alloc (.cells (dtv y m d) 100)=w0 at*;have y0: ∀s:BQ w0,s.w.cell? ⟨w.heap.size,0,none⟩=some (vi vk y):=fun s=>(G0.below s.hb G0.lt).cell 0;have y1: ∀s:BQ w0,s.w.cell? ⟨w.heap.size,1,none⟩=some (vi vk m):=fun s=>(G0.below s.hb G0.lt).cell 1;have y2: ∀s:BQ w0,s.w.cell? ⟨w.heap.size,2,none⟩=some (vi vk d):=fun s=>(G0.below s.hb G0.lt).cell 2;refine wp_region_bq w0 (by kernel_rfl) (by kernel_rfl) (Below.refl _ _) ?_;repeat (go_big_quiet_step (first|(go_at_call 168;first|with_reducible exact quiet_bq0 (KB.out _)|with_reducible exact quiet_bq0 (KZ.out _))|(go_at_call 184;exact quiet_bq (KD.out _))|fail))
 refine wpQuiet_nil ?_;intro w9 hb9;go_wp2;go_ret;exact⟨ret_in (by first|rfl|(simp_all;done)|omega),b0.trans (hb9.mono b0.size)⟩
theorem rFirst_any(w:World):Calls Tryz.prog 114 #[] w fun e w'=>e=.returned (vi vk (-730119))∧Below w.heap.size w w':=by
 have K:=hid (fun W=>rNumber_any 1 1 1 W om_ om_ om_ om_ om_ om_);rw[num_first] at K;unfold dtv at K;go_enter func114,ntmps114;go_wp2_with fail;(refine(K.out _).mono ?_)
 rintro e w1 ⟨rfl,hb⟩
 go_wp2;go_ret;exact⟨rfl,hb⟩
theorem rLast_any(w:World):Calls Tryz.prog 115 #[] w fun e w'=>e=.returned (vi vk 2921939)∧Below w.heap.size w w':=by
 have K:=hid (fun W=>rNumber_any 9999 31 12 W om_ om_ om_ om_ om_ om_);rw[num_last] at K;unfold dtv at K;go_enter func115,ntmps115;go_wp2_with fail;(refine(K.out _).mono ?_)
 rintro e w1 ⟨rfl,hb⟩
 go_wp2;go_ret;exact⟨rfl,hb⟩
end
section
open Frm
open Lib (decDigits)
def rI(l:Bs):Int:=if l.all isD=true then(numU l:Int) else-1
theorem rI_pos{l:Bs}(h:0≤rI l):(∀c∈l,isD c=true)∧rI l=(numU l:Int):=by
 unfold rI at h⊢;split at h
 · rename_i q
   exact⟨List.all_eq_true.1 q,if_pos q⟩
 · omega
theorem rI_dgs(n k:Nat):rI (dgs n k)=(n:Int):=by
 unfold rI;rw[if_pos (List.all_eq_true.2 (dgs_isD n k)),numU_dgs]
theorem date_of{a0 a1 a2 a3 a5 a6 a8 a9:UInt8}(h:vdB (rI [a0,a1,a2,a3]) (rI [a5,a6]) (rI [a8,a9])=true):
 ∃x,CA.vld x∧dateT x=[a0,a1,a2,a3,45,a5,a6,45,a8,a9]∧x.y=rI [a0,a1,a2,a3]∧(x.m:Int)=rI [a5,a6]∧x.d=rI [a8,a9]:=by
 obtain⟨h1,h2⟩:=vd_of h;have p1:=rI_pos (l:=[a0,a1,a2,a3]) (by have:=h1.1;simp only[] at this;omega);have p2:=rI_pos (l:=[a5,a6]) om_;have p3:=rI_pos (l:=[a8,a9]) (by have:=h1.2.2.2.2.1;simp only[] at this;omega);refine⟨_,h1,?_,rfl,h2,rfl⟩;unfold dateT;simp only[];rw[p1.2,p2.2,p3.2,Int.toNat_natCast,Int.toNat_natCast,Int.toNat_natCast,CT.dgs_of 4 _ rfl p1.1,CT.dgs_of 2 _ rfl p2.1,CT.dgs_of 2 _ rfl p3.1];rfl
theorem two_of{n:Nat}(h:n<100): ∃y z,dgs n 2=[y,z]:=by
 have hl:=dgs_len 2 n h;match dgs n 2,hl with
 | [y,z],_=>exact⟨y,z,rfl⟩
theorem three_of{n:Nat}(h:n<1000): ∃x y z,dgs n 3=[x,y,z]:=by
 have hl:=dgs_len 3 n h;match dgs n 3,hl with
 | [x,y,z],_=>exact⟨x,y,z,rfl⟩
theorem four_of{n:Nat}(h:n<10000): ∃w x y z,dgs n 4=[w,x,y,z]:=by
 have hl:=dgs_len 4 n h;match dgs n 4,hl with
 | [w,x,y,z],_=>exact⟨w,x,y,z,rfl⟩
theorem date_back{x:CA.Date}(h:CA.vld x){a0 a1 a2 a3 a4 a5 a6 a7 a8 a9:UInt8}(e:dateT x=[a0,a1,a2,a3,a4,a5,a6,a7,a8,a9]):
 a4=45∧a7=45∧rI [a0,a1,a2,a3]=x.y∧rI [a5,a6]=(x.m:Int)∧rI [a8,a9]=x.d:=by
 obtain⟨h1,h2,h3,h4,h5,h6⟩:=h;have hd:=dm_le x.y x.m;have ry:=rI_dgs x.y.toNat 4;have rm:=rI_dgs x.m 2;have rd:=rI_dgs x.d.toNat 2;obtain⟨b0,b1,b2,b3,q1⟩:=four_of (n:=x.y.toNat) om_;obtain⟨b5,b6,q2⟩:=two_of (n:=x.m) om_;obtain⟨b8,b9,q3⟩:=two_of (n:=x.d.toNat) om_;unfold dateT at e;rw[q1,q2,q3] at e;simp only[List.cons_append,List.nil_append,List.cons.injEq,and_true] at e;obtain⟨rfl,rfl,rfl,rfl,rfl,rfl,rfl,rfl,rfl,rfl⟩:=e;rw[q1] at ry;rw[q2] at rm;rw[q3] at rd;exact⟨rfl,rfl,by rw[ry];omega,rm,by rw[rd];omega⟩
def msN(H M X F:Nat):Nat:=H*3600000+M*60000+X*1000+F
theorem rN_two{a b:UInt8}{n:Nat}(h:rN [a,b] 2=(n,true)):dgs n 2=[a,b]:=by
 unfold rN at h;split at h
 · rename_i q
   simp only[Prod.mk.injEq,and_true] at h;rw[←h];exact CT.dgs_of 2 _ rfl (List.all_eq_true.1 q.2)
 · simp at h
theorem rN_three{a b c:UInt8}{n:Nat}(h:rN [a,b,c] 3=(n,true)):dgs n 3=[a,b,c]∧n<1000:=by
 unfold rN at h;split at h
 · rename_i q
   simp only[Prod.mk.injEq,and_true] at h;rw[←h];exact⟨CT.dgs_of 3 _ rfl (List.all_eq_true.1 q.2),by have:=numU_dg3 (List.all_eq_true.1 q.2);simpa using this⟩
 · simp at h
theorem rN_dgs{n k:Nat}{l:Bs}(h:dgs n k=l)(hk:l.length=k):rN l k=(n,true):=by
 unfold rN;subst h;rw[if_pos ⟨hk,List.all_eq_true.2 (dgs_isD n k)⟩,numU_dgs]
theorem clock_of8{b1 b2 b4 b5 b7 b8:UInt8}{H M X:Nat}(h1:rN [b1,b2] 2=(H,true))(h2:rN [b4,b5] 2=(M,true))(h3:rN [b7,b8] 2=(X,true))(_l1:H≤23)(l2:M≤59)(l3:X≤59):
 CT.clockT (msN H M X 0)=[b1,b2,58,b4,b5,58,b7,b8]:=by
 unfold CT.clockT msN;rw[show(H*3600000+M*60000+X*1000+0)/3600000=H by omega,show(H*3600000+M*60000+X*1000+0)/60000%60=M by omega,show(H*3600000+M*60000+X*1000+0)/1000%60=X by omega,show(H*3600000+M*60000+X*1000+0)%1000=0 by omega,if_pos rfl,rN_two h1,rN_two h2,rN_two h3];rfl
theorem clock_of12{b1 b2 b4 b5 b7 b8 c0 c1 c2:UInt8}{H M X F:Nat}(h1:rN [b1,b2] 2=(H,true))(h2:rN [b4,b5] 2=(M,true))(h3:rN [b7,b8] 2=(X,true))(h4:rN [c0,c1,c2] 3=(F,true))(_l1:H≤23)(l2:M≤59)(l3:X≤59)(l4:F≠0):
 CT.clockT (msN H M X F)=[b1,b2,58,b4,b5,58,b7,b8,46,c0,c1,c2]:=by
 obtain⟨q4,l5⟩:=rN_three h4;unfold CT.clockT msN;rw[show(H*3600000+M*60000+X*1000+F)/3600000=H by omega,show(H*3600000+M*60000+X*1000+F)/60000%60=M by omega,show(H*3600000+M*60000+X*1000+F)/1000%60=X by omega,show(H*3600000+M*60000+X*1000+F)%1000=F by omega,if_neg l4,rN_two h1,rN_two h2,rN_two h3,q4];rfl
theorem clock_back{k:Nat}(hk:k<86400000): ∃b1 b2 b4 b5 b7 b8 H M X,rN [b1,b2] 2=(H,true)∧rN [b4,b5] 2=(M,true)∧rN [b7,b8] 2=(X,true)∧H≤23∧M≤59∧X≤59∧
 ((k=msN H M X 0∧CT.clockT k=[b1,b2,58,b4,b5,58,b7,b8])∨ ∃c0 c1 c2 F,rN [c0,c1,c2] 3=(F,true)∧F≠0∧k=msN H M X F∧CT.clockT k=[b1,b2,58,b4,b5,58,b7,b8,46,c0,c1,c2]):=by
 obtain⟨b1,b2,q1⟩:=two_of (n:=k/3600000) om_;obtain⟨b4,b5,q2⟩:=two_of (n:=k/60000%60) om_;obtain⟨b7,b8,q3⟩:=two_of (n:=k/1000%60) om_;refine⟨b1,b2,b4,b5,b7,b8,_,_,_,rN_dgs q1 rfl,rN_dgs q2 rfl,rN_dgs q3 rfl,om_,om_,om_,?_⟩;by_cases h0:k%1000=0
 · refine .inl ⟨by unfold msN;omega,?_⟩
   unfold CT.clockT;rw[q1,q2,q3,if_pos h0];rfl
 · obtain⟨c0,c1,c2,q4⟩:=three_of (n:=k%1000) om_
   refine .inr ⟨c0,c1,c2,_,rN_dgs q4 rfl,h0,by unfold msN;omega,?_⟩;unfold CT.clockT;rw[q1,q2,q3,if_neg h0,q4];rfl
theorem inst_of{x:CA.Date}{k:Nat}{A C:Bs}(h:CA.vld x)(hk:k<86400000)(hA:dateT x=A)(hC:CT.clockT k=C):IsInst (CA.num x*86400000+(k:Int)) (A++32::C):=by
 subst hA hC;refine⟨x,h,om_,?_⟩;rw[show((CA.num x*86400000+(k:Int))%86400000).toNat=k by omega]
theorem inst_back{t:Int}{A B:Bs}(hA:A.length=10)(h:IsInst t (A++B)): ∃x k,CA.vld x∧k<86400000∧A=dateT x∧B=32::CT.clockT k∧t=CA.num x*86400000+(k:Int):=by
 obtain⟨x,h1,h2,h3⟩:=h;have hl:=dateT_len h1;obtain⟨e1,e2⟩:=List.append_inj h3 (hA.trans hl.symm);exact⟨x,(t%86400000).toNat,h1,om_,e1,e2,om_⟩
end
end Go.Proofs.YtbpnacacnncopaaGreatDoor
