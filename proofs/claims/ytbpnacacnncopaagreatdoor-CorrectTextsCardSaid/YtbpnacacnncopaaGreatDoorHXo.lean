/- The reference's text of a valid sight. -/
import Derived.Test.YtbpnacacnncopaaGreatDoorHSz
import Derived.Test.YtbpnacacnncopaaGreatDoorHIs
set_option linter.unusedSimpArgs false
set_option linter.unusedVariables false
set_option maxHeartbeats 4000000
set_option maxRecDepth 100000
open Go.RowKit
open Go.Lib (hid)
open Go.Proofs.Tryz
open Go.Value renaming int→vi
open Go.IntKind renaming i64→vk
namespace Go.Proofs.YtbpnacacnncopaaGreatDoor
section
open Go.Shelf Frm
open Lib (decDigits)
def upd(v:Nat→Value)(i:Nat)(x:Value):Nat→Value:=fun j=>if j=i then x else v j
theorem stepS{S:Nat→Value→World→Prop}{M:Nat→Bool}{v:Nat→Value}{i:Nat}{x:Value}{w w':World}(h: ∀j,M j=true→S j (v j) w)(hk: ∀j y,S j y w→S j y w')(hx:S i x w'): ∀j,mkd M i j=true→S j (upd v i x j) w':=by
 intro j hj;unfold upd;by_cases e:j=i
 · subst e
   rw[if_pos rfl];exact hx
 · rw[if_neg e]
   rw[mkd_ne e] at hj;exact hk _ _ (h j hj)
theorem cat_any(x y:Bs)(n:Nat)(hx:x.length≤n)(hy:y.length≤1000)(hn:n≤100000): ∃P:Bs,x++y=P∧P.length≤n+1000∧ ∀W,(Op.stringOp .add ⟨x.toArray⟩ ⟨y.toArray⟩).run Tryz.prog W=.ok (tx P) W:=⟨_,rfl,by rw[List.length_append];omega,tx_add x y om_ om_⟩
def TtS(X:Array Value)(k1 k2:Nat)(i:Nat)(v:Value)(w:World):Prop:=
 if i=3 then∃q,v=.slice (some ⟨q,0,none⟩) 3 3∧Blk w q 9 #[tx [99,101,110,116,101,114],tx [108,111,119,101,114],tx [117,112,112,101,114]]
 else if i=7 then∃q,v=.pointer (some ⟨q,k1,none⟩)∧Blk w q 9 #[tx [99,101,110,116,101,114],tx [108,111,119,101,114],tx [117,112,112,101,114]]
 else if i=27 then∃q,v=.slice (some ⟨q,0,none⟩) 3 3∧Blk w q 9 #[tx [110,97,116,117,114,97,108],tx [97,114,116,105,102,105,99,105,97,108],tx [115,104,111,114,101]]
 else if i=31 then∃q,v=.pointer (some ⟨q,k2,none⟩)∧Blk w q 9 #[tx [110,97,116,117,114,97,108],tx [97,114,116,105,102,105,99,105,97,108],tx [115,104,111,114,101]]
 else v=X.getD i undef
theorem TtS.keep{X:Array Value}{k1 k2:Nat}{w w':World}(hb:Below w.heap.size w w')(i:Nat)(v:Value)(h:TtS X k1 k2 i v w):TtS X k1 k2 i v w':=by
 unfold TtS at h⊢;split
 · rename_i e
   rw[if_pos e] at h;obtain⟨q,h1,h2⟩:=h;exact⟨q,h1,h2.below hb h2.lt⟩
 · rename_i e
   rw[if_neg e] at h;split
   · rename_i e
     rw[if_pos e] at h;obtain⟨q,h1,h2⟩:=h;exact⟨q,h1,h2.below hb h2.lt⟩
   · rename_i e
     rw[if_neg e] at h;split
     · rename_i e
       rw[if_pos e] at h;obtain⟨q,h1,h2⟩:=h;exact⟨q,h1,h2.below hb h2.lt⟩
     · rename_i e
       rw[if_neg e] at h;split
       · rename_i e
         rw[if_pos e] at h;obtain⟨q,h1,h2⟩:=h;exact⟨q,h1,h2.below hb h2.lt⟩
       · rename_i e
         rw[if_neg e] at h;exact h
def TtI(W:World)(X:Array Value)(k1 k2:Nat)(a:Act)(M:Nat→Bool)(a':Act)(w':World):Prop:=
 ∃v:Nat→Value,a'=(((((((((((((((((((((((((((((((((((a.put (some 28) (v 0)).put (some 29) (v 1)).put (some 30) (v 2)).put (some 31) (v 3)).put (some 32) (v 4)).put (some 33) (v 5)).put (some 34) (v 6)).put (some 35) (v 7)).put (some 36) (v 8)).put (some 37) (v 9)).put (some 38) (v 10)).put (some 39) (v 11)).put (some 40) (v 12)).put (some 41) (v 13)).put (some 42) (v 14)).put (some 43) (v 15)).put (some 44) (v 16)).put (some 45) (v 17)).put (some 46) (v 18)).put (some 47) (v 19)).put (some 48) (v 20)).put (some 49) (v 21)).put (some 50) (v 22)).put (some 51) (v 23)).put (some 52) (v 24)).put (some 53) (v 25)).put (some 54) (v 26)).put (some 55) (v 27)).put (some 56) (v 28)).put (some 57) (v 29)).put (some 58) (v 30)).put (some 59) (v 31)).put (some 60) (v 32)).put (some 61) (v 33)).put (some 7) (v 34))∧Below W.heap.size W w'∧ ∀i,M i=true→TtS X k1 k2 i (v i) w'
def ttSlots:Array Nat:=#[28,29,30,31,32,33,34,35,36,37,38,39,40,41,42,43,44,45,46,47,48,49,50,51,52,53,54,55,56,57,58,59,60,61,7]
theorem TtI.start(W:World)(X:Array Value)(k1 k2:Nat)(a:Act):TtI W X k1 k2 a (fun _=>false) a W:=
 ⟨fun i=>a.tmps.getD (ttSlots.getD i 0) undef,by
   simp only[ttSlots,Array.getD_eq_getD_getElem?,List.getElem?_toArray,List.getElem?_cons_zero,List.getElem?_cons_succ,Option.getD_some];simp only[←Array.getD_eq_getD_getElem?,putQ_self],Below.refl _ _,fun i h=>by cases h⟩
def RtR(s:Sgt)(e:Ending):Prop:=(∃x,TextOf s x∧e=.returned (.tuple #[tx x,vi vk 0]))∨((¬ ∃x,TextOf s x)∧e=.returned (.tuple #[tx [],vi vk 20]))
theorem rtext22_any(s:Sgt)(w:World)(hv:siS s=true):Calls Tryz.prog 10 #[sgv s.body s.limb s.lo s.hi s.hs s.by_ s.hor s.eye s.shore s.temp s.press] w fun e w'=>RtR s e∧Below w.heap.size w w':=by
 have k:=si_ok hv;have KL:=hid (fun(W:World)=>rckText_any s.lo W k.lo);have KH:=hid (fun(W:World)=>rckText_any s.hi W k.hi);have a1:=k.hs;have a2:=k.by_;have KA:=hid (fun(W:World)=>rtext_any s.hs W om_);have KB:=hid (fun(W:World)=>rtext_any s.by_ W om_);have htl:=fun f l hf hl=>txt_len (s:=s) (f:=f) (l:=l) hv hf hl;have htx: ∀f l,IsInst s.lo f→IsInst s.hi l→TextOf s (SW.jn 32 (txtW s f l)):=fun f l hf hl=>⟨f,l,hf,hl,rfl⟩;have hn1:(¬ ∃f,IsInst s.lo f)→ ¬ ∃x,TextOf s x:=fun h ⟨x,f,l,hf,hl,_⟩=>h ⟨f,hf⟩;have hn2:(¬ ∃f,IsInst s.hi f)→ ¬ ∃x,TextOf s x:=fun h ⟨x,f,l,hf,hl,_⟩=>h ⟨l,hl⟩;have a3:=k.eye;have a4:=k.shore;have a5:=k.temp;have a6:=k.press;have a7:=k.limb;have a8:=k.hor;have K1:=hid (fun(W:World)=>dec_any s.eye W om_);have K2:=hid (fun(W:World)=>dec_any s.shore W om_);have K3:=hid (fun(W:World)=>dec_any s.temp W om_);have K4:=hid (fun(W:World)=>dec_any s.press W om_);have HX:Hid (∀x,TextOf s x→RtR s (.returned (.tuple #[tx x,vi vk 0]))):=hid fun x h1=>.inl ⟨x,h1,rfl⟩;have HT:Hid ((¬ ∃x,TextOf s x)→RtR s (.returned (.tuple #[tx [],vi vk 20]))):=hid fun h=>.inr ⟨h,rfl⟩;generalize RtR s=R at*;generalize hGT:(fun x=>TextOf s x)=GT;have hgt: ∀x,TextOf s x=GT x:=fun x=>by rw[←hGT]
 simp only[hgt] at*;unfold txtW at htl htx;obtain⟨body,limb,lo,hi,hs,by_,hor,eye,shore,temp,press⟩:=s;simp only[] at*;clear hGT hgt hv k;have HTL:=hid htl;have HTX:=hid htx;have HN1:=hid hn1;have HN2:=hid hn2;clear htl htx hn1 hn2;have B0:=hid (Blk.new w 25 #[tx body,vi vk limb,vi vk lo,vi vk hi,vi vk hs,vi vk by_,vi vk hor,vi vk eye,vi vk shore,vi vk temp,vi vk press]);have b0:=hid ((Below.refl w.heap.size w).alloc (Nat.le_refl _) (.cells #[tx body,vi vk limb,vi vk lo,vi vk hi,vi vk hs,vi vk by_,vi vk hor,vi vk eye,vi vk shore,vi vk temp,vi vk press] 25));go_enter func10,ntmps10;go_upto_region 1 with fail
 generalize (w.alloc (.cells #[tx body,vi vk limb,vi vk lo,vi vk hi,vi vk hs,vi vk by_,vi vk hor,vi vk eye,vi vk shore,vi vk temp,vi vk press] 25))=w1 at*;have yB: ∀i,w1.cell? ⟨w.heap.size,i,none⟩=(#[tx body,vi vk limb,vi vk lo,vi vk hi,vi vk hs,vi vk by_,vi vk hor,vi vk eye,vi vk shore,vi vk temp,vi vk press]:Array Value)[i]? :=fun i=>B0.out.cell i;go_wp2_with fail;(with_reducible refine(KL.out _).mono ?_)
 rintro e w3 ⟨hcl,hb⟩
 have B3:=hid (B0.out.below hb B0.out.lt);have b3:=hid (b0.out.trans (hb.mono b0.out.size));clear hb B0 b0 yB KL;rcases hcl with ⟨f,hf,rfl⟩|⟨hno,rfl⟩
 case inr=>
  have HNO:=hid (HN1.out hno);clear hno;go_wp2;go_ret2
  exact⟨HT.out HNO.out,b3.out⟩
 case inl=>
  have HF:=hid hf;clear hf;have yB: ∀i,w3.cell? ⟨w.heap.size,i,none⟩=(#[tx body,vi vk limb,vi vk lo,vi vk hi,vi vk hs,vi vk by_,vi vk hor,vi vk eye,vi vk shore,vi vk temp,vi vk press]:Array Value)[i]? :=fun i=>B3.out.cell i;go_wp2_with fail;(with_reducible refine(KH.out _).mono ?_)
  rintro e w4 ⟨hcl,hb⟩
  have B4:=hid (B3.out.below hb B3.out.lt);have b4:=hid (b3.out.trans (hb.mono b3.out.size));clear hb B3 b3 yB KH;rcases hcl with ⟨l,hl,rfl⟩|⟨hno,rfl⟩
  case inr=>
   have HNO:=hid (HN2.out hno);clear hno;go_wp2;go_ret2
   exact⟨HT.out HNO.out,b4.out⟩
  case inl=>
   have HL:=hid hl;clear hl;have KM:=hid rLimbs_any;have KZ:=hid rHorizons_any;have len:=HTL.out f l HF.out HL.out;have hjn:GT (SW.jn 32 [body,wordAt limbL limb,f,l,textL hs,textL by_,wordAt horL hor,Lib.itoa eye,Lib.itoa shore,Lib.itoa temp,Lib.itoa press]):=HTX.out f l HF.out HL.out;obtain⟨l1,hl1⟩: ∃l1,limb-1=l1:=⟨_,rfl⟩;obtain⟨h1,hh1⟩: ∃h1,hor-1=h1:=⟨_,rfl⟩;have iw1:IntKind.i64.wrap (limb-1)=l1:=by rw[IntWalk.i64_in _ om_,hl1]
   have iw2:IntKind.i64.wrap (hor-1)=h1:=by rw[IntWalk.i64_in _ om_,hh1]
   have vw1:wrap64 (limb-1)=l1:=by rw[IntWalk.wrap64_in _ om_,hl1]
   have vw2:wrap64 (hor-1)=h1:=by rw[IntWalk.wrap64_in _ om_,hh1]
   obtain⟨k1,hk1⟩: ∃k1,l1.toNat=k1:=⟨_,rfl⟩;obtain⟨k2,hk2⟩: ∃k2,h1.toNat=k2:=⟨_,rfl⟩;have ix1: ∀q W,(Instr.indexAt 61 (.slice (some ⟨q,0,none⟩) 3 3) (vi vk l1)).run Tryz.prog W=.ok (.pointer (some ⟨q,k1,none⟩)) W:=by
    have ha:limb=1∨limb=2∨limb=3:=by omega
    rw[←hk1,←hl1];rcases ha with rfl|rfl|rfl<;>intro q W<;>rfl
   have ix2: ∀q W,(Instr.indexAt 61 (.slice (some ⟨q,0,none⟩) 3 3) (vi vk h1)).run Tryz.prog W=.ok (.pointer (some ⟨q,k2,none⟩)) W:=by
    have ha:hor=1∨hor=2∨hor=3:=by omega
    rw[←hk2,←hh1];rcases ha with rfl|rfl|rfl<;>intro q W<;>rfl
   have hm1:(#[tx [99,101,110,116,101,114],tx [108,111,119,101,114],tx [117,112,112,101,114]]:Array Value)[k1]? =some (tx (wordAt limbL limb)):=by
    have ha:limb=1∨limb=2∨limb=3:=by omega
    rw[←hk1,←hl1];rcases ha with rfl|rfl|rfl<;>rfl
   have hm2:(#[tx [110,97,116,117,114,97,108],tx [97,114,116,105,102,105,99,105,97,108],tx [115,104,111,114,101]]:Array Value)[k2]? =some (tx (wordAt horL hor)):=by
    have ha:hor=1∨hor=2∨hor=3:=by omega
    rw[←hk2,←hh1];rcases ha with rfl|rfl|rfl<;>rfl
   have HM1:=hid hm1;have HM2:=hid hm2;clear hm1 hm2 hl1 hh1 hk1 hk2;generalize wordAt limbL limb=m1 at*;generalize wordAt horL hor=m2 at*;generalize textL hs=th at*;generalize textL by_=tb at*;generalize Lib.itoa eye=ie at*;generalize Lib.itoa shore=ih at*;generalize Lib.itoa temp=it at*;generalize Lib.itoa press=ip at*;have z0:=len body (by simp);have z1:=len m1 (by simp);have z2:=len f (by simp);have z3:=len l (by simp);have z4:=len th (by simp);have z5:=len tb (by simp);have z6:=len m2 (by simp);have z7:=len ie (by simp);have z8:=len ih (by simp);have z9:=len it (by simp);have zA:=len ip (by simp);obtain⟨P1,j1,g1,c1⟩:=cat_any body [32] 1000 om_ (by simp) om_;obtain⟨P2,j2,g2,c2⟩:=cat_any P1 m1 2000 om_ om_ om_;obtain⟨P3,j3,g3,c3⟩:=cat_any P2 [32] 3000 om_ (by simp) om_;obtain⟨P4,j4,g4,c4⟩:=cat_any P3 f 4000 om_ om_ om_;obtain⟨P5,j5,g5,c5⟩:=cat_any P4 [32] 5000 om_ (by simp) om_;obtain⟨P6,j6,g6,c6⟩:=cat_any P5 l 6000 om_ om_ om_;obtain⟨P7,j7,g7,c7⟩:=cat_any P6 [32] 7000 om_ (by simp) om_;obtain⟨P8,j8,g8,c8⟩:=cat_any P7 th 8000 om_ om_ om_;obtain⟨P9,j9,g9,c9⟩:=cat_any P8 [32] 9000 om_ (by simp) om_;obtain⟨P10,j10,g10,c10⟩:=cat_any P9 tb 10000 om_ om_ om_;obtain⟨P11,j11,g11,c11⟩:=cat_any P10 [32] 11000 om_ (by simp) om_;obtain⟨P12,j12,g12,c12⟩:=cat_any P11 m2 12000 om_ om_ om_;obtain⟨P13,j13,g13,c13⟩:=cat_any P12 [32] 13000 om_ (by simp) om_;obtain⟨P14,j14,g14,c14⟩:=cat_any P13 ie 14000 om_ om_ om_;obtain⟨P15,j15,g15,c15⟩:=cat_any P14 [32] 15000 om_ (by simp) om_;obtain⟨P16,j16,g16,c16⟩:=cat_any P15 ih 16000 om_ om_ om_;obtain⟨P17,j17,g17,c17⟩:=cat_any P16 [32] 17000 om_ (by simp) om_;obtain⟨P18,j18,g18,c18⟩:=cat_any P17 it 18000 om_ om_ om_;obtain⟨P19,j19,g19,c19⟩:=cat_any P18 [32] 19000 om_ (by simp) om_;obtain⟨P20,j20,g20,c20⟩:=cat_any P19 ip 20000 om_ om_ om_;have HJ:Hid (GT P20):=hid (by rw[←j20,←j19,←j18,←j17,←j16,←j15,←j14,←j13,←j12,←j11,←j10,←j9,←j8,←j7,←j6,←j5,←j4,←j3,←j2,←j1];simpa [SW.jn] using hjn);clear hjn len z0 z1 z2 z3 z4 z5 z6 z7 z8 z9 zA j1 g1 j2 g2 j3 g3 j4 g4 j5 g5 j6 g6 j7 g7 j8 g8 j9 g9 j10 g10 j11 g11 j12 g12 j13 g13 j14 g14 j15 g15 j16 g16 j17 g17 j18 g18 j19 g19 j20 g20 HTL HTX HN1 HN2 HT HF HL a1 a2 a3 a4 a5 a6 a7 a8;go_upto_region 7 with fail
   have B5:=hid B4.out.drew;have b5:=hid (bl_drew b4.out);obtain⟨W5,hW5⟩: ∃W5,w4.drew=W5:=⟨_,rfl⟩;rw[hW5] at B5 b5;have HW5:=hid hW5;clear hW5 B4 b4;obtain⟨G,hG⟩: ∃G,w.heap.size=G:=⟨_,rfl⟩;rw[hG] at B5⊢;have HG:=hid hG;clear hG;refine wp_region_inv3 (by kernel_rfl) (TtI W5 #[.pointer (some ⟨G,0,none⟩),tx body,tx P1,undef,.pointer (some ⟨G,1,none⟩),vi vk limb,vi vk l1,undef,tx m1,tx P2,tx P3,tx f,tx P4,tx P5,tx l,tx P6,tx P7,.pointer (some ⟨G,4,none⟩),vi vk hs,tx th,tx P8,tx P9,.pointer (some ⟨G,5,none⟩),vi vk by_,tx tb,tx P10,tx P11,undef,.pointer (some ⟨G,6,none⟩),vi vk hor,vi vk h1,undef,tx m2,tx P12,tx P12] k1 k2) (waits_bind (by kernel_rfl)) ?start ?step ?fin
   case start=>rw[HW5.out];exact TtI.start _ _ _ _ _
   case step=>
    rintro M i o a1' w' ho hL haf ⟨v,rfl,hB,hS⟩
    have HB:=hid hB;have HS:=hid hS;clear hB hS;rcases i with _|_|_|_|_|_|_|_|_|_|_|_|_|_|_|_|_|_|_|_|_|_|_|_|_|_|_|_|_|_|_|_|_|_|_|i
    all_goals (simp at ho;try subst ho)
    all_goals (try simp[Region.binds] at haf)
    · go_wp2
      exact⟨upd v 0 (.pointer (some ⟨G,0,none⟩)),by simp[upd,Act.put],HB.out,stepS HS.out (fun _ _ h=>h) (show _ from rfl)⟩
    · have e0:v 0=.pointer (some ⟨G,0,none⟩):=HS.out 0 (by simp[haf])
      have y:w'.cell? ⟨G,0,none⟩=(#[tx body,vi vk limb,vi vk lo,vi vk hi,vi vk hs,vi vk by_,vi vk hor,vi vk eye,vi vk shore,vi vk temp,vi vk press]:Array Value)[0]? :=(B5.out.below HB.out B5.out.lt).cell 0;go_wp2;exact⟨upd v 1 (tx body),by simp[upd,Act.put,e0],HB.out,stepS HS.out (fun _ _ h=>h) (show _ from rfl)⟩
    · have e1:v 1=tx body:=HS.out 1 (by simp[haf])
      go_wp2;exact⟨upd v 2 (tx P1),by simp[upd,Act.put,e1],HB.out,stepS HS.out (fun _ _ h=>h) (show _ from rfl)⟩
    · go_wp2_with fail
      (with_reducible refine(KM.out _).mono ?_)
      rintro e9 w9 ⟨rfl,rfl⟩
      have hb9:=bl_alloc w' (.cells #[tx [99,101,110,116,101,114],tx [108,111,119,101,114],tx [117,112,112,101,114]] 9);go_wp2;exact⟨upd v 3 (.slice (some ⟨w'.heap.size,0,none⟩) 3 3),by simp[upd,Act.put],(HB.out.trans (hb9.mono HB.out.size)),stepS HS.out (fun j y h=>TtS.keep hb9 j y h) ⟨_,rfl,Blk.new w' _ _⟩⟩
    · go_wp2
      exact⟨upd v 4 (.pointer (some ⟨G,1,none⟩)),by simp[upd,Act.put],HB.out,stepS HS.out (fun _ _ h=>h) (show _ from rfl)⟩
    · have e4:v 4=.pointer (some ⟨G,1,none⟩):=HS.out 4 (by simp[haf])
      have y:w'.cell? ⟨G,1,none⟩=(#[tx body,vi vk limb,vi vk lo,vi vk hi,vi vk hs,vi vk by_,vi vk hor,vi vk eye,vi vk shore,vi vk temp,vi vk press]:Array Value)[1]? :=(B5.out.below HB.out B5.out.lt).cell 1;go_wp2;exact⟨upd v 5 (vi vk limb),by simp[upd,Act.put,e4],HB.out,stepS HS.out (fun _ _ h=>h) (show _ from rfl)⟩
    · have e5:v 5=vi vk limb:=HS.out 5 (by simp[haf])
      go_wp2;exact⟨upd v 6 (vi vk l1),by simp[upd,Act.put,e5],HB.out,stepS HS.out (fun _ _ h=>h) (show _ from rfl)⟩
    · have e6:v 6=vi vk l1:=HS.out 6 (by simp[haf])
      obtain⟨q,e3,hq⟩: ∃q,v 3=.slice (some ⟨q,0,none⟩) 3 3∧Blk w' q 9 #[tx [99,101,110,116,101,114],tx [108,111,119,101,114],tx [117,112,112,101,114]]:=HS.out 3 (by simp[haf]);have HQ:=hid hq;clear hq;go_wp2;exact⟨upd v 7 (.pointer (some ⟨q,k1,none⟩)),by simp[upd,Act.put,e3,e6],HB.out,stepS HS.out (fun _ _ h=>h) ⟨q,rfl,HQ.out⟩⟩
    · obtain⟨q,e7,hq⟩: ∃q,v 7=.pointer (some ⟨q,k1,none⟩)∧Blk w' q 9 #[tx [99,101,110,116,101,114],tx [108,111,119,101,114],tx [117,112,112,101,114]]:=HS.out 7 (by simp[haf])
      have y:w'.cell? ⟨q,k1,none⟩=some (tx m1):=(hq.cell k1).trans HM1.out;clear hq;go_wp2;exact⟨upd v 8 (tx m1),by simp[upd,Act.put,e7],HB.out,stepS HS.out (fun _ _ h=>h) (show _ from rfl)⟩
    · have e2:v 2=tx P1:=HS.out 2 (by simp[haf])
      have e8:v 8=tx m1:=HS.out 8 (by simp[haf]);go_wp2;exact⟨upd v 9 (tx P2),by simp[upd,Act.put,e2,e8],HB.out,stepS HS.out (fun _ _ h=>h) (show _ from rfl)⟩
    · have e9:v 9=tx P2:=HS.out 9 (by simp[haf])
      go_wp2;exact⟨upd v 10 (tx P3),by simp[upd,Act.put,e9],HB.out,stepS HS.out (fun _ _ h=>h) (show _ from rfl)⟩
    · go_wp2
      exact⟨upd v 11 (tx f),by simp[upd,Act.put],HB.out,stepS HS.out (fun _ _ h=>h) (show _ from rfl)⟩
    · have e10:v 10=tx P3:=HS.out 10 (by simp[haf])
      have e11:v 11=tx f:=HS.out 11 (by simp[haf]);go_wp2;exact⟨upd v 12 (tx P4),by simp[upd,Act.put,e10,e11],HB.out,stepS HS.out (fun _ _ h=>h) (show _ from rfl)⟩
    · have e12:v 12=tx P4:=HS.out 12 (by simp[haf])
      go_wp2;exact⟨upd v 13 (tx P5),by simp[upd,Act.put,e12],HB.out,stepS HS.out (fun _ _ h=>h) (show _ from rfl)⟩
    · go_wp2
      exact⟨upd v 14 (tx l),by simp[upd,Act.put],HB.out,stepS HS.out (fun _ _ h=>h) (show _ from rfl)⟩
    · have e13:v 13=tx P5:=HS.out 13 (by simp[haf])
      have e14:v 14=tx l:=HS.out 14 (by simp[haf]);go_wp2;exact⟨upd v 15 (tx P6),by simp[upd,Act.put,e13,e14],HB.out,stepS HS.out (fun _ _ h=>h) (show _ from rfl)⟩
    · have e15:v 15=tx P6:=HS.out 15 (by simp[haf])
      go_wp2;exact⟨upd v 16 (tx P7),by simp[upd,Act.put,e15],HB.out,stepS HS.out (fun _ _ h=>h) (show _ from rfl)⟩
    · go_wp2
      exact⟨upd v 17 (.pointer (some ⟨G,4,none⟩)),by simp[upd,Act.put],HB.out,stepS HS.out (fun _ _ h=>h) (show _ from rfl)⟩
    · have e17:v 17=.pointer (some ⟨G,4,none⟩):=HS.out 17 (by simp[haf])
      have y:w'.cell? ⟨G,4,none⟩=(#[tx body,vi vk limb,vi vk lo,vi vk hi,vi vk hs,vi vk by_,vi vk hor,vi vk eye,vi vk shore,vi vk temp,vi vk press]:Array Value)[4]? :=(B5.out.below HB.out B5.out.lt).cell 4;go_wp2;exact⟨upd v 18 (vi vk hs),by simp[upd,Act.put,e17],HB.out,stepS HS.out (fun _ _ h=>h) (show _ from rfl)⟩
    · have e18:v 18=vi vk hs:=HS.out 18 (by simp[haf])
      go_wp2_with fail;(with_reducible refine(KA.out _).mono ?_)
      rintro e9 w9 ⟨rfl,hb9⟩
      go_wp2;exact⟨upd v 19 (tx th),by simp[upd,Act.put,e18],(HB.out.trans (hb9.mono HB.out.size)),stepS HS.out (fun j y h=>TtS.keep hb9 j y h) (show _ from rfl)⟩
    · have e16:v 16=tx P7:=HS.out 16 (by simp[haf])
      have e19:v 19=tx th:=HS.out 19 (by simp[haf]);go_wp2;exact⟨upd v 20 (tx P8),by simp[upd,Act.put,e16,e19],HB.out,stepS HS.out (fun _ _ h=>h) (show _ from rfl)⟩
    · have e20:v 20=tx P8:=HS.out 20 (by simp[haf])
      go_wp2;exact⟨upd v 21 (tx P9),by simp[upd,Act.put,e20],HB.out,stepS HS.out (fun _ _ h=>h) (show _ from rfl)⟩
    · go_wp2
      exact⟨upd v 22 (.pointer (some ⟨G,5,none⟩)),by simp[upd,Act.put],HB.out,stepS HS.out (fun _ _ h=>h) (show _ from rfl)⟩
    · have e22:v 22=.pointer (some ⟨G,5,none⟩):=HS.out 22 (by simp[haf])
      have y:w'.cell? ⟨G,5,none⟩=(#[tx body,vi vk limb,vi vk lo,vi vk hi,vi vk hs,vi vk by_,vi vk hor,vi vk eye,vi vk shore,vi vk temp,vi vk press]:Array Value)[5]? :=(B5.out.below HB.out B5.out.lt).cell 5;go_wp2;exact⟨upd v 23 (vi vk by_),by simp[upd,Act.put,e22],HB.out,stepS HS.out (fun _ _ h=>h) (show _ from rfl)⟩
    · have e23:v 23=vi vk by_:=HS.out 23 (by simp[haf])
      go_wp2_with fail;(with_reducible refine(KB.out _).mono ?_)
      rintro e9 w9 ⟨rfl,hb9⟩
      go_wp2;exact⟨upd v 24 (tx tb),by simp[upd,Act.put,e23],(HB.out.trans (hb9.mono HB.out.size)),stepS HS.out (fun j y h=>TtS.keep hb9 j y h) (show _ from rfl)⟩
    · have e21:v 21=tx P9:=HS.out 21 (by simp[haf])
      have e24:v 24=tx tb:=HS.out 24 (by simp[haf]);go_wp2;exact⟨upd v 25 (tx P10),by simp[upd,Act.put,e21,e24],HB.out,stepS HS.out (fun _ _ h=>h) (show _ from rfl)⟩
    · have e25:v 25=tx P10:=HS.out 25 (by simp[haf])
      go_wp2;exact⟨upd v 26 (tx P11),by simp[upd,Act.put,e25],HB.out,stepS HS.out (fun _ _ h=>h) (show _ from rfl)⟩
    · go_wp2_with fail
      (with_reducible refine(KZ.out _).mono ?_)
      rintro e9 w9 ⟨rfl,rfl⟩
      have hb9:=bl_alloc w' (.cells #[tx [110,97,116,117,114,97,108],tx [97,114,116,105,102,105,99,105,97,108],tx [115,104,111,114,101]] 9);go_wp2;exact⟨upd v 27 (.slice (some ⟨w'.heap.size,0,none⟩) 3 3),by simp[upd,Act.put],(HB.out.trans (hb9.mono HB.out.size)),stepS HS.out (fun j y h=>TtS.keep hb9 j y h) ⟨_,rfl,Blk.new w' _ _⟩⟩
    · go_wp2
      exact⟨upd v 28 (.pointer (some ⟨G,6,none⟩)),by simp[upd,Act.put],HB.out,stepS HS.out (fun _ _ h=>h) (show _ from rfl)⟩
    · have e28:v 28=.pointer (some ⟨G,6,none⟩):=HS.out 28 (by simp[haf])
      have y:w'.cell? ⟨G,6,none⟩=(#[tx body,vi vk limb,vi vk lo,vi vk hi,vi vk hs,vi vk by_,vi vk hor,vi vk eye,vi vk shore,vi vk temp,vi vk press]:Array Value)[6]? :=(B5.out.below HB.out B5.out.lt).cell 6;go_wp2;exact⟨upd v 29 (vi vk hor),by simp[upd,Act.put,e28],HB.out,stepS HS.out (fun _ _ h=>h) (show _ from rfl)⟩
    · have e29:v 29=vi vk hor:=HS.out 29 (by simp[haf])
      go_wp2;exact⟨upd v 30 (vi vk h1),by simp[upd,Act.put,e29],HB.out,stepS HS.out (fun _ _ h=>h) (show _ from rfl)⟩
    · have e30:v 30=vi vk h1:=HS.out 30 (by simp[haf])
      obtain⟨q,e27,hq⟩: ∃q,v 27=.slice (some ⟨q,0,none⟩) 3 3∧Blk w' q 9 #[tx [110,97,116,117,114,97,108],tx [97,114,116,105,102,105,99,105,97,108],tx [115,104,111,114,101]]:=HS.out 27 (by simp[haf]);have HQ:=hid hq;clear hq;go_wp2;exact⟨upd v 31 (.pointer (some ⟨q,k2,none⟩)),by simp[upd,Act.put,e27,e30],HB.out,stepS HS.out (fun _ _ h=>h) ⟨q,rfl,HQ.out⟩⟩
    · obtain⟨q,e31,hq⟩: ∃q,v 31=.pointer (some ⟨q,k2,none⟩)∧Blk w' q 9 #[tx [110,97,116,117,114,97,108],tx [97,114,116,105,102,105,99,105,97,108],tx [115,104,111,114,101]]:=HS.out 31 (by simp[haf])
      have y:w'.cell? ⟨q,k2,none⟩=some (tx m2):=(hq.cell k2).trans HM2.out;clear hq;go_wp2;exact⟨upd v 32 (tx m2),by simp[upd,Act.put,e31],HB.out,stepS HS.out (fun _ _ h=>h) (show _ from rfl)⟩
    · have e26:v 26=tx P11:=HS.out 26 (by simp[haf])
      have e32:v 32=tx m2:=HS.out 32 (by simp[haf]);go_wp2;exact⟨upd v 33 (tx P12),by simp[upd,Act.put,e26,e32],HB.out,stepS HS.out (fun _ _ h=>h) (show _ from rfl)⟩
    · have e33:v 33=tx P12:=HS.out 33 (by simp[haf])
      go_wp2;exact⟨upd v 34 (tx P12),by simp[upd,Act.put,e33],HB.out,stepS HS.out (fun _ _ h=>h) (show _ from rfl)⟩
   case fin=>
    rintro M a1' w' hall ⟨v,rfl,hB,hS⟩
    have e34:v 34=tx P12:=hS 34 (hall 34 (by simp));have b6:=hid (b5.out.trans (hB.mono b5.out.size));have B6:=hid (B5.out.below hB B5.out.lt);clear hB hS hall;simp only[Act.put,List.setIfInBounds_toArray,List.set_cons_zero,List.set_cons_succ];rw[e34];clear e34;go_upto_region 8 with fail
    have yB: ∀(s:BQ w') i,s.w.cell? ⟨G,i,none⟩=(#[tx body,vi vk limb,vi vk lo,vi vk hi,vi vk hs,vi vk by_,vi vk hor,vi vk eye,vi vk shore,vi vk temp,vi vk press]:Array Value)[i]? :=fun s i=>(B6.out.below s.hb B6.out.lt).cell i;refine wp_region_bq w' (by kernel_rfl) (by kernel_rfl) (Below.refl _ _) ?_;repeat (go_big_quiet_step (first|(go_at_call 35;first|with_reducible exact quiet_bq (K1.out _)|with_reducible exact quiet_bq (K2.out _)|with_reducible exact quiet_bq (K3.out _)|with_reducible exact quiet_bq (K4.out _))|fail))
    refine wpQuiet_nil ?_;intro w9 hb;have b9:=hid (b6.out.trans (hb.mono b6.out.size));clear hb yB;go_wp2;go_ret2
    exact⟨HX.out _ HJ.out,b9.out⟩
end
end Go.Proofs.YtbpnacacnncopaaGreatDoor
