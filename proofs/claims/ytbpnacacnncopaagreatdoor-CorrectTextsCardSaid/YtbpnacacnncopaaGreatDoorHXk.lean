/- correct.limbs, horizons, Text. -/
import Derived.Test.YtbpnacacnncopaaGreatDoorHTx
set_option linter.unusedSimpArgs false
set_option linter.unusedVariables false
set_option maxHeartbeats 4000000
set_option maxRecDepth 100000
open Go.RowKit
open Go.Lib (hid)
open Go.Proofs.Tryz
open Go.Value renaming int→vi
open Go.IntKind renaming i64→vk
namespace Go.Proofs.YtbpnacacnncopaaGreatDoor
section
open Go.Shelf Frm
open Lib (decDigits)
def txs(L:List Bs):List Value:=L.map tx
theorem txs_app(L M:List Bs):txs (L++M)=txs L++txs M:=by simp[txs]
theorem txs_one(L:List Bs): ∀u∈txs L,u.oneCell'=true:=by
 intro u hu;obtain⟨x,-,rfl⟩:=List.mem_map.1 hu;rfl
theorem reads_tx(w:World)(z:Bs)(t:TypeId):Reads (w.alloc (.cells #[tx z] t)) (w.alloc (.cells #[tx z] t)).heap.size 1 (some ⟨w.heap.size,0,none⟩) 1 (txs [z]):=by
 refine⟨rfl,fun _=>⟨_,rfl,by simp,fun j u hu=>?_⟩⟩;match j,hu with
 |0,hu=>simp[txs] at hu;subst hu;simp[Addr.add]
 |j+1,hu=>simp[txs] at hu
theorem own_bel{w w':World}{base:Nat}{e:TypeId}{size n:Nat}{v:Value}{xs:List Value}(h:w.ownsRow base e size v n xs)(hb:Below w.heap.size w w'):w'.ownsRow base e size v n xs:=by
 refine⟨h.1,?_⟩;rcases h.2 with ⟨rfl,rfl⟩|⟨g,cap,cur,rfl,hg,h1,h2,h3,h4,h5⟩
 · exact .inl ⟨rfl,rfl⟩
 · refine .inr ⟨g,cap,cur,rfl,hg,(hb.block g ?_).trans h1,h2,h3,h4,h5⟩
   rcases Nat.lt_or_ge g w.heap.size with q|q
   · exact q
   · rw[Array.getElem?_eq_none q] at h1;cases h1
theorem jn_len(x:UInt8): ∀L:List Bs,(∀z∈L,z.length≤1000)→(SW.jn x L).length≤L.length*1001
 | [],_=>by simp[SW.jn]
 | [a],h=>by have:=h a (by simp);simp[SW.jn];omega
 |a::b::r,h=>by
  have h1:=h a (by simp);have h2:=jn_len x (b::r) (fun z hz=>h z (by simp[hz]));rw[SW.jn_cons x a (by simp)];simp at h2⊢;omega
theorem infoS:(Tryz.prog.info? 9).map (fun i=>(i.zero,i.size,i.bytes))=some (some (.string ByteArray.empty),1,16):=by kernel_rfl
abbrev lmV:Value:=.agg #[tx [99,101,110,116,101,114],tx [108,111,119,101,114],tx [117,112,112,101,114]]
abbrev hzV:Value:=.agg #[tx [110,97,116,117,114,97,108],tx [97,114,116,105,102,105,99,105,97,108],tx [115,104,111,114,101]]
theorem limbs_any(w:World):Calls Tryz.prog 23 #[] w fun e w'=>e=.returned lmV∧Below w.heap.size w w':=by
 go_enter func23,ntmps23;go_wp2;refine bodyPost_ret (v:=lmV) (by simp[results,results23,go_sem, *];done) rfl ⟨rfl,?_⟩;exact bl_
theorem horizons_any(w:World):Calls Tryz.prog 24 #[] w fun e w'=>e=.returned hzV∧Below w.heap.size w w':=by
 go_enter func24,ntmps24;go_wp2;refine bodyPost_ret (v:=hzV) (by simp[results,results24,go_sem, *];done) rfl ⟨rfl,?_⟩;exact bl_
def CxR(s:Sgt)(e:Ending):Prop:=(siS s=false∧e=.returned (.tuple #[tx [],vi vk 1]))∨(siS s=true∧ ∃x,TextOf s x∧x.length≤20000∧e=.returned (.tuple #[tx x,vi vk 0]))∨(siS s=true∧(¬ ∃x,TextOf s x)∧e=.returned (.tuple #[tx [],vi vk 20]))
theorem name_len{s:Bs}(h:naB s=true):s.length≤20:=by
 unfold naB at h;simp only[Bool.and_eq_true,decide_eq_true_eq] at h;exact h.1.1
theorem limb_len{k:Int}(h1:1≤k)(h2:k≤3):(wordAt limbL k).length≤6:=by
 have ha:k=1∨k=2∨k=3:=by omega
 rcases ha with rfl|rfl|rfl<;>decide
theorem hor_len{k:Int}(h1:1≤k)(h2:k≤3):(wordAt horL k).length≤10:=by
 have ha:k=1∨k=2∨k=3:=by omega
 rcases ha with rfl|rfl|rfl<;>decide
theorem txt_len{s:Sgt}{f l:Bs}(hv:siS s=true)(hf:IsInst s.lo f)(hl:IsInst s.hi l): ∀z∈txtW s f l,z.length≤1000:=by
 have k:=si_ok hv;have a1:=k.hs;have a2:=k.by_;have a3:=k.eye;have a4:=k.shore;have a5:=k.temp;have a6:=k.press;intro z hz;simp only[txtW,List.mem_cons,List.not_mem_nil,or_false] at hz;rcases hz with rfl|rfl|rfl|rfl|rfl|rfl|rfl|rfl|rfl|rfl|rfl
 · have:=name_len k.na;omega
 · have:=limb_len k.limb.1 k.limb.2;omega
 · have:=inst_len hf;omega
 · have:=inst_len hl;omega
 · have:=text_len (n:=s.hs) om_;omega
 · have:=text_len (n:=s.by_) om_;omega
 · have:=hor_len k.hor.1 k.hor.2;omega
 · have:=itoa_short (n:=s.eye) om_;omega
 · have:=itoa_short (n:=s.shore) om_;omega
 · have:=itoa_short (n:=s.temp) om_;omega
 · have:=itoa_short (n:=s.press) om_;omega
theorem ctext_any(s:Sgt)(w:World)(hlb:s.body.length≤100000)(he:En w):
 Calls Tryz.prog 8 #[sgv s.body s.limb s.lo s.hi s.hs s.by_ s.hor s.eye s.shore s.temp s.press] w fun e w'=>CxR s e∧Below w.heap.size w w':=by
 have KV:=hid (fun W=>correctV_any s.body s.limb s.lo s.hi s.hs s.by_ s.hor s.eye s.shore s.temp s.press W hlb);have hsi:siB s.body s.limb s.lo s.hi s.hs s.by_ s.hor s.eye s.shore s.temp s.press=siS s:=rfl;rw[hsi] at KV;cases hv:siS s with
 |false=>
  rw[hv] at KV;have HP:Hid (CxR s (.returned (.tuple #[tx [],vi vk 1]))):=hid (.inl ⟨hv,rfl⟩);generalize CxR s=R at*;clear hv hsi;obtain⟨body,limb,lo,hi,hs,by_,hor,eye,shore,temp,press⟩:=s;simp only[] at KV;have B0:=hid (Blk.new w 25 #[tx body,vi vk limb,vi vk lo,vi vk hi,vi vk hs,vi vk by_,vi vk hor,vi vk eye,vi vk shore,vi vk temp,vi vk press]);have b0:=hid ((Below.refl w.heap.size w).alloc (Nat.le_refl _) (.cells #[tx body,vi vk limb,vi vk lo,vi vk hi,vi vk hs,vi vk by_,vi vk hor,vi vk eye,vi vk shore,vi vk temp,vi vk press] 25));go_enter func8,ntmps8;go_upto_region 1 with fail
  generalize (w.alloc (.cells #[tx body,vi vk limb,vi vk lo,vi vk hi,vi vk hs,vi vk by_,vi vk hor,vi vk eye,vi vk shore,vi vk temp,vi vk press] 25))=w1 at*;have yB: ∀i,w1.cell? ⟨w.heap.size,i,none⟩=(#[tx body,vi vk limb,vi vk lo,vi vk hi,vi vk hs,vi vk by_,vi vk hor,vi vk eye,vi vk shore,vi vk temp,vi vk press]:Array Value)[i]? :=fun i=>B0.out.cell i;go_wp2_with fail;(with_reducible refine(KV.out _).mono ?_)
  rintro e w2 ⟨rfl,hb⟩
  have B2:=hid (B0.out.below hb B0.out.lt);have b2:=hid (b0.out.trans (hb.mono b0.out.size));clear hb B0 b0 yB;go_wp2;go_ret2
  exact⟨HP.out,b2.out⟩
 |true=>
  rw[hv] at KV;have k:=si_ok hv;have KL:=hid (fun(W:World) (h:En W)=>ckText_any s.lo W k.lo h);have KH:=hid (fun(W:World) (h:En W)=>ckText_any s.hi W k.hi h);have a1:=k.hs;have a2:=k.by_;have KA:=hid (fun(W:World) (h:En W)=>aText_any s.hs W om_ h.tab);have KB:=hid (fun(W:World) (h:En W)=>aText_any s.by_ W om_ h.tab);have htl:=fun f l hf hl=>txt_len (s:=s) (f:=f) (l:=l) hv hf hl;have htx: ∀f l,IsInst s.lo f→IsInst s.hi l→TextOf s (SW.jn 32 (txtW s f l)):=fun f l hf hl=>⟨f,l,hf,hl,rfl⟩;have hn1:(¬ ∃f,IsInst s.lo f)→ ¬ ∃x,TextOf s x:=fun h ⟨x,f,l,hf,hl,_⟩=>h ⟨f,hf⟩;have hn2:(¬ ∃f,IsInst s.hi f)→ ¬ ∃x,TextOf s x:=fun h ⟨x,f,l,hf,hl,_⟩=>h ⟨l,hl⟩;have a3:=k.eye;have a4:=k.shore;have a5:=k.temp;have a6:=k.press;have a7:=k.limb;have a8:=k.hor;have HX:Hid (∀x,TextOf s x→x.length≤20000→CxR s (.returned (.tuple #[tx x,vi vk 0]))):=hid fun x h1 h2=>.inr (.inl ⟨hv,x,h1,h2,rfl⟩);have HT:Hid ((¬ ∃x,TextOf s x)→CxR s (.returned (.tuple #[tx [],vi vk 20]))):=hid fun h=>.inr (.inr ⟨hv,h,rfl⟩);generalize CxR s=R at*;generalize hGT:(fun x=>TextOf s x)=GT;have hgt: ∀x,TextOf s x=GT x:=fun x=>by rw[←hGT]
  simp only[hgt] at*;unfold txtW at htl htx;obtain⟨body,limb,lo,hi,hs,by_,hor,eye,shore,temp,press⟩:=s;simp only[] at*;clear hGT hgt hv k hsi;have HTL:=hid htl;have HTX:=hid htx;have HN1:=hid hn1;have HN2:=hid hn2;clear htl htx hn1 hn2;have HE:=hid he;clear he;have E0:=HE;clear HE;have B0:=hid (Blk.new w 25 #[tx body,vi vk limb,vi vk lo,vi vk hi,vi vk hs,vi vk by_,vi vk hor,vi vk eye,vi vk shore,vi vk temp,vi vk press]);have E0:=hid ((E0.out).bl (bl_alloc w (.cells #[tx body,vi vk limb,vi vk lo,vi vk hi,vi vk hs,vi vk by_,vi vk hor,vi vk eye,vi vk shore,vi vk temp,vi vk press] 25)));have b0:=hid ((Below.refl w.heap.size w).alloc (Nat.le_refl _) (.cells #[tx body,vi vk limb,vi vk lo,vi vk hi,vi vk hs,vi vk by_,vi vk hor,vi vk eye,vi vk shore,vi vk temp,vi vk press] 25));go_enter func8,ntmps8;go_upto_region 1 with fail
  generalize (w.alloc (.cells #[tx body,vi vk limb,vi vk lo,vi vk hi,vi vk hs,vi vk by_,vi vk hor,vi vk eye,vi vk shore,vi vk temp,vi vk press] 25))=w1 at*;have yB: ∀i,w1.cell? ⟨w.heap.size,i,none⟩=(#[tx body,vi vk limb,vi vk lo,vi vk hi,vi vk hs,vi vk by_,vi vk hor,vi vk eye,vi vk shore,vi vk temp,vi vk press]:Array Value)[i]? :=fun i=>B0.out.cell i;go_wp2_with fail;(with_reducible refine(KV.out _).mono ?_)
  rintro e w2 ⟨rfl,hb⟩
  have B2:=hid (B0.out.below hb B0.out.lt);have E2:=hid (E0.out.bl hb);have b2:=hid (b0.out.trans (hb.mono b0.out.size));clear hb B0 E0 b0 yB;have yB: ∀i,w2.cell? ⟨w.heap.size,i,none⟩=(#[tx body,vi vk limb,vi vk lo,vi vk hi,vi vk hs,vi vk by_,vi vk hor,vi vk eye,vi vk shore,vi vk temp,vi vk press]:Array Value)[i]? :=fun i=>B2.out.cell i;go_wp2_with fail;(with_reducible refine(KL.out _ E2.out).mono ?_)
  rintro e w3 ⟨hcl,hb⟩
  have B3:=hid (B2.out.below hb B2.out.lt);have E3:=hid (E2.out.bl hb);have b3:=hid (b2.out.trans (hb.mono b2.out.size));clear hb B2 E2 b2 yB KL;rcases hcl with ⟨f,hf,rfl⟩|⟨hno,rfl⟩
  · have HF:=hid hf
    clear hf;have yB: ∀i,w3.cell? ⟨w.heap.size,i,none⟩=(#[tx body,vi vk limb,vi vk lo,vi vk hi,vi vk hs,vi vk by_,vi vk hor,vi vk eye,vi vk shore,vi vk temp,vi vk press]:Array Value)[i]? :=fun i=>B3.out.cell i;go_wp2_with fail;(with_reducible refine(KH.out _ E3.out).mono ?_)
    rintro e w4 ⟨hcl,hb⟩
    have B4:=hid (B3.out.below hb B3.out.lt);have E4:=hid (E3.out.bl hb);have b4:=hid (b3.out.trans (hb.mono b3.out.size));clear hb B3 E3 b3 yB KH;rcases hcl with ⟨l,hl,rfl⟩|⟨hno,rfl⟩
    case inr=>
     have HNO:=hid (HN2.out hno);clear hno;go_wp2;go_ret2
     exact⟨HT.out HNO.out,b4.out⟩
    case inl=>
     have HL:=hid hl;clear hl;have yB: ∀i,w4.cell? ⟨w.heap.size,i,none⟩=(#[tx body,vi vk limb,vi vk lo,vi vk hi,vi vk hs,vi vk by_,vi vk hor,vi vk eye,vi vk shore,vi vk temp,vi vk press]:Array Value)[i]? :=fun i=>B4.out.cell i;go_wp2_with fail;(with_reducible refine(KA.out _ E4.out).mono ?_)
     rintro e w5 ⟨rfl,hb⟩
     have B5:=hid (B4.out.below hb B4.out.lt);have E5:=hid (E4.out.bl hb);have b5:=hid (b4.out.trans (hb.mono b4.out.size));clear hb B4 E4 b4 yB KA;have yB: ∀i,w5.cell? ⟨w.heap.size,i,none⟩=(#[tx body,vi vk limb,vi vk lo,vi vk hi,vi vk hs,vi vk by_,vi vk hor,vi vk eye,vi vk shore,vi vk temp,vi vk press]:Array Value)[i]? :=fun i=>B5.out.cell i;go_wp2_with fail;(with_reducible refine(KB.out _ E5.out).mono ?_)
     rintro e w6 ⟨rfl,hb⟩
     have B6:=hid (B5.out.below hb B5.out.lt);have E6:=hid (E5.out.bl hb);have b6:=hid (b5.out.trans (hb.mono b5.out.size));clear hb B5 E5 b5 yB KB;go_upto_region 11 with fail
     have KM:=hid limbs_any;have KZ:=hid horizons_any;obtain⟨l1,hl1⟩: ∃l1,limb-1=l1:=⟨_,rfl⟩;obtain⟨h1,hh1⟩: ∃h1,hor-1=h1:=⟨_,rfl⟩;have iw1:IntKind.i64.wrap (limb-1)=l1:=by rw[IntWalk.i64_in _ om_,hl1]
     have iw2:IntKind.i64.wrap (hor-1)=h1:=by rw[IntWalk.i64_in _ om_,hh1]
     have ix1: ∀W,(Instr.index 59 lmV (vi vk l1)).run Tryz.prog W=.ok (tx (wordAt limbL limb)) W:=by
      have ha:limb=1∨limb=2∨limb=3:=by omega
      rw[←hl1];rcases ha with rfl|rfl|rfl<;>intro W<;>kernel_rfl
     have ix2: ∀W,(Instr.index 59 hzV (vi vk h1)).run Tryz.prog W=.ok (tx (wordAt horL hor)) W:=by
      have ha:hor=1∨hor=2∨hor=3:=by omega
      rw[←hh1];rcases ha with rfl|rfl|rfl<;>intro W<;>kernel_rfl
     have HI1:=hid hl1;have HI2:=hid hh1;clear hl1 hh1;generalize wordAt limbL limb=m1 at*;generalize wordAt horL hor=m2 at*;generalize textL hs=th at*;generalize textL by_=tb at*;have yB: ∀(s:BQ w6) i,s.w.cell? ⟨w.heap.size,i,none⟩=(#[tx body,vi vk limb,vi vk lo,vi vk hi,vi vk hs,vi vk by_,vi vk hor,vi vk eye,vi vk shore,vi vk temp,vi vk press]:Array Value)[i]? :=fun s i=>(B6.out.below s.hb B6.out.lt).cell i;refine wp_region_bqt 16 w6 (by kernel_rfl) (by kernel_rfl) (by kernel_rfl) (by kernel_rfl) (Below.refl _ _) ?_;simp only[List.take_succ_cons,List.take_zero,List.drop_succ_cons,List.drop_zero];repeat (go_big_quiet_step (first|(go_at_call 23;exact quiet_bq (KM.out _))|(go_at_call 24;exact quiet_bq (KZ.out _))|fail))
     refine wpQuiet_nil ?_;intro w7 hb;have B7:=hid (B6.out.below hb B6.out.lt);have E7:=hid (E6.out.bl hb);have b7:=hid (b6.out.trans (hb.mono b6.out.size));clear hb B6 E6 b6 yB;have HSZ:=hid (show w.heap.size≤w7.heap.size from b7.out.size);have B8:=hid (B7.out.alloc (.cells #[tx body,tx m1,tx f,tx l,tx th,tx tb,tx m2] 9));have W8:=hid (Blk.new w7 9 #[tx body,tx m1,tx f,tx l,tx th,tx tb,tx m2]);have E8:=hid (E7.out.bl (bl_alloc w7 (.cells #[tx body,tx m1,tx f,tx l,tx th,tx tb,tx m2] 9)));have b8:=hid (b7.out.trans ((bl_alloc w7 (.cells #[tx body,tx m1,tx f,tx l,tx th,tx tb,tx m2] 9)).mono b7.out.size));clear B7 E7 b7;go_upto_region 12 with fail
     generalize w7.alloc (.cells #[tx body,tx m1,tx f,tx l,tx th,tx tb,tx m2] 9)=w9 at*;have yB: ∀i,w9.cell? ⟨w.heap.size,i,none⟩=(#[tx body,vi vk limb,vi vk lo,vi vk hi,vi vk hs,vi vk by_,vi vk hor,vi vk eye,vi vk shore,vi vk temp,vi vk press]:Array Value)[i]? :=fun i=>B8.out.cell i;have HWI:=hid W8.out.lt;have B10:=hid (B8.out.alloc (.cells #[vi vk eye,vi vk shore,vi vk temp,vi vk press] 3));have W10:=hid (W8.out.alloc (.cells #[vi vk eye,vi vk shore,vi vk temp,vi vk press] 3));have I10:=hid (Blk.new w9 3 #[vi vk eye,vi vk shore,vi vk temp,vi vk press]);have E10:=hid (E8.out.bl (bl_alloc w9 (.cells #[vi vk eye,vi vk shore,vi vk temp,vi vk press] 3)));have b10:=hid (b8.out.trans ((bl_alloc w9 (.cells #[vi vk eye,vi vk shore,vi vk temp,vi vk press] 3)).mono b8.out.size));clear B8 W8 E8 b8;go_upto_region 13 with fail
     generalize w9.alloc (.cells #[vi vk eye,vi vk shore,vi vk temp,vi vk press] 3)=w11 at*;have HO:=hid (show w11.ownsRow w.heap.size 9 1 (.slice (some ⟨w7.heap.size,0,none⟩) 7 7) 7 (txs [body,m1,f,l,th,tb,m2]) from by
      have h1:=W10.out;have h2:=W10.out.lt;exact⟨rfl,.inr ⟨w7.heap.size,7,#[tx body,tx m1,tx f,tx l,tx th,tx tb,tx m2],rfl,HSZ.out,h1,Nat.le_refl _,by simp[maxLen],rfl,rfl⟩⟩)
     obtain⟨i0,hi0,hz0,hz1,hzb⟩:=info_parts infoS;have KI:=hid (fun(n:Int) (W:World) (h0: -100000000≤n) (h1:n≤100000000) (h:En W)=>itoa_any n W om_ om_ h.tab);have hIT:=fun(L:List Bs) (hL:L=[Lib.itoa eye,Lib.itoa shore,Lib.itoa temp,Lib.itoa press])=>hL;obtain⟨bb,hbb⟩: ∃bb,w11.heap.size=bb:=⟨_,rfl⟩;clear hbb bb hIT;have I0:=I10;have EE:=E10;have BB:=b10;clear W10 B10 I10 E10 b10;go_loopg [10,81] 4 (fun gz s10 s81 wr=> ∃k:Nat,k≤4∧4-k≤gz∧s81=vi vk (k:Int)∧wr.ownsRow w.heap.size 9 1 s10 (7+k) (txs ([body,m1,f,l,th,tb,m2]++[Lib.itoa eye,Lib.itoa shore,Lib.itoa temp,Lib.itoa press].take k))∧(∀q,s10.ownBlock=some q→q≠w9.heap.size)∧Blk wr w9.heap.size 3 #[vi vk eye,vi vk shore,vi vk temp,vi vk press]∧Below w.heap.size w wr)
     case atStart=>exact⟨0,om_,om_,rfl,by simpa using HO.out,fun q hq=>by simp[Value.ownBlock] at hq;have:=HWI.out;omega,I0.out,BB.out⟩
     case round=>
      obtain⟨k,hk,hg,rfl,hO,hQ,hI,hB⟩:=hrel;have OO:=hid hO;have QQ:=hid hQ;have II:=hid hI;have E1:=hid (E0.out.bl hB);have B1:=hid hB;clear HO I0 EE BB hO hI hQ hB;have hcase:k=0∨k=1∨k=2∨k=3∨k=4:=by omega
      rcases hcase with rfl|rfl|rfl|rfl|rfl
      · skip
        have y0:wr.cell? ⟨w9.heap.size,0,none⟩=some (vi vk eye):=II.out.cell 0;have K:=hid (KI.out eye wr om_ om_ E1.out);clear KI;go_wp2_with fail;(with_reducible refine(K.out).mono ?_)
        rintro e v1 ⟨rfl,hb⟩
        have O2:=hid (own_bel (own_bel OO.out hb) (bl_alloc v1 (.cells #[tx (Lib.itoa eye)] 9)));have I2:=hid ((II.out.below hb II.out.lt).alloc (.cells #[tx (Lib.itoa eye)] 9));have E2:=hid ((E1.out.bl hb).bl (bl_alloc v1 (.cells #[tx (Lib.itoa eye)] 9)));have B2:=hid ((B1.out.trans (hb.mono B1.out.size)).trans ((bl_alloc v1 (.cells #[tx (Lib.itoa eye)] 9)).mono (Nat.le_trans B1.out.size hb.size)));have R2:=hid (reads_tx v1 (Lib.itoa eye) 9);clear hb OO II E1 B1 K y0;go_wp2_with (at_builtin;(refine wpList_append_any _ rfl (.tmp 85) (.tmp 88) _ rfl w.heap.size 9 i0 _ 1 16 underlying61 hi0 hz0 hz1 hzb rfl dc_ _ 7 _ rfl O2.out (v1.alloc (.cells #[tx (Lib.itoa eye)] 9)).heap.size _ 1 1 (txs [Lib.itoa eye]) rfl R2.out (txs_one _) (by simp only[maxLen];omega) om_ (by have:=B2.out.size;omega) ?_);intro v2 w2 hO hg2 hat);go_roundg (gk-1)
        case measure=>omega
        case rel=>
         have hb9:=B2.out.grown hg2 B2.out.size (fun q hq=>own_base O2.out q hq);refine⟨1,om_,om_,by go_num,hO,fun q hq=>?_,(hg2.block _ I2.out.lt (fun e=>?_)).trans I2.out,hb9⟩
         · rcases hat with h|h
           · exact QQ.out q (h.symm.trans hq)
           · have h5:=I2.out.lt
             rw[h] at hq;injection hq with hq
             omega
         · exact QQ.out _ e.symm rfl
      · skip
        have y1:wr.cell? ⟨w9.heap.size,1,none⟩=some (vi vk shore):=II.out.cell 1;have K:=hid (KI.out shore wr om_ om_ E1.out);clear KI;go_wp2_with fail;(with_reducible refine(K.out).mono ?_)
        rintro e v1 ⟨rfl,hb⟩
        have O2:=hid (own_bel (own_bel OO.out hb) (bl_alloc v1 (.cells #[tx (Lib.itoa shore)] 9)));have I2:=hid ((II.out.below hb II.out.lt).alloc (.cells #[tx (Lib.itoa shore)] 9));have E2:=hid ((E1.out.bl hb).bl (bl_alloc v1 (.cells #[tx (Lib.itoa shore)] 9)));have B2:=hid ((B1.out.trans (hb.mono B1.out.size)).trans ((bl_alloc v1 (.cells #[tx (Lib.itoa shore)] 9)).mono (Nat.le_trans B1.out.size hb.size)));have R2:=hid (reads_tx v1 (Lib.itoa shore) 9);clear hb OO II E1 B1 K y1;go_wp2_with (at_builtin;(refine wpList_append_any _ rfl (.tmp 85) (.tmp 88) _ rfl w.heap.size 9 i0 _ 1 16 underlying61 hi0 hz0 hz1 hzb rfl dc_ _ 8 _ rfl O2.out (v1.alloc (.cells #[tx (Lib.itoa shore)] 9)).heap.size _ 1 1 (txs [Lib.itoa shore]) rfl R2.out (txs_one _) (by simp only[maxLen];omega) om_ (by have:=B2.out.size;omega) ?_);intro v2 w2 hO hg2 hat);go_roundg (gk-1)
        case measure=>omega
        case rel=>
         have hb9:=B2.out.grown hg2 B2.out.size (fun q hq=>own_base O2.out q hq);refine⟨2,om_,om_,by go_num,hO,fun q hq=>?_,(hg2.block _ I2.out.lt (fun e=>?_)).trans I2.out,hb9⟩
         · rcases hat with h|h
           · exact QQ.out q (h.symm.trans hq)
           · have h5:=I2.out.lt
             rw[h] at hq;injection hq with hq
             omega
         · exact QQ.out _ e.symm rfl
      · skip
        have y2:wr.cell? ⟨w9.heap.size,2,none⟩=some (vi vk temp):=II.out.cell 2;have K:=hid (KI.out temp wr om_ om_ E1.out);clear KI;go_wp2_with fail;(with_reducible refine(K.out).mono ?_)
        rintro e v1 ⟨rfl,hb⟩
        have O2:=hid (own_bel (own_bel OO.out hb) (bl_alloc v1 (.cells #[tx (Lib.itoa temp)] 9)));have I2:=hid ((II.out.below hb II.out.lt).alloc (.cells #[tx (Lib.itoa temp)] 9));have E2:=hid ((E1.out.bl hb).bl (bl_alloc v1 (.cells #[tx (Lib.itoa temp)] 9)));have B2:=hid ((B1.out.trans (hb.mono B1.out.size)).trans ((bl_alloc v1 (.cells #[tx (Lib.itoa temp)] 9)).mono (Nat.le_trans B1.out.size hb.size)));have R2:=hid (reads_tx v1 (Lib.itoa temp) 9);clear hb OO II E1 B1 K y2;go_wp2_with (at_builtin;(refine wpList_append_any _ rfl (.tmp 85) (.tmp 88) _ rfl w.heap.size 9 i0 _ 1 16 underlying61 hi0 hz0 hz1 hzb rfl dc_ _ 9 _ rfl O2.out (v1.alloc (.cells #[tx (Lib.itoa temp)] 9)).heap.size _ 1 1 (txs [Lib.itoa temp]) rfl R2.out (txs_one _) (by simp only[maxLen];omega) om_ (by have:=B2.out.size;omega) ?_);intro v2 w2 hO hg2 hat);go_roundg (gk-1)
        case measure=>omega
        case rel=>
         have hb9:=B2.out.grown hg2 B2.out.size (fun q hq=>own_base O2.out q hq);refine⟨3,om_,om_,by go_num,hO,fun q hq=>?_,(hg2.block _ I2.out.lt (fun e=>?_)).trans I2.out,hb9⟩
         · rcases hat with h|h
           · exact QQ.out q (h.symm.trans hq)
           · have h5:=I2.out.lt
             rw[h] at hq;injection hq with hq
             omega
         · exact QQ.out _ e.symm rfl
      · skip
        have y3:wr.cell? ⟨w9.heap.size,3,none⟩=some (vi vk press):=II.out.cell 3;have K:=hid (KI.out press wr om_ om_ E1.out);clear KI;go_wp2_with fail;(with_reducible refine(K.out).mono ?_)
        rintro e v1 ⟨rfl,hb⟩
        have O2:=hid (own_bel (own_bel OO.out hb) (bl_alloc v1 (.cells #[tx (Lib.itoa press)] 9)));have I2:=hid ((II.out.below hb II.out.lt).alloc (.cells #[tx (Lib.itoa press)] 9));have E2:=hid ((E1.out.bl hb).bl (bl_alloc v1 (.cells #[tx (Lib.itoa press)] 9)));have B2:=hid ((B1.out.trans (hb.mono B1.out.size)).trans ((bl_alloc v1 (.cells #[tx (Lib.itoa press)] 9)).mono (Nat.le_trans B1.out.size hb.size)));have R2:=hid (reads_tx v1 (Lib.itoa press) 9);clear hb OO II E1 B1 K y3;go_wp2_with (at_builtin;(refine wpList_append_any _ rfl (.tmp 85) (.tmp 88) _ rfl w.heap.size 9 i0 _ 1 16 underlying61 hi0 hz0 hz1 hzb rfl dc_ _ 10 _ rfl O2.out (v1.alloc (.cells #[tx (Lib.itoa press)] 9)).heap.size _ 1 1 (txs [Lib.itoa press]) rfl R2.out (txs_one _) (by simp only[maxLen];omega) om_ (by have:=B2.out.size;omega) ?_);intro v2 w2 hO hg2 hat);go_roundg (gk-1)
        case measure=>omega
        case rel=>
         have hb9:=B2.out.grown hg2 B2.out.size (fun q hq=>own_base O2.out q hq);refine⟨4,om_,om_,by go_num,hO,fun q hq=>?_,(hg2.block _ I2.out.lt (fun e=>?_)).trans I2.out,hb9⟩
         · rcases hat with h|h
           · exact QQ.out q (h.symm.trans hq)
           · have h5:=I2.out.lt
             rw[h] at hq;injection hq with hq
             omega
         · exact QQ.out _ e.symm rfl
      · skip
        clear QQ II KI;obtain⟨A9,c9,hv9,-,hnc,-⟩:=own_form OO.out;obtain⟨g4,cap,rfl,hle0,hlt⟩:=OO.out.form om_;have hle:11≤cap:=by injection hv9 with _ _ h9;omega
        have hadd: ∀j:Nat,((⟨g4,0,none⟩:Addr).add j)=⟨g4,0+j,none⟩:=fun j=>by unfold Addr.add;split<;>simp_all
        have hL:=HTL.out f l HF.out HL.out;have hJ:=jn_len 32 [body,m1,f,l,th,tb,m2,Lib.itoa eye,Lib.itoa shore,Lib.itoa temp,Lib.itoa press] hL;have hJ2:(SW.jn 32 [body,m1,f,l,th,tb,m2,Lib.itoa eye,Lib.itoa shore,Lib.itoa temp,Lib.itoa press]).length≤11*1001:=hJ;have KJ:=hid (show Calls Tryz.prog 26 #[.slice (some ⟨g4,0,none⟩) 11 cap,.string ⟨#[32]⟩] wr _ from join_any g4 0 cap [body,m1,f,l,th,tb,m2,Lib.itoa eye,Lib.itoa shore,Lib.itoa temp,Lib.itoa press] 32 wr hlt (fun j z hz=>by
         rw[←hadd];refine OO.out.cells (g:=g4) rfl j (tx z) ?_;show(([body,m1,f,l,th,tb,m2,Lib.itoa eye,Lib.itoa shore,Lib.itoa temp,Lib.itoa press]:List Bs).map tx)[j]? =_
         rw[List.getElem?_map,hz];rfl) (by simp) hle om_)
        have hfin:=HX.out _ (HTX.out f l HF.out HL.out) om_;generalize SW.jn 32 [body,m1,f,l,th,tb,m2,Lib.itoa eye,Lib.itoa shore,Lib.itoa temp,Lib.itoa press]=T at*;have HFN:=hid hfin;clear hadd hL hJ hJ2 hle hle0 hv9 hnc hlt OO hfin;go_wp2_with fail;(refine(KJ.out).mono ?_)
        rintro e v1 ⟨rfl,hb⟩
        go_wp2;go_ret2
        exact⟨HFN.out,B1.out.trans (hb.mono B1.out.size)⟩
  · have HNO:=hid (HN1.out hno)
    clear hno;have yB: ∀i,w3.cell? ⟨w.heap.size,i,none⟩=(#[tx body,vi vk limb,vi vk lo,vi vk hi,vi vk hs,vi vk by_,vi vk hor,vi vk eye,vi vk shore,vi vk temp,vi vk press]:Array Value)[i]? :=fun i=>B3.out.cell i;go_wp2_with fail;(with_reducible refine(KH.out _ E3.out).mono ?_)
    rintro e w4 ⟨hcl,hb⟩
    have B4:=hid (B3.out.below hb B3.out.lt);have E4:=hid (E3.out.bl hb);have b4:=hid (b3.out.trans (hb.mono b3.out.size));clear hb B3 E3 b3 yB;rcases hcl with ⟨l,hl,rfl⟩|⟨hno,rfl⟩
    all_goals
     clear KA KB;go_wp2;go_ret2
     exact⟨HT.out HNO.out,b4.out⟩
end
end Go.Proofs.YtbpnacacnncopaaGreatDoor
