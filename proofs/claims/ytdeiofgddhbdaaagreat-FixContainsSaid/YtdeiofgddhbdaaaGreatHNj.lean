/- The walk of the search of a region: look. -/
import Derived.Test.YtdeiofgddhbdaaaGreatHNh
set_option linter.unusedSimpArgs false
set_option linter.unusedVariables false
set_option maxHeartbeats 4000000
set_option maxRecDepth 100000
open Go.RowKit
open Go.Lib (hid)
open Go.Proofs.Tryz
open Go.Value renaming int→vi
open Go.IntKind renaming i64→vk
namespace Go.Proofs.YtdeiofgddhbdaaaGreat
theorem puNj{p:Prop}(h:p:=by simp only[Act.put,List.setIfInBounds_toArray,List.set_cons_zero,List.set_cons_succ]):p:=h
def LkI(n₀ B:Nat)(vc:Value)(lev lk:Int)(v:Value)(W2:World)(L0 L1:List Cl)(x:Cl)(x0 x1 x2 x3 x4 x5 x8 x9:Value)(a:Act)(M:Nat→Bool)(a':Act)(w':World):Prop:=
 ∃v40 v41 v42 v43 v44 v45 v46 v47 v48 v49:Value,a'=((((((((((a.put (some 40) v40).put (some 41) v41).put (some 42) v42).put (some 43) v43).put (some 44) v44).put (some 45) v45).put (some 46) v46).put (some 47) v47).put (some 48) v48).put (some 49) v49)∧XK B v W2 w'∧
  (M 7=false→SS n₀ B w' vc lev lk v L0)∧
  (M 6=true→M 7=false→ ∃g,v46=.slice (some ⟨g,0,none⟩) 1 1∧Blk w' g 55 #[vi vk x.1,vi vk x.2.1,vi vk x.2.2])∧
  (M 7=true→M 10=false→ ∃u,v47=u∧w'.ownsRow n₀ 55 3 u L1.length (cvs L1)∧Blk w' B 143 #[vc,vi vk lev,vi vk lk,v]∧Nx W2 v u)∧
  (M 10=true→GoS n₀ B vc lev lk v W2 L1 w')∧
  (M 10=true→M 7=true)∧
  (M 7=true→M 4=true)∧
  (M 7=true→M 6=true)∧
  (M 0=true→v40=x0)∧
  (M 1=true→v41=x1)∧
  (M 2=true→v42=x2)∧
  (M 3=true→v43=x3)∧
  (M 4=true→v44=x4)∧
  (M 5=true→v45=x5)∧
  (M 8=true→v48=x8)∧
  (M 9=true→v49=x9)
theorem LkI.start{n₀ B:Nat}{vc:Value}{lev lk:Int}{v:Value}{W2:World}{L0 L1:List Cl}{x:Cl}{x0 x1 x2 x3 x4 x5 x8 x9:Value}(a:Act)(h:SS n₀ B W2 vc lev lk v L0):LkI n₀ B vc lev lk v W2 L0 L1 x x0 x1 x2 x3 x4 x5 x8 x9 a (fun _=>false) a W2.drew:=
 ⟨_,_,_,_,_,_,_,_,_,_,by rw[putQ_self a 40,putQ_self a 41,putQ_self a 42,putQ_self a 43,putQ_self a 44,putQ_self a 45,putQ_self a 46,putQ_self a 47,putQ_self a 48,putQ_self a 49],XK.of_below (bl_drew (Below.refl _ _)),fun _=>h.below (bl_drew (Below.refl _ _)),nofun,nofun,nofun,nofun,nofun,nofun,nofun,nofun,nofun,nofun,nofun,nofun,nofun,nofun⟩
def LookOk(f:Nat):Prop:= ∀(K:List Ci) (A:Option Addr) (n c:Nat) (l r cc lev lk:Int) (n₀ B:Nat) (v:Value) (O:List Cl) (w:World),(∀k∈K,VCi k)→n≤1000→Reads w n₀ 6 A n (civs K)→Vl (l,r,cc)→l+(f:Int)=16→lev≤16→n₀≤B→SS n₀ B w (.slice A n c) lev lk v O→AllV O→0≤lk→lk+(prn (agP K) (suP K) lev f (l,r,cc):Int)≤100000→(O.length:Int)≤lk→
 Calls Tryz.prog 104 #[.pointer (some ⟨B,0,none⟩),.agg #[vi vk l,vi vk r,vi vk cc]] w fun e w'=>e=.returned (.bool true)∧GoS n₀ B (.slice A n c) lev (lk+(prn (agP K) (suP K) lev f (l,r,cc):Int)) v w (O++prt (agP K) (suP K) lev f (l,r,cc)) w'
theorem lookKid(f:Nat)(ih:LookOk f)(K:List Ci)(A:Option Addr)(n c:Nat)(lev lk:Int)(n₀ B b2:Nat)(v:Value)(x:Cl)(O:List Cl)(w:World)(hK: ∀k∈K,VCi k)(hn:n≤1000)(hr:Reads w n₀ 6 A n (civs K))(hx:Vl x)(hl:x.1+(f:Int)=16)(h16:lev≤16)(hB:n₀≤B)(hS:SS n₀ B w (.slice A n c) lev lk v O)(hO:AllV O)(h0:0≤lk)(hlk:lk+(prn (agP K) (suP K) lev f x:Int)≤100000)(hlen:(O.length:Int)≤lk)
 (h2:Blk w b2 141 #[.pointer (some ⟨B,0,none⟩)]):
 Calls Tryz.prog 143 #[cva x,.pointer (some ⟨b2,0,none⟩)] w fun e w'=>e=.returned (.bool false)∧GoS n₀ B (.slice A n c) lev (lk+(prn (agP K) (suP K) lev f x:Int)) v w (O++prt (agP K) (suP K) lev f x) w':=by
 obtain⟨l,r,cc⟩:=x;have hba:=bl_alloc w (.cells #[vi vk l,vi vk r,vi vk cc] 55);have hBl:=hS.box.lt;have KC:=hid (ih K A n c l r cc lev lk n₀ B v O (w.alloc (.cells #[vi vk l,vi vk r,vi vk cc] 55)) hK hn (hr.alloc om_ _) hx hl h16 hB (hS.below hba) hO h0 hlk hlen);have HB:=hid hba;have x0:=h2.cell 0;have l2:=h2.lt;simp only[List.getElem?_toArray,List.getElem?_cons_zero] at x0;clear ih hx hl h16 hS hO h0 hlk hlen h2 hba hK hr;generalize lk+(prn (agP K) (suP K) lev f (l,r,cc):Int)=lk2 at KC⊢;generalize O++prt (agP K) (suP K) lev f (l,r,cc)=O2 at KC⊢;have hne: ¬b2=w.heap.size:=by omega
 simp only[cva];go_enter func143,ntmps143;go_wp2_with fail;(with_reducible refine(KC.out).mono ?_)
 rintro e w1 ⟨rfl,hG⟩
 have HG:=hid (hG.after (XK.of_below HB.out));clear hG;go_wp2;go_ret;exact⟨rfl,HG.out⟩
theorem look_step(f:Nat)(ih: ∀f',f=f'+1→LookOk f'):LookOk f:=by
 intro K A n c l r cc lev lk n₀ B v O w hK hn hrd hx hl h16 hBn hS hO h0 hlk hlen;have hpos:=prn_pos (agP K) (suP K) lev f (l,r,cc);have hx0:0≤l:=hx.l0;have hBl:=hS.box.lt;obtain⟨R,hR⟩: ∃R,O++prt (agP K) (suP K) lev f (l,r,cc)=R:=⟨_,rfl⟩;obtain⟨T,hT⟩: ∃T:Nat,prn (agP K) (suP K) lev f (l,r,cc)=T:=⟨_,rfl⟩;rw[hR,hT];rw[hT] at hlk hpos;obtain⟨wa,hwa⟩: ∃wa,(w.alloc (.cells #[.pointer (some ⟨B,0,none⟩)] 141)).alloc (.cells #[vi vk l,vi vk r,vi vk cc] 55)=wa:=⟨_,rfl⟩;have p2:=(Blk.new w 141 #[.pointer (some ⟨B,0,none⟩)]).alloc (.cells #[vi vk l,vi vk r,vi vk cc] 55);have c3:=Blk.new (w.alloc (.cells #[.pointer (some ⟨B,0,none⟩)] 141)) 55 #[vi vk l,vi vk r,vi vk cc];have ba:=(bl_alloc w (.cells #[.pointer (some ⟨B,0,none⟩)] 141)).alloc (by simp) (.cells #[vi vk l,vi vk r,vi vk cc] 55);rw[World.size_alloc] at c3;rw[hwa] at p2 c3 ba;have sa:=hS.below ba;have sb:=sa.count (lk+1);have hvb: ∀k,v.ownBlock=some k→k<w.heap.size:=own_ltK hS.row;have hvn: ∀k,v.ownBlock=some k→n₀≤k:=own_base hS.row;have xb:=(XK.of_below ba (B:=B) (v:=v)).setAt 2 (vi vk (lk+1));have p2b:=p2.far (p:=⟨B,2,none⟩) so_ (vi vk (lk+1));have c3b:=c3.far (p:=⟨B,2,none⟩) so_ (vi vk (lk+1));have rb:Reads (wa.setCell ⟨B,2,none⟩ (vi vk (lk+1))) n₀ 6 A n (civs K):=(hrd.below (ba.mono om_)).setCell hBn _;have q2:wa.cell? ⟨w.heap.size,0,none⟩=some (.pointer (some ⟨B,0,none⟩)):=p2.cell 0;have qk:wa.cell? ⟨B,2,none⟩=some (vi vk lk):=sa.box.cell 2;have qf:wa.frozen? ⟨B,2,none⟩=false:=sa.box.frozen 2;have e1:wrap64 (lk+1)=lk+1:=IntWalk.wrap64_in _ om_;have hsa:wa.heap.size=w.heap.size+2:=by rw[←hwa];simp
 have SB:=hid sb;have XB:=hid xb;have P2B:=hid p2b;have C3B:=hid c3b;have RB:=hid rb;have HK:=hid hK;have HX:=hid hx;have HO:=hid hO;have HR:=hid hR;have HT:=hid hT;have IH:=hid ih;have HVB:=hid hvb;have HVN:=hid hvn;clear hS sa sb xb p2 c3 p2b c3b rb hK hx hO hR hT ih hvb hvn ba hrd;go_enter func104,ntmps104;go_upto_region 1 with (fail)
 try rw[hwa]
 go_upto_region 2 with (fail)
 generalize wa.setCell ⟨B,2,none⟩ (vi vk (lk+1))=wb at SB XB P2B C3B RB⊢;have hsb:w.heap.size+2≤wb.heap.size:=C3B.out.lt;have q2b:wb.cell? ⟨w.heap.size,0,none⟩=some (.pointer (some ⟨B,0,none⟩)):=P2B.out.cell 0;have qkb:wb.cell? ⟨B,2,none⟩=some (vi vk (lk+1)):=SB.out.box.cell 2;have qcb:wb.cell? ⟨B,0,none⟩=some (.slice A n c):=SB.out.box.cell 0;have hd:decide (100000<lk+1)=false:=decide_eq_false om_;clear q2 qk qf e1 hwa hsa;have KT:=contC_any 140 #[.pointer (some ⟨w.heap.size+1,0,none⟩)] (fun k=> !agC k (l,r,cc)) (enters_of func140 (by kernel_rfl) rfl) A n c K wb (RB.out.more (by have:=XB.out.size;omega)) (by simp only[maxLen];omega) (fun W k hk hW=>lookClos_any k (l,r,cc) _ W (HK.out k hk) HX.out (C3B.out.below hW C3B.out.lt));have hag:(K.any fun k=> !agC k (l,r,cc))= !(agP K (l,r,cc)):=by
  have:=any_not K (fun k=>agC k (l,r,cc));unfold agP;rw[←this,Bool.not_not]
 rw[hag] at KT;clear hag;cases hga:agP K (l,r,cc) with
 |false=>
  rw[hga] at KT;have KT:=hid KT;have HF:Hid (T=1∧O=R):=hid (by
   rw[←HT.out,←HR.out];cases f with
   |zero=>unfold prn prt;rw[hga];simp
   |succ f=>unfold prn prt;rw[hga];simp)
  clear hga;go_wp2_with fail;(with_reducible refine(KT.out).mono ?_)
  rintro e w1 ⟨rfl,hb1⟩
  have FG:Hid (GoS n₀ B (.slice A n c) lev (lk+(T:Int)) v w R w1):=hid (by
   obtain⟨e1,e2⟩:=HF.out;subst e1 e2;exact⟨v,SB.out.below hb1,XB.out.trans (Nx.refl _ _) (XK.of_below hb1),Nx.refl _ _⟩)
  clear hb1;go_wp2;go_ret;exact⟨rfl,FG.out⟩
 |true=>
  rw[hga] at KT;have KT:=hid KT;have HGA:=hid hga;clear hga;go_wp2_with fail;(with_reducible refine(KT.out).mono ?_)
  rintro e w2 ⟨rfl,hb2⟩
  have S2:=hid (SB.out.below hb2);have X2:=hid (XB.out.trans (Nx.refl _ _) (XK.of_below hb2));have P22:=hid (P2B.out.below hb2 P2B.out.lt);have C32:=hid (C3B.out.below hb2 C3B.out.lt);have R2:=hid (RB.out.below (hb2.mono (by have:=XB.out.size;omega)));have hs2:w.heap.size+2≤w2.heap.size:=by have:=hb2.size;omega
  clear hb2 SB XB P2B C3B RB q2b qkb qcb hd KT hsb;have hsuA: ∀s:BV w2,Calls Tryz.prog 142 #[.slice A n c,.agg #[vi vk l,vi vk r,vi vk cc]] s.w fun e w'=>e=.returned (.bool (suP K (l,r,cc)))∧Below s.w.heap.size s.w w':=fun s=>allP_any A n c K (l,r,cc) s.w ((R2.out.below (s.hb.mono om_)).more (by have:=s.hb.size;omega)) (by simp only[maxLen];omega) HK.out HX.out;obtain⟨sv,hsv⟩: ∃b,suP K (l,r,cc)=b:=⟨_,rfl⟩;rw[hsv] at hsuA;have KS:=hid hsuA;have HSV:=hid hsv;clear hsuA hsv;go_upto_region 6 with (fail)
  have g0: ∀s:BV w2,s.w.cell? ⟨w.heap.size,0,none⟩=some (.pointer (some ⟨B,0,none⟩)):=fun s=>(P22.out.below s.hb P22.out.lt).cell 0;have g1: ∀s:BV w2,s.w.cell? ⟨w.heap.size+1,0,none⟩=some (vi vk l):=fun s=>(C32.out.below s.hb C32.out.lt).cell 0;have g2: ∀s:BV w2,s.w.cell? ⟨w.heap.size+1,1,none⟩=some (vi vk r):=fun s=>(C32.out.below s.hb C32.out.lt).cell 1;have g3: ∀s:BV w2,s.w.cell? ⟨w.heap.size+1,2,none⟩=some (vi vk cc):=fun s=>(C32.out.below s.hb C32.out.lt).cell 2;have g4: ∀s:BV w2,s.w.cell? ⟨B,1,none⟩=some (vi vk lev):=fun s=>(S2.out.box.below s.hb S2.out.box.lt).cell 1;have g5: ∀s:BV w2,s.w.cell? ⟨B,0,none⟩=some (.slice A n c):=fun s=>(S2.out.box.below s.hb S2.out.box.lt).cell 0;by_cases hst:lev≤l∨sv=true
  ·
   have hst':decide (lev≤l)=true∨(decide (lev≤l)=false∧sv=true):=by
    by_cases h:lev≤l
    · exact .inl (decide_eq_true h)
    · exact .inr ⟨decide_eq_false h,hst.resolve_left h⟩
   have HF:Hid (T=1∧O++[(l,r,cc)]=R):=hid (by
    rw[←HT.out,←HR.out];have hst2:lev≤l∨suP K (l,r,cc)=true:=by rw[HSV.out];exact hst
    have hga:=HGA.out;cases f with
    |zero=>unfold prn prt;rw[if_pos hga];exact⟨rfl,rfl⟩
    |succ f=>unfold prn prt;rw[if_pos hga,if_pos hga,if_pos hst2,if_pos hst2];exact⟨rfl,rfl⟩)
   clear hst;rcases hst' with hd|⟨hd,rfl⟩
   all_goals
    refine wp_region_bv w2 (by kernel_rfl) (by kernel_rfl) (Below.refl _ _) ?_;(repeat (go_big_quiet_step (first|(go_at_call 142;with_reducible exact quiet_bv (KS.out _))|fail)))
    refine wpQuiet_nil ?_;intro w3 hb3;clear g0 g1 g2 g3 g4 g5 KS;have S3:=hid (S2.out.below hb3);have X3:=hid (X2.out.trans (Nx.refl _ _) (XK.of_below hb3));have P2:=hid (P22.out.below hb3 P22.out.lt);have C3:=hid (C32.out.below hb3 C32.out.lt);have hs3:w.heap.size+2≤w3.heap.size:=by have:=hb3.size;omega
    have hsz3:n₀≤w3.heap.size:=by omega
    clear hb3 S2 X2 P22 C32 R2;obtain⟨i0,hi0,hz0,hz1,hzb⟩:=info_parts Tryz.infoCell;have hlo:O.length≤100000:=by omega
    obtain⟨lk1,hlk1⟩: ∃x,lk+1=x:=⟨_,rfl⟩;rw[hlk1] at S3;have HL1:=hid hlk1;clear hlk1;go_upto_region 7 with (fail)
    obtain⟨vc,hvc⟩: ∃vc:Value,Value.slice A n c=vc:=⟨_,rfl⟩;have HVC:=hid hvc;rw[hvc] at S3;try rw[hvc]
    clear hvc;refine wp_region_inv3 (by kernel_rfl) (LkI n₀ B vc lev lk1 (v) w3 (O) (O++[(l,r,cc)]) ((l,r,cc)) (.pointer (some ⟨B,0,none⟩)) (.pointer (some ⟨B,0,none⟩)) (.pointer (some ⟨B,0,none⟩)) (.pointer (some ⟨B,3,none⟩)) (v) (.agg #[vi vk l,vi vk r,vi vk cc]) (.pointer (some ⟨B,0,none⟩)) (.pointer (some ⟨B,3,none⟩))) (waits_bind (by kernel_rfl)) ?start ?step ?fin
    case start=>exact LkI.start _ S3.out
    case step=>
     rintro M i o a1' w' ho hL haf ⟨v40,v41,v42,v43,v44,v45,v46,v47,v48,v49,rfl,hk,h1,h2,h3,h4,h5,hn7_4,hn7_6,e0,e1,e2,e3,e4,e5,e8,e9⟩
     have HK:=hid hk;have H1:=hid h1;have H2:=hid h2;have H3:=hid h3;have H4:=hid h4;have H5:=hid h5;have HN7_4:=hid hn7_4;have HN7_6:=hid hn7_6;have E0:=hid e0;have E1:=hid e1;have E2:=hid e2;have E3:=hid e3;have E4:=hid e4;have E5:=hid e5;have E8:=hid e8;have E9:=hid e9;clear hk h1 h2 h3 h4 h5 hn7_4 hn7_6 e0 e1 e2 e3 e4 e5 e8 e9;rcases i with _|_|_|_|_|_|_|_|_|_|_|i
     all_goals (simp at ho;try subst ho)
     all_goals (try simp[Region.binds] at haf)
     · have hp9:=(HK.out.blk P2.out om_ (fun e=>by have:=HVB.out _ e;omega)).cell 0
       simp only[List.getElem?_toArray,List.getElem?_cons_zero] at hp9;go_wp2;unfold LkI;exact⟨(.pointer (some ⟨B,0,none⟩)),v41,v42,v43,v44,v45,v46,v47,v48,v49,puNj,HK.out,fun h=>H1.out (by simpa [mkd] using h),fun h k=>H2.out (by simpa [mkd] using h) (by simpa [mkd] using k),fun h k=>H3.out (by simpa [mkd] using h) (by simpa [mkd] using k),fun h=>H4.out (by simpa [mkd] using h),ks_ H5,ks_ HN7_4,ks_ HN7_6,rf_,kq E1,kq E2,kq E3,kq E4,kq E5,kq E8,kq E9⟩
     · have hp9:=(HK.out.blk P2.out om_ (fun e=>by have:=HVB.out _ e;omega)).cell 0
       simp only[List.getElem?_toArray,List.getElem?_cons_zero] at hp9;go_wp2;unfold LkI;exact⟨v40,(.pointer (some ⟨B,0,none⟩)),v42,v43,v44,v45,v46,v47,v48,v49,puNj,HK.out,fun h=>H1.out (by simpa [mkd] using h),fun h k=>H2.out (by simpa [mkd] using h) (by simpa [mkd] using k),fun h k=>H3.out (by simpa [mkd] using h) (by simpa [mkd] using k),fun h=>H4.out (by simpa [mkd] using h),ks_ H5,ks_ HN7_4,ks_ HN7_6,kq E0,rf_,kq E2,kq E3,kq E4,kq E5,kq E8,kq E9⟩
     · obtain rfl:=(E1.out (by simp[haf])).symm
       go_wp2;unfold LkI;exact⟨v40,(.pointer (some ⟨B,0,none⟩)),(.pointer (some ⟨B,0,none⟩)),v43,v44,v45,v46,v47,v48,v49,puNj,HK.out,fun h=>H1.out (by simpa [mkd] using h),fun h k=>H2.out (by simpa [mkd] using h) (by simpa [mkd] using k),fun h k=>H3.out (by simpa [mkd] using h) (by simpa [mkd] using k),fun h=>H4.out (by simpa [mkd] using h),ks_ H5,ks_ HN7_4,ks_ HN7_6,kq E0,rf_,rf_,kq E3,kq E4,kq E5,kq E8,kq E9⟩
     · obtain rfl:=(E2.out (by simp[haf])).symm
       go_wp2;unfold LkI;exact⟨v40,v41,(.pointer (some ⟨B,0,none⟩)),(.pointer (some ⟨B,3,none⟩)),v44,v45,v46,v47,v48,v49,puNj,HK.out,fun h=>H1.out (by simpa [mkd] using h),fun h k=>H2.out (by simpa [mkd] using h) (by simpa [mkd] using k),fun h k=>H3.out (by simpa [mkd] using h) (by simpa [mkd] using k),fun h=>H4.out (by simpa [mkd] using h),ks_ H5,ks_ HN7_4,ks_ HN7_6,kq E0,kq E1,rf_,rf_,kq E4,kq E5,kq E8,kq E9⟩
     · have hA:M 7=false:=by
        cases q:M 7 with
        |false=>rfl
        |true=>
         have q0:=HN7_4.out q;rw[hL] at q0;cases q0
       have hcc:=(H1.out hA).box.cell 3;simp only[List.getElem?_toArray,List.getElem?_cons_zero,List.getElem?_cons_succ] at hcc;obtain rfl:=(E3.out (by simp[haf])).symm;go_wp2;unfold LkI;exact⟨v40,v41,v42,(.pointer (some ⟨B,3,none⟩)),(v),v45,v46,v47,v48,v49,puNj,HK.out,fun h=>H1.out (by simpa [mkd] using h),fun h k=>H2.out (by simpa [mkd] using h) (by simpa [mkd] using k),fun h k=>H3.out (by simpa [mkd] using h) (by simpa [mkd] using k),fun h=>H4.out (by simpa [mkd] using h),ks_ H5,fun _=>mkd_same _ _,ks_ HN7_6,kq E0,kq E1,kq E2,rf_,rf_,kq E5,kq E8,kq E9⟩
     · have hp9:=HK.out.blk C3.out om_ (fun e=>by have:=HVB.out _ e;omega)
       have y0:=hp9.cell 0;have y1:=hp9.cell 1;have y2:=hp9.cell 2;simp only[List.getElem?_toArray,List.getElem?_cons_zero,List.getElem?_cons_succ] at y0 y1 y2;go_wp2;unfold LkI;exact⟨v40,v41,v42,v43,v44,(.agg #[vi vk l,vi vk r,vi vk cc]),v46,v47,v48,v49,puNj,HK.out,fun h=>H1.out (by simpa [mkd] using h),fun h k=>H2.out (by simpa [mkd] using h) (by simpa [mkd] using k),fun h k=>H3.out (by simpa [mkd] using h) (by simpa [mkd] using k),fun h=>H4.out (by simpa [mkd] using h),ks_ H5,ks_ HN7_4,ks_ HN7_6,kq E0,kq E1,kq E2,kq E3,kq E4,rf_,kq E8,kq E9⟩
     · have hA:M 7=false:=by
        cases q:M 7 with
        |false=>rfl
        |true=>
         have q0:=HN7_6.out q;rw[hL] at q0;cases q0
       obtain rfl:=(E5.out (by simp[haf])).symm;have hb9:=bl_alloc w' (.cells #[vi vk ((l,r,cc)).1,vi vk ((l,r,cc)).2.1,vi vk ((l,r,cc)).2.2] 55);have NB:=hid (Blk.new w' 55 #[vi vk ((l,r,cc)).1,vi vk ((l,r,cc)).2.1,vi vk ((l,r,cc)).2.2]);simp only[] at hb9 NB;have HB9:=hid hb9;clear hb9;go_wp2;unfold LkI;exact⟨v40,v41,v42,v43,v44,(.agg #[vi vk l,vi vk r,vi vk cc]),(.slice (some ⟨w'.heap.size,0,none⟩) 1 1),v47,v48,v49,puNj,HK.out.trans (Nx.refl _ _) (XK.of_below HB9.out),fun _=>(H1.out hA).below HB9.out,fun _ _=>⟨_,rfl,NB.out⟩,fun h=>(by have q:M 7=true:=(by simpa [mkd] using h);rw[hA] at q;cases q),fun h=>(by have q:=H5.out (by simpa [mkd] using h);rw[hA] at q;cases q),ks_ H5,ks_ HN7_4,fun _=>mkd_same _ _,kq E0,kq E1,kq E2,kq E3,kq E4,rf_,kq E8,kq E9⟩
     · obtain rfl:=(E4.out (by simp[haf])).symm
       have hst:=H1.out hL;obtain⟨g9,rfl,hB9⟩:=H2.out (by simp[haf]) hL;have O1:=hst.row;have R9:=cell_reads hB9;have hzz:=HK.out.size;have hn0:n₀≤w'.heap.size:=Nat.le_trans hsz3 hzz;simp only[Act.put,List.setIfInBounds_toArray,List.set_cons_zero,List.set_cons_succ];refine wpList_append_any _ rfl (.tmp 44) (.tmp 46) _ rfl n₀ 55 i0 _ 3 24 underlying44 hi0 hz0 hz1 hzb rfl dc_ _ (O.length) (cvs O) (by simp[Act.eval]) O1 w'.heap.size (some ⟨g9,0,none⟩) 1 1 (cvs [(l,r,cc)]) (by simp[Act.eval]) R9 (cvs_one _) (by simp only[maxLen];omega) om_ hn0 ?_;intro v9 w9 hown9 hg9 hat9;have hbx9:=hst.box.grown hg9 (hst.box.not_row dc_ O1);rw[←cvs_append,show O.length+1=(O++[(l,r,cc)]).length by simp] at hown9;have HXK:=hid (HK.out.grown hg9);have HNX:Hid (Nx w3 (v) v9):=hid (hat9.elim .inl fun q=>.inr fun k hk=>(by rw[q] at hk;cases hk;exact hzz));have HO9:=hid hown9;have HX9:=hid hbx9;clear hown9 hg9 hat9 hbx9 hst O1 R9 hB9;go_wp2;unfold LkI;exact⟨v40,v41,v42,v43,(v),v45,(.slice (some ⟨g9,0,none⟩) 1 1),(v9),v48,v49,puNj,HXK.out,fun h=>(by simp[mkd] at h),fun _ h=>(by simp[mkd] at h),fun _ _=>⟨v9,rfl,HO9.out,HX9.out,HNX.out⟩,fun h=>(by have q:=H5.out (by simpa [mkd] using h);rw[hL] at q;cases q),fun _=>mkd_same _ _,fun _=>(by have r:M 4=true:=(by simp[haf]);simpa [mkd] using r),fun _=>(by have r:M 6=true:=(by simp[haf]);simpa [mkd] using r),kq E0,kq E1,kq E2,kq E3,rf_,kq E5,kq E8,kq E9⟩
     · obtain rfl:=(E0.out (by simp[haf])).symm
       go_wp2;unfold LkI;exact⟨(.pointer (some ⟨B,0,none⟩)),v41,v42,v43,v44,v45,v46,v47,(.pointer (some ⟨B,0,none⟩)),v49,puNj,HK.out,fun h=>H1.out (by simpa [mkd] using h),fun h k=>H2.out (by simpa [mkd] using h) (by simpa [mkd] using k),fun h k=>H3.out (by simpa [mkd] using h) (by simpa [mkd] using k),fun h=>H4.out (by simpa [mkd] using h),ks_ H5,ks_ HN7_4,ks_ HN7_6,rf_,kq E1,kq E2,kq E3,kq E4,kq E5,rf_,kq E9⟩
     · obtain rfl:=(E8.out (by simp[haf])).symm
       go_wp2;unfold LkI;exact⟨v40,v41,v42,v43,v44,v45,v46,v47,(.pointer (some ⟨B,0,none⟩)),(.pointer (some ⟨B,3,none⟩)),puNj,HK.out,fun h=>H1.out (by simpa [mkd] using h),fun h k=>H2.out (by simpa [mkd] using h) (by simpa [mkd] using k),fun h k=>H3.out (by simpa [mkd] using h) (by simpa [mkd] using k),fun h=>H4.out (by simpa [mkd] using h),ks_ H5,ks_ HN7_4,ks_ HN7_6,kq E0,kq E1,kq E2,kq E3,kq E4,kq E5,rf_,rf_⟩
     · obtain rfl:=(E9.out (by simp[haf])).symm
       obtain⟨u,rfl,hown9,hbx9,hnx9⟩:=H3.out (by simp[haf]) hL;obtain⟨N1,hN1⟩: ∃N1,List.length (O++[(l,r,cc)])=N1:=⟨_,rfl⟩;rw[hN1] at hown9;obtain⟨A9,c9,rfl,-,-⟩:=own_form hown9;have HG:Hid (GoS n₀ B vc lev lk1 (v) w3 (O++[(l,r,cc)]) (w'.setCell ⟨B,3,none⟩ (.slice A9 N1 c9))):=hid ⟨_,SS.put hbx9 (by rw[hN1];exact hown9),HK.out.setAt 3 _,hnx9⟩;have hc9:=hbx9.cell 3;simp only[List.getElem?_toArray,List.getElem?_cons_zero,List.getElem?_cons_succ] at hc9;have hf9:=hbx9.frozen 3;have HS:=hid (HK.out.setAt 3 (.slice A9 N1 c9));clear hown9 hbx9 hnx9 hN1;go_wp2;unfold LkI;exact⟨v40,v41,v42,v43,v44,v45,v46,(.slice A9 N1 c9),v48,(.pointer (some ⟨B,3,none⟩)),puNj,HS.out,fun h=>(by have q:M 7=false:=(by simpa [mkd] using h);have r:M 7=true:=(by simp[haf]);rw[q] at r;cases r),fun _ h=>(by have q:M 7=false:=(by simpa [mkd] using h);have r:M 7=true:=(by simp[haf]);rw[q] at r;cases r),fun _ h=>(by simp[mkd] at h),fun _=>HG.out,fun _=>(by have r:M 7=true:=(by simp[haf]);simpa [mkd] using r),ks_ HN7_4,ks_ HN7_6,kq E0,kq E1,kq E2,kq E3,kq E4,kq E5,kq E8,rf_⟩
    case fin=>
     rintro M a1' w8 hall ⟨v40,v41,v42,v43,v44,v45,v46,v47,v48,v49,rfl,hk,h1,h2,h3,h4,h5,hn7_4,hn7_6,e0,e1,e2,e3,e4,e5,e8,e9⟩
     obtain rfl:=(e0 (hall 0 dc_)).symm;obtain rfl:=(e1 (hall 1 dc_)).symm;obtain rfl:=(e2 (hall 2 dc_)).symm;obtain rfl:=(e3 (hall 3 dc_)).symm;obtain rfl:=(e4 (hall 4 dc_)).symm;obtain rfl:=(e5 (hall 5 dc_)).symm;obtain rfl:=(e8 (hall 8 dc_)).symm;obtain rfl:=(e9 (hall 9 dc_)).symm;have hG:=h4 (hall 10 dc_);clear hk h1 h2 h3 h4 h5 hn7_4 hn7_6;obtain⟨u0,hSu,hXu,hNu⟩:=hG;have FG:Hid (GoS n₀ B vc lev (lk+(T:Int)) v w R w8):=hid (by
      obtain⟨e1,e2⟩:=HF.out;subst e1 e2;have e3:=HL1.out;rw[show lk+((1:Nat):Int)=lk1 by omega];exact⟨u0,hSu,X3.out.trans (Nx.refl _ _) hXu,(Nx.refl _ _).trans X3.out.size hNu⟩)
     clear hSu hXu hNu;go_wp2;go_ret;exact⟨rfl,by rw[HVC.out];exact FG.out⟩
  ·
   have hd:decide (lev≤l)=false:=decide_eq_false fun h=>hst (.inl h);have hsf:sv=false:=by
    cases sv with
    |false=>rfl
    |true=>exact absurd (.inr rfl) hst
   subst hsf;have hlt:l<lev:=by
    have: ¬lev≤l:=fun h=>hst (.inl h);omega
   obtain⟨f',rfl⟩: ∃f',f=f'+1:=⟨f-1,om_⟩;have IH2:=hid (IH.out f' rfl);have hl16:l<16:=by omega
   have HFT:Hid (1+((kidsC (l,r,cc)).map (prn (agP K) (suP K) lev f')).sum=T∧O++(kidsC (l,r,cc)).flatMap (prt (agP K) (suP K) lev f')=R):=hid (by
    rw[←HT.out,←HR.out];have hst2: ¬(lev≤(l,r,cc).1∨suP K (l,r,cc)=true):=by rw[HSV.out];exact hst
    unfold prn prt;rw[if_pos HGA.out,if_pos HGA.out,if_neg hst2,if_neg hst2];exact⟨rfl,rfl⟩)
   have KC:=hid (fun W=>Children_yes l r cc W ((vl_iff (l,r,cc)).2 HX.out) (by simp;omega));rw[show kids l r cc=kidsC (l,r,cc) from rfl] at KC;have HKV:Hid (AllV (kidsC (l,r,cc))):=hid (kids_vl HX.out hl16);have HKL:Hid (∀x∈kidsC (l,r,cc),x.1+(f':Int)=16):=hid (fun x hx=>(kid_one (by simpa using hl) x hx).1);have hkn:(kidsC (l,r,cc)).length=4:=rfl;generalize kidsC (l,r,cc)=KK at HFT KC HKV HKL hkn;refine wp_region_bv w2 (by kernel_rfl) (by kernel_rfl) (Below.refl _ _) ?_;(repeat (go_big_quiet_step (first|(go_at_call 142;with_reducible exact quiet_bv (KS.out _))|fail)))
   refine wpQuiet_nil ?_;intro w3 hb3;clear g0 g1 g2 g3 g4 g5 KS hst;have S3:=hid (S2.out.below hb3);have X3:=hid (X2.out.trans (Nx.refl _ _) (XK.of_below hb3));have P2:=hid (P22.out.below hb3 P22.out.lt);have C3:=hid (C32.out.below hb3 C32.out.lt);have R3:=hid (R2.out.below (hb3.mono om_));have hs3:w.heap.size+2≤w3.heap.size:=by have:=hb3.size;omega
   have k0:w3.cell? ⟨w.heap.size+1,0,none⟩=some (vi vk l):=C3.out.cell 0;have k1:w3.cell? ⟨w.heap.size+1,1,none⟩=some (vi vk r):=C3.out.cell 1;have k2:w3.cell? ⟨w.heap.size+1,2,none⟩=some (vi vk cc):=C3.out.cell 2;clear hb3 S2 X2 P22 C32 R2;go_wp2_with fail;(with_reducible refine(KC.out _).mono ?_)
   rintro e w4 ⟨vk,rfl,hownk,hb4⟩
   rw[hkn] at hownk;have S4:=hid (S3.out.below hb4);have X4:=hid (X3.out.trans (Nx.refl _ _) (XK.of_below hb4));have P4:=hid (P2.out.below hb4 P2.out.lt);have R4:=hid (R3.out.below (hb4.mono om_));have HNB:Hid (∀k,vk.ownBlock=some k→k≠B∧v.ownBlock≠some k):=hid (fun k hk=>by
    have h1:=own_base hownk k hk;exact⟨om_,fun e=>by have:=HVB.out k e;omega⟩)
   obtain⟨Ak,ck,rfl,-,-⟩:=own_form hownk;have OWN:=hid hownk;have hs4:w.heap.size+2≤w4.heap.size:=by have:=hb4.size;omega
   clear hb4 hownk S3 X3 P2 C3 R3 k0 k1 k2 KC;have hft:=HFT.out;have KT:=contSt_any 143 #[.pointer (some ⟨w.heap.size,0,none⟩)]
    (fun k W=> ∃u,SS n₀ B W (.slice A n c) lev (lk+1+(lkT (prn (agP K) (suP K) lev f') KK k:Int)) u (O++otT (prt (agP K) (suP K) lev f') KK k)∧XK B v w4 W∧Nx w4 v u)
    (enters_of func143 (by kernel_rfl) rfl) Ak 4 ck KK w4 hkn
    (fun k W hJ=>by
      obtain⟨u,h1,h2,h3⟩:=hJ;exact Reads.of_own (own_xk OWN.out h2 HNB.out))
    dc_ ⟨v,by simpa [lkT,otT] using S4.out,XK.refl _ _ _,Nx.refl _ _⟩
    (fun W k hk hJ=>by
      obtain⟨u,h1,h2,h3⟩:=hJ;have hm:gt KK k∈KK:=by simp[gt,show k<KK.length by omega]
      have hle:=lkT_le (prn (agP K) (suP K) lev f') KK k om_;have hot:=otT_len (p:=prt (agP K) (suP K) lev f') (q:=prn (agP K) (suP K) lev f') (K:=KK) (fun x hx=>(prt_v h16 f' x (HKV.out x hx) (HKL.out x hx)).2.2.1) k om_;have hAll:AllV (O++otT (prt (agP K) (suP K) lev f') KK k):=by
       intro y hy;rcases List.mem_append.1 hy with hy|hy
       · exact HO.out y hy
       · obtain⟨z,hz,hyz⟩:=List.mem_flatMap.1 hy
         have hz':=List.mem_of_mem_take hz;exact(prt_v h16 f' z (HKV.out z hz') (HKL.out z hz')).1 y hyz
      have hrd:Reads W n₀ 6 A n (civs K):=R4.out.below (h2.below hBn HVN.out om_);have hb2:Blk W w.heap.size 141 #[.pointer (some ⟨B,0,none⟩)]:=h2.blk P4.out om_ (fun e=>by have:=HVB.out _ e;omega);refine(lookKid f' IH2.out K A n c lev _ n₀ B w.heap.size u (gt KK k) _ W HK.out hn hrd (HKV.out _ hm) (HKL.out _ hm) h16 hBn h1 hAll om_ om_ (by rw[List.length_append];omega) hb2).mono ?_;rintro e W' ⟨rfl,u',s1,s2,s3⟩
      refine⟨rfl,u',?_,h2.trans h3 s2,h3.trans h2.size s3⟩;rw[lkT_succ _ _ _ om_,otT_succ _ _ _ om_,←List.append_assoc];rw[show lk+1+((lkT (prn (agP K) (suP K) lev f') KK k+prn (agP K) (suP K) lev f' (gt KK k):Nat):Int)=lk+1+(lkT (prn (agP K) (suP K) lev f') KK k:Int)+(prn (agP K) (suP K) lev f' (gt KK k):Int) by omega];exact s1)
   have KT:=hid KT;clear OWN HNB HKV HKL IH2 P4 R4 hft;go_wp2_with fail;(with_reducible refine(KT.out).mono ?_)
   rintro e w5 ⟨rfl,u,s1,s2,s3⟩
   have FG:Hid (GoS n₀ B (.slice A n c) lev (lk+(T:Int)) v w R w5):=hid (by
    obtain⟨e1,e2⟩:=HFT.out;rw[←hkn,lkT_all,otT_all,e2] at s1;rw[show lk+(T:Int)=lk+1+(((KK.map (prn (agP K) (suP K) lev f')).sum:Nat):Int) by omega];exact⟨u,s1,X4.out.trans (Nx.refl _ _) s2,(Nx.refl _ _).trans X4.out.size s3⟩)
   clear s1 s2 s3;go_wp2;go_ret;exact⟨rfl,FG.out⟩
theorem look_ok(f:Nat):LookOk f:=by
 induction f with
 |zero=>exact look_step 0 (fun f' h=>absurd h om_)
 |succ f ih=>exact look_step (f+1) (fun f' h=>by cases h;exact ih)
end Go.Proofs.YtdeiofgddhbdaaaGreat
