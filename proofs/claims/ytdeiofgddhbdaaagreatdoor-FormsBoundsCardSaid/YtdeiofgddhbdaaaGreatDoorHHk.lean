/- Walks of place.Valid, place.Contains at boxes of cells, and of cells.Contains. -/
import Derived.Test.YtdeiofgddhbdaaaGreatDoorHHi
set_option linter.unusedSimpArgs false
set_option linter.unusedVariables false
set_option maxHeartbeats 4000000
set_option maxRecDepth 100000
open Go.RowKit
open Go.Lib (hid)
open Go.Proofs.Tryz
open Go.Value renaming int→vi
open Go.IntKind renaming i64→vk
namespace Go.Proofs.YtdeiofgddhbdaaaGreatDoor
def fR(D:List Sp)(k:Nat):Int:=(D.take k).foldl (fun r a=>max r a.2) (gs D 0).2
def fS1(s:Sp×Int×Int)(a:Sp):Sp×Int×Int:=if s.2.1<a.1-s.2.2 then((a.1,a.1+21600000-(a.1-s.2.2)),a.1-s.2.2,max s.2.2 a.2) else(s.1,s.2.1,max s.2.2 a.2)
def fS(D:List Sp)(k:Nat):Sp×Int×Int:=(D.take k).foldl fS1 (((-10800000:Int),(10800000:Int)),(0:Int),fR D D.length-21600000)
theorem fR_succ(D:List Sp)(k:Nat)(hk:k<D.length):fR D (k+1)=max (fR D k) (gs D k).2:=by
 unfold fR;rw[List.take_succ_eq_append_getElem hk,List.foldl_append];simp[gs,hk]
theorem fS_succ(D:List Sp)(k:Nat)(hk:k<D.length):fS D (k+1)=fS1 (fS D k) (gs D k):=by
 unfold fS;rw[List.take_succ_eq_append_getElem hk,List.foldl_append];simp[gs,hk]
theorem okA_gs{D:List Sp}(hD:OkA D){k:Nat}(hk:k<D.length): -10800000≤(gs D k).1∧(gs D k).1≤10800000∧(gs D k).1≤(gs D k).2∧(gs D k).2≤(gs D k).1+21600000:=hD _ (by simp[gs,hk])
theorem fR_bd{D:List Sp}(hD:OkA D)(h0:0<D.length)(k:Nat)(hk:k≤D.length): -10800000≤fR D k∧fR D k≤32400000:=by
 induction k with
 |zero=>have:=okA_gs hD h0;simp[fR];omega
 |succ k ih=>
  have h:=ih om_;have:=okA_gs hD (k:=k) om_;rw[fR_succ D k om_];omega
theorem fS_bd{D:List Sp}(hD:OkA D)(h0:0<D.length)(k:Nat)(hk:k≤D.length): -32400000≤(fS D k).2.2∧(fS D k).2.2≤32400000∧0≤(fS D k).2.1∧(fS D k).2.1≤43200000:=by
 induction k with
 |zero=>have:=fR_bd hD h0 D.length (Nat.le_refl _);simp[fS];omega
 |succ k ih=>
  have h:=ih om_;have:=okA_gs hD (k:=k) om_;rw[fS_succ D k om_];unfold fS1;split
  · simp only[];omega
  · simp only[];omega
theorem fAround_any(b0 off0 n c:Nat)(D:List Sp)(w:World)(hb0:b0<w.heap.size)(hI: ∀j,j<D.length→w.cell? ⟨b0,off0+j*2,none⟩=some (vi vk (gs D j).1)∧w.cell? ⟨b0,off0+j*2+1,none⟩=some (vi vk (gs D j).2))(hl:D.length=n)(hn:n≤100000)(h0:0<n)(hD:OkA D):
 Calls Tryz.prog 84 #[.slice (some ⟨b0,off0,none⟩) n c] w fun e w'=> ∃D':List Sp,D'.Perm D∧(∀i j,i<j→j<D'.length→(gs D' i).1≤(gs D' j).1)∧e=.returned (.agg #[vi vk (fS D' n).1.1,vi vk (fS D' n).1.2])∧Below w.heap.size w w':=by
 have KV:=hid (fun W=>callsIn_wide.1 (values_in Fence.wide 4 trivial rfl (some ⟨b0,off0,none⟩) n c W));have KS:Hid (∀W:World,Below w.heap.size w W→Calls Tryz.prog 114 #[.func (.func 155) #[] #[.pointer (some ⟨W.heap.size,0,none⟩)],.func (.func 116) #[] #[]] (W.alloc (.cells #[.slice (some ⟨b0,off0,none⟩) n c] 102)) fun e w'=> ∃(v:Value) (D':List Sp),e=.returned v∧D'.Perm D∧(∀i j,i<j→j<D'.length→(gs D' i).1≤(gs D' j).1)∧w'.ownsRow (W.alloc (.cells #[.slice (some ⟨b0,off0,none⟩) n c] 102)).heap.size 33 2 v D.length (spvs D')∧Below (W.alloc (.cells #[.slice (some ⟨b0,off0,none⟩) n c] 102)).heap.size (W.alloc (.cells #[.slice (some ⟨b0,off0,none⟩) n c] 102)) w'):=hid (fun W hW=>by
  have hb2:=hW.alloc (by have:=hW.size;omega) (.cells #[.slice (some ⟨b0,off0,none⟩) n c] 102);refine sorted_any W.heap.size b0 off0 c D _ om_ om_ (by simp) (by rw[hl];simp) (by have:=hb2.size;omega) (fun j hj=>⟨(hb2.cell (p:=⟨b0,off0+j*2,none⟩) hb0).trans (hI j hj).1,(hb2.cell (p:=⟨b0,off0+j*2+1,none⟩) hb0).trans (hI j hj).2⟩))
 rw[hl] at KS;have HD:=hid hD;have HL:=hid hl;clear hI hD hl;go_enter func84,ntmps84;go_wp2_with fail;(with_reducible refine(KV.out _).mono ?_)
 rintro e w1 ⟨rfl,rfl⟩
 have B0:Hid (Below w.heap.size w (w.alloc (.cells #[vi vk 0,vi vk 0] 33))):=hid (bl_alloc _ _);have Z0:=hid (K2.new w 0 0 33);have ks1:=KS.out _ B0.out;rw[show(w.alloc (.cells #[vi vk 0,vi vk 0] 33)).heap.size=w.heap.size+1 from World.size_alloc _ _] at ks1;have KS1:=hid ks1;clear ks1;have B1:=hid (B0.out.alloc (by have:=B0.out.size;omega) (.cells #[.slice (some ⟨b0,off0,none⟩) n c] 102));have Z1:=hid (Z0.out.alloc (.cells #[.slice (some ⟨b0,off0,none⟩) n c] 102));clear KS KV B0 Z0;generalize (w.alloc (.cells #[vi vk 0,vi vk 0] 33)).alloc (.cells #[.slice (some ⟨b0,off0,none⟩) n c] 102)=W1 at*;go_wp2_with fail;(with_reducible refine KS1.out.mono ?_)
 rintro e w2 ⟨v,D',rfl,hp,hs,hrow,hb2⟩
 have HP:=hid hp;have HSO:=hid hs;obtain⟨A2,c2,rfl,ra,-,-⟩:=own_form hrow;have HR:=hid ra;have B2:=hid (B1.out.trans (hb2.mono B1.out.size));have Z2:=hid (Z1.out.below hb2 Z1.out.lt);have HD':Hid (OkA D'):=hid (fun x hx=>HD.out x (HP.out.mem_iff.1 hx));have HL':Hid (D'.length=n):=hid (by rw[HP.out.length_eq,HL.out]);clear hp hs hrow hb2 ra B1 Z1 KS1 HD HL;obtain⟨⟨r0,r1⟩,hRR⟩: ∃R,(fS D' n).1=R:=⟨_,rfl⟩;have HRR:=hid hRR;clear hRR;obtain⟨b,off,rfl,hb,x0,x1⟩:=SReads.elem HR.out h0;obtain⟨f0,hf0⟩: ∃f,(gs D' 0).2=f:=⟨_,rfl⟩;rw[hf0] at x1;have HF0:Hid (fR D' 0=f0):=hid (by rw[←hf0];rfl);clear x0 hf0;go_wp2;clear x1;go_loopw [3,20] (fun v i wr=> ∃k:Nat,k≤n∧i=vi vk k∧v=vi vk (fR D' k)∧Below w2.heap.size w2 wr) (fun _ i _=>n-(intOf i).toNat)
 case atStart=>exact⟨0,Nat.zero_le _,rfl,by rw[HF0.out],Below.refl _ _⟩
 case round=>
  obtain⟨k,hk,rfl,rfl,hbr⟩:=hrel;by_cases hlt:k<n
  · obtain⟨b',off',e,hb',x0,x1⟩:=SReads.elem HR.out hlt
    cases e
    have y0:=(hbr.cell (p:=⟨b,off+k*2,none⟩) hb).trans x0;have y1:=(hbr.cell (p:=⟨b,off+k*2+1,none⟩) hb).trans x1;have HF:=hid (fR_succ D' k (by rw[HL'.out];exact hlt));obtain⟨p,hp⟩: ∃p,(gs D' k).1=p:=⟨_,rfl⟩;obtain⟨q,hq⟩: ∃q,(gs D' k).2=q:=⟨_,rfl⟩;rw[hp] at y0;rw[hq] at y1 HF;obtain⟨R,hR⟩: ∃R,fR D' k=R:=⟨_,rfl⟩;rw[hR] at HF;rw[hR];clear x0 x1 hp hq hR;go_wp2;go_roundw
    case rel=>exact⟨k+1,om_,by go_num,by rw[HF.out],hbr.alloc hbr.size _⟩
    case measure=>simp[intOf];omega
  · obtain rfl:k=n:=by omega
    have hfb:=fR_bd HD'.out (by rw[HL'.out];exact h0) k (by rw[HL'.out];exact Nat.le_refl _);have HFS:Hid (fS D' 0=(((-10800000:Int),(10800000:Int)),(0:Int),fR D' k-21600000)):=hid (by rw[←HL'.out];rfl);obtain⟨R,hR⟩: ∃R,fR D' k=R:=⟨_,rfl⟩;rw[hR] at HFS hfb;rw[hR];clear hR;have B3:=hid (B2.out.trans (hbr.mono B2.out.size));have Z3:=hid (Z2.out.below hbr Z2.out.lt);have hz3:=hbr.size;have HBR:=hid hbr;clear hbr;have N3:=hid (K2.new wr (-10800000) 10800000 33);have Z4:=hid (Z3.out.alloc (.cells #[vi vk (-10800000),vi vk 10800000] 33));have B4:=hid (B3.out.alloc B3.out.size (.cells #[vi vk (-10800000),vi vk 10800000] 33));have BR4:=hid (HBR.out.alloc HBR.out.size (.cells #[vi vk (-10800000),vi vk 10800000] 33));clear B3 Z3 HBR;generalize hg6:wr.heap.size=g6 at*;go_wp2;go_loopw [3,7,34] (fun v bst i wq=> ∃j:Nat,j≤k∧i=vi vk j∧v=vi vk (fS D' j).2.2∧bst=vi vk (fS D' j).2.1∧K2 wq w.heap.size 0 0∧K2 wq g6 (fS D' j).1.1 (fS D' j).1.2∧Below w.heap.size w wq∧Below w2.heap.size w2 wq) (fun _ _ i _=>k-(intOf i).toNat)
    case atStart=>exact⟨0,Nat.zero_le _,rfl,by rw[HFS.out],by rw[HFS.out],Z4.out,by rw[HFS.out];exact N3.out,B4.out,BR4.out⟩
    case round=>
     obtain⟨j,hj,rfl,rfl,rfl,hZ,hN,hbq,hbr⟩:=hrel;clear Z4 N3 B4 BR4;have HZ:=hid hZ;have HN:=hid hN;have HBQ:=hid hbq;clear hZ hN hbq;by_cases hjt:j<k
     · obtain⟨b',off',e,hb',x0,x1⟩:=SReads.elem HR.out hjt
       cases e
       have y0:=(hbr.cell (p:=⟨b,off+j*2,none⟩) hb).trans x0;have y1:=(hbr.cell (p:=⟨b,off+j*2+1,none⟩) hb).trans x1;have HF:=hid (fS_succ D' j (by rw[HL'.out];exact hjt));have hfs:=fS_bd HD'.out (by rw[HL'.out];exact h0) j (by rw[HL'.out];omega);have hok:=okA_gs HD'.out (k:=j) (by rw[HL'.out];exact hjt);obtain⟨⟨p,q⟩,hp⟩: ∃p,gs D' j=p:=⟨_,rfl⟩;rw[hp] at y0 y1 HF hok;obtain⟨⟨⟨s0,s1⟩,s2,s3⟩,hs⟩: ∃s,fS D' j=s:=⟨_,rfl⟩;rw[hs] at HF HN hfs;simp only[hs];simp only[] at y0 y1 hok HN hfs;clear x0 x1 hp hs;have HA:=hid (K2.new wr p q 33);have HZ2:=hid (HZ.out.alloc (.cells #[vi vk p,vi vk q] 33));have HN2:=hid (HN.out.alloc (.cells #[vi vk p,vi vk q] 33));have HBQ2:=hid (HBQ.out.alloc HBQ.out.size (.cells #[vi vk p,vi vk q] 33));have HBR2:=hid (hbr.alloc hbr.size (.cells #[vi vk p,vi vk q] 33));obtain⟨nt,n0,n1,nf0,nf1⟩:=HN.out;have hgw:w.heap.size≤g6:=by have:=B2.out.size;omega
       have hne:w.heap.size≠g6:=by have:=Z2.out.lt;omega
       have hlt6:=HN.out.lt;have hn1: ¬g6=wr.heap.size:=by omega
       have hn2: ¬wr.heap.size=g6:=by omega
       by_cases hgap:s2<p-s3
       · have HF2:Hid (fS D' (j+1)=((p,p+21600000-(p-s3)),p-s3,max s3 q)):=hid (by rw[HF.out];unfold fS1;rw[if_pos hgap])
         clear HF;go_wp2;go_roundw
         case rel=>
          refine⟨j+1,om_,by go_num,by rw[HF2.out],by rw[HF2.out],((HZ.out.far hne _).far hne _).alloc _,?_,((HBQ.out.setCell hgw _).setCell hgw _).alloc (by have:=HBQ.out.size;simp;omega) _,((hbr.setCell hz3 _).setCell hz3 _).alloc (by have:=hbr.size;simp;omega) _⟩;rw[HF2.out];exact((HN.out.set0 _).set1 _).alloc _
         case measure=>simp[intOf];omega
       · have HF2:Hid (fS D' (j+1)=((s0,s1),s2,max s3 q)):=hid (by rw[HF.out];unfold fS1;rw[if_neg hgap])
         have hgap':p-s3≤s2:=by omega
         clear HF hgap;go_wp2;go_roundw
         case rel=>exact⟨j+1,om_,by go_num,by rw[HF2.out],by rw[HF2.out],HZ2.out,by rw[HF2.out];exact HN2.out,HBQ2.out,HBR2.out⟩
         case measure=>simp[intOf];omega
     · obtain rfl:j=k:=by omega
       have hres:=HRR.out;obtain⟨⟨⟨s0,s1⟩,s2,s3⟩,hs⟩: ∃s,fS D' j=s:=⟨_,rfl⟩;rw[hs] at HN hres;obtain⟨rfl,rfl⟩:=Prod.mk.inj hres;simp only[hs];simp only[] at HN;obtain⟨zt,z0,z1,zf0,zf1⟩:=HZ.out;obtain⟨nt,n0,n1,-,-⟩:=HN.out;have HS:=hid hs;clear hs hres HRR;go_wp2;refine bodyPost_ret (v:=.agg #[vi vk s0,vi vk s1]) (by simp[results,results84,go_sem, *];done) rfl ⟨D',HP.out,HSO.out,?_,?_⟩
       · rw[HS.out]
       · exact(HBQ.out.setCell (by simp) _).setCell (by simp) _
def sgA(n:Int):Int:=if 10800000≤n%21600000 then n%21600000-21600000 else n%21600000
theorem sgA_bd(n:Int): -10800000≤sgA n∧sgA n<10800000:=by unfold sgA;omega
theorem SignedA_any(n:Int)(w:World)(h0: -1000000000000≤n)(h1:n≤1000000000000):Calls Tryz.prog 52 #[vi vk n] w fun e w'=>e=.returned (vi vk (sgA n))∧Below w.heap.size w w':=by
 have K:=hid (fun W=>Wrap_any n W h0 h1);have hm:0≤n%21600000∧n%21600000<21600000:=by omega
 unfold sgA;generalize n%21600000=m at*;by_cases hc:10800000≤m
 all_goals
  simp only[hc,if_true,if_false];go_enter func52,ntmps52;go_wp2_with fail;(with_reducible refine(K.out _).mono ?_)
  rintro e w1 ⟨rfl,hb1⟩
  go_wp2;go_ret;exact⟨ret_int (by first|rfl|omega),hb1⟩
theorem Tryz.infoArcG:(Tryz.prog.info? 33).map (fun i=>(i.zero,i.size,i.bytes))=some (some (.agg #[vi vk 0,vi vk 0]),2,16):=by kernel_rfl
def comP(a b:Sp)(f:Int):List Sp:=if max 0 f≤min (a.2-a.1) (f+b.2-b.1) then[(sgA (a.1+max 0 f),sgA (a.1+max 0 f)+min (a.2-a.1) (f+b.2-b.1)-max 0 f)] else[]
def comL(a b:Sp):List Sp:=if isAll a=true then[b] else if isAll b=true then[a] else comP a b ((b.1-a.1)%21600000)++comP a b ((b.1-a.1)%21600000-21600000)
theorem index20(x y:Int)(W:World):(Instr.index 202 (.agg #[vi vk x,vi vk y]) (vi vk 0)).run Tryz.prog W=.ok (vi vk x) W:=by kernel_rfl
theorem index21(x y:Int)(W:World):(Instr.index 202 (.agg #[vi vk x,vi vk y]) (vi vk 1)).run Tryz.prog W=.ok (vi vk y) W:=by kernel_rfl
theorem comP_len(a b:Sp)(f:Int):(comP a b f).length≤1:=by unfold comP;split<;>simp
def comF(a b:Sp)(f:Int):Nat→List Sp
 |0=>[]
 |1=>comP a b f
 |_=>comP a b f++comP a b (f-21600000)
theorem common_any(a0 a1 b0 b1:Int)(w:World)(ha: -10800000≤a0∧a0≤10800000∧a0≤a1∧a1≤a0+21600000)(hb: -10800000≤b0∧b0≤10800000∧b0≤b1∧b1≤b0+21600000):
 Calls Tryz.prog 124 #[.agg #[vi vk a0,vi vk a1],.agg #[vi vk b0,vi vk b1]] w fun e w'=> ∃v,e=.returned v∧w'.ownsRow w.heap.size 33 2 v (comL (a0,a1) (b0,b1)).length (spvs (comL (a0,a1) (b0,b1)))∧Below w.heap.size w w':=by
 have KA:=hid all_any;have HA:=hid ((K2.new w a0 a1 33).alloc (.cells #[vi vk b0,vi vk b1] 33));have HB:Hid (K2 ((w.alloc (.cells #[vi vk a0,vi vk a1] 33)).alloc (.cells #[vi vk b0,vi vk b1] 33)) (w.heap.size+1) b0 b1):=hid (by
  have:=K2.new (w.alloc (.cells #[vi vk a0,vi vk a1] 33)) b0 b1 33;simpa using this)
 have b0':Below w.heap.size w ((w.alloc (.cells #[vi vk a0,vi vk a1] 33)).alloc (.cells #[vi vk b0,vi vk b1] 33)):=((Below.refl _ _).alloc (Nat.le_refl _) _).alloc (by simp) _;cases h1:aeq a0 a1 (-10800000) 10800000 with
 |true=>
  have hres:comL (a0,a1) (b0,b1)=[(b0,b1)]:=by unfold comL isAll;rw[if_pos h1]
  rw[hres];go_enter func124,ntmps124;go_wp2_with fail;(with_reducible refine(KA.out _ _ _).mono ?_)
  rintro e w1 ⟨rfl,hb1⟩
  have B1:=b0'.trans (hb1.mono b0'.size);obtain⟨bt,c0,c1,-,-⟩:=HB.out.below hb1 HB.out.lt;rw[h1];go_wp2;go_ret;exact⟨_,rfl,by simpa [spvs,spv] using own_new w1 w.heap.size 33 2 1 w1.heap.size #[vi vk b0,vi vk b1] rfl B1.size (by simp) (by simp[maxLen]),B1.alloc B1.size _⟩
 |false=>
  cases h2:aeq b0 b1 (-10800000) 10800000 with
  |true=>
   have hres:comL (a0,a1) (b0,b1)=[(a0,a1)]:=by unfold comL isAll;rw[if_neg (by simp[h1]),if_pos h2]
   rw[hres];go_enter func124,ntmps124;go_wp2_with fail;(with_reducible refine(KA.out _ _ _).mono ?_)
   rintro e w1 ⟨rfl,hb1⟩
   have B1:=b0'.trans (hb1.mono b0'.size);have HA1:=hid (HA.out.below hb1 HA.out.lt);obtain⟨bt,c0,c1,-,-⟩:=HB.out.below hb1 HB.out.lt;rw[h1];clear hb1;go_wp2_with fail;(with_reducible refine(KA.out _ _ _).mono ?_)
   rintro e w2 ⟨rfl,hb2⟩
   have B2:=B1.trans (hb2.mono B1.size);clear bt c0 c1;obtain⟨bt,c0,c1,-,-⟩:=HA1.out.below hb2 HA1.out.lt;rw[h2];go_wp2;go_ret;exact⟨_,rfl,by simpa [spvs,spv] using own_new w2 w.heap.size 33 2 1 w2.heap.size #[vi vk a0,vi vk a1] rfl B2.size (by simp) (by simp[maxLen]),B2.alloc B2.size _⟩
  |false=>
   obtain⟨f,hf⟩: ∃f,f=(b0-a0)%21600000:=⟨_,rfl⟩;obtain⟨R,hR⟩: ∃R,R=comL (a0,a1) (b0,b1):=⟨_,rfl⟩;rw[←hR];have HRE:Hid (R=comP (a0,a1) (b0,b1) f++comP (a0,a1) (b0,b1) (f-21600000)):=hid (by rw[hR];unfold comL isAll;rw[if_neg (by simp[h1]),if_neg (by simp[h2]),hf]);have KB:=fun W=>beyond_any a0 a1 b0 W om_ om_ om_ om_;rw[←hf] at KB;have HKB:=hid KB;have hfb:0≤f∧f<21600000:=by omega
   clear hR hf KB;obtain⟨i0,hi0,hz0,hz1,hzb⟩:=info_parts Tryz.infoArcG;have e0:wrap64 (f-21600000)=f-21600000:=IntWalk.wrap64_in _ om_;go_enter func124,ntmps124;go_wp2_with fail;(with_reducible refine(KA.out _ _ _).mono ?_)
   rintro e w1 ⟨rfl,hb1⟩
   have B1:=b0'.trans (hb1.mono b0'.size);have HA1:=hid (HA.out.below hb1 HA.out.lt);have HB1:=hid (HB.out.below hb1 HB.out.lt);rw[h1];clear hb1 b0' HA HB;obtain⟨bt,c0,c1,-,-⟩:=HB1.out;go_wp2_with fail;(with_reducible refine(KA.out _ _ _).mono ?_)
   rintro e w2 ⟨rfl,hb2⟩
   have B2:=B1.trans (hb2.mono B1.size);have HA2:=hid (HA1.out.below hb2 HA1.out.lt);have HB2:=hid (HB1.out.below hb2 HB1.out.lt);rw[h2];clear hb2 B1 HA1 HB1 bt c0 c1;go_upto_region 6 with (fail)
   have d0: ∀s:BV w2,s.w.cell? ⟨w.heap.size,0,none⟩=some (vi vk a0):=fun s=>(HA2.out.below s.hb HA2.out.lt).c0;have d1: ∀s:BV w2,s.w.cell? ⟨w.heap.size,1,none⟩=some (vi vk a1):=fun s=>(HA2.out.below s.hb HA2.out.lt).c1;have d2: ∀s:BV w2,s.w.cell? ⟨w.heap.size+1,0,none⟩=some (vi vk b0):=fun s=>(HB2.out.below s.hb HB2.out.lt).c0;refine wp_region_bv w2 (by kernel_rfl) (by kernel_rfl) (Below.refl _ _) ?_;(repeat (go_big_quiet_step (first|(go_at_call 168;with_reducible exact quiet_bv (HKB.out _))|fail)))
   refine wpQuiet_nil ?_;intro w9 hb9;have B9:=B2.trans (hb9.mono B2.size);have HA9:=hid (HA2.out.below hb9 HA2.out.lt);have HB9:=hid (HB2.out.below hb9 HB2.out.lt);clear d0 d1 d2 hb9 B2 HA2 HB2;go_wp2;go_loopw [5,31] (fun v i wq=> ∃j:Nat,j≤2∧i=vi vk j∧wq.ownsRow (w.heap.size+2) 33 2 v (comF (a0,a1) (b0,b1) f j).length (spvs (comF (a0,a1) (b0,b1) f j))∧K2 wq w.heap.size a0 a1∧K2 wq (w.heap.size+1) b0 b1∧Below w.heap.size w wq) (fun _ i _=>2-(intOf i).toNat)
   case atStart=>exact⟨0,om_,rfl,own_nil _ _ _ _,HA9.out,HB9.out,B9⟩
   case round=>
    obtain⟨j,hj,rfl,hown,hA,hB,hbr⟩:=hrel;clear HA9 HB9 B9;have HA:=hid hA;have HB:=hid hB;have HO:=hid hown;clear hA hB hown;by_cases hj2:j=2
    · subst hj2
      have hc2:comF (a0,a1) (b0,b1) f 2=R:=by rw[HRE.out];rfl
      rw[hc2] at HO;obtain⟨A3,c3,hv3,-,-⟩:=own_form HO.out;subst hv3;go_wp2;go_ret;exact⟨_,rfl,own_mono HO.out om_,hbr⟩
    · obtain⟨g,hg⟩: ∃g,g=f-21600000*(j:Int):=⟨_,rfl⟩
      have hgb: -21600000≤g∧g<21600000:=by omega
      have hz:=hbr.size;have HC:Hid (comF (a0,a1) (b0,b1) f (j+1)=comF (a0,a1) (b0,b1) f j++comP (a0,a1) (b0,b1) g):=hid (by
       have:j=0∨j=1:=by omega
       rcases this with rfl|rfl
       · simp[comF,hg]
       · simp[comF,hg])
      have hfl:(comF (a0,a1) (b0,b1) f j).length≤2:=by
       have:j=0∨j=1:=by omega
       have hp:=comP_len (a0,a1) (b0,b1) f;rcases this with rfl|rfl<;>simp[comF];omega
      have HG:=hid hg;clear hg;have e1:wrap64 (a1-a0)=a1-a0:=IntWalk.wrap64_in _ om_;have e2:wrap64 (g+b1)=g+b1:=IntWalk.wrap64_in _ om_;have e3:wrap64 (g+b1-b0)=g+b1-b0:=IntWalk.wrap64_in _ om_;have HP:Hid (comP (a0,a1) (b0,b1) g=if max 0 g≤min (a1-a0) (g+b1-b0) then[(sgA (a0+max 0 g),sgA (a0+max 0 g)+min (a1-a0) (g+b1-b0)-max 0 g)] else[]):=hid rfl;obtain⟨L,hL⟩: ∃L,max 0 g=L:=⟨_,rfl⟩;obtain⟨M,hM⟩: ∃M,min (a1-a0) (g+b1-b0)=M:=⟨_,rfl⟩;have hLb:0≤L∧L<21600000:=by omega
      have hMb: -43200000≤M∧M≤21600000:=by omega
      rw[hL,hM] at HP;have KS:=hid (fun W=>SignedA_any (a0+L) W om_ om_);have hsb:=sgA_bd (a0+L);generalize sgA (a0+L)=sg at*;have e4:wrap64 (a0+L)=a0+L:=IntWalk.wrap64_in _ om_;have e5:wrap64 (sg+M)=sg+M:=IntWalk.wrap64_in _ om_;have e6:wrap64 (sg+M-L)=sg+M-L:=IntWalk.wrap64_in _ om_;obtain⟨at1,c0,c1,-,-⟩:=HA.out;obtain⟨bt1,d0,d1,-,-⟩:=HB.out;have hz2:w.heap.size+2≤wr.heap.size:=by have:=HB.out.lt;omega
      have hq0:=index20;have hq1:=index21;have hj01:j=0∨j=1:=by omega
      rcases hj01 with rfl|rfl
      · have hge:f=g:=by have:=HG.out;omega
        subst hge;by_cases hc:L≤M
        · rw[if_pos hc] at HP
          go_wp2_with (go_region);(with_reducible refine(KS.out _).mono ?_)
          rintro e w5 ⟨rfl,hb5⟩
          have hbX:Below wr.heap.size wr w5:=(bl_drew (Below.refl _ _)).trans hb5;have HO5:=hid (own_bl HO.out hbX (Nat.le_refl _));have b5:Below (w.heap.size+2) wr w5:=hbX.mono hz2;have hz5:=b5.size;clear hb5 hbX at1 c0 c1 bt1 d0 d1;go_wp2_with (at_builtin;(refine wpList_append_any _ rfl (.tmp 57) (.tmp 65) _ rfl (w.heap.size+2) 33 i0 _ 2 16 underlying102 hi0 hz0 hz1 hzb rfl dc_ u5 _ _ rfl (HO5.out.alloc _) (w5.heap.size+1) (some ⟨w5.heap.size,0,none⟩) 1 1 (spv (sg,sg+M-L)) rfl (sreads_new w5 _ _ _) (spv_one _) (by simp only[maxLen];omega) om_ (by simp;omega) ?_);intro v6 w6 hown6 hg6 hat6);have b6:=(b5.alloc om_ (.cells #[vi vk sg,vi vk (sg+M-L)] 33)).grown hg6 (by simp;omega) (own_base HO5.out);go_roundw
          case rel=>exact⟨0+1,om_,by go_num,by rw[HC.out,HP.out,spvs_append,List.length_append];exact hown6,HA.out.below b6 om_,HB.out.below b6 om_,hbr.trans (b6.mono om_)⟩
          case measure=>simp[intOf]
        · rw[if_neg hc] at HP
          go_wp2_with (go_region);go_roundw
          case rel=>exact⟨0+1,om_,by go_num,by rw[HC.out,HP.out,List.append_nil];exact HO.out,HA.out.below (B:=w.heap.size+2) (bl_drew (Below.refl _ _)) om_,HB.out.below (B:=w.heap.size+2) (bl_drew (Below.refl _ _)) om_,bl_drew hbr⟩
          case measure=>simp[intOf]
      · have hge:f-21600000=g:=by have:=HG.out;omega
        subst hge;by_cases hc:L≤M
        · rw[if_pos hc] at HP
          go_wp2_with (go_region);(with_reducible refine(KS.out _).mono ?_)
          rintro e w5 ⟨rfl,hb5⟩
          have hbX:Below wr.heap.size wr w5:=(bl_drew (Below.refl _ _)).trans hb5;have HO5:=hid (own_bl HO.out hbX (Nat.le_refl _));have b5:Below (w.heap.size+2) wr w5:=hbX.mono hz2;have hz5:=b5.size;clear hb5 hbX at1 c0 c1 bt1 d0 d1;go_wp2_with (at_builtin;(refine wpList_append_any _ rfl (.tmp 57) (.tmp 65) _ rfl (w.heap.size+2) 33 i0 _ 2 16 underlying102 hi0 hz0 hz1 hzb rfl dc_ u5 _ _ rfl (HO5.out.alloc _) (w5.heap.size+1) (some ⟨w5.heap.size,0,none⟩) 1 1 (spv (sg,sg+M-L)) rfl (sreads_new w5 _ _ _) (spv_one _) (by simp only[maxLen];omega) om_ (by simp;omega) ?_);intro v6 w6 hown6 hg6 hat6);have b6:=(b5.alloc om_ (.cells #[vi vk sg,vi vk (sg+M-L)] 33)).grown hg6 (by simp;omega) (own_base HO5.out);go_roundw
          case rel=>exact⟨1+1,om_,by go_num,by rw[HC.out,HP.out,spvs_append,List.length_append];exact hown6,HA.out.below b6 om_,HB.out.below b6 om_,hbr.trans (b6.mono om_)⟩
          case measure=>simp[intOf]
        · rw[if_neg hc] at HP
          go_wp2_with (go_region);go_roundw
          case rel=>exact⟨1+1,om_,by go_num,by rw[HC.out,HP.out,List.append_nil];exact HO.out,HA.out.below (B:=w.heap.size+2) (bl_drew (Below.refl _ _)) om_,HB.out.below (B:=w.heap.size+2) (bl_drew (Below.refl _ _)) om_,bl_drew hbr⟩
          case measure=>simp[intOf]
abbrev Bx:=Int×Int×Int×Int
def bv(x:Bx):List Value:=[vi vk x.1,vi vk x.2.1,vi vk x.2.2.1,vi vk x.2.2.2]
def bvs(L:List Bx):List Value:=L.flatMap bv
theorem bvs_length(L:List Bx):(bvs L).length=L.length*4:=by
 induction L with
 |nil=>rfl
 |cons x r ih=>simp[bvs,bv] at ih⊢;omega
theorem bvs_append(L M:List Bx):bvs (L++M)=bvs L++bvs M:=by simp[bvs]
theorem bv_one(x:Bx): ∀u∈bv x,u.oneCell'=true:=by
 intro u hu;simp[bv] at hu;rcases hu with rfl|rfl|rfl|rfl<;>rfl
theorem Tryz.infoPlace:(Tryz.prog.info? 46).map (fun i=>(i.zero,i.size,i.bytes))=some (some (.agg #[vi vk 0,vi vk 0,vi vk 0,vi vk 0]),4,32):=by kernel_rfl
def bxI(x:Cl):Bx:=(edg x.2.1 x.1-5400000,edg (x.2.1+1) x.1-5400000,edg x.2.2 x.1-10800000,edg (x.2.2+1) x.1-10800000)
theorem boxV_bx(x:Cl):boxV x.1 x.2.1 x.2.2=.agg #[vi vk (bxI x).1,vi vk (bxI x).2.1,vi vk (bxI x).2.2.1,vi vk (bxI x).2.2.2]:=rfl
theorem breads_new(w:World)(a b c d:Int)(t:TypeId):Reads (w.alloc (.cells #[vi vk a,vi vk b,vi vk c,vi vk d] t)) (w.heap.size+1) 4 (some ⟨w.heap.size,0,none⟩) 1 (bv (a,b,c,d)):=by
 refine⟨rfl,fun _=>⟨_,rfl,by simp,fun j u hu=>?_⟩⟩;match j,hu with
 |0,hu=>simp[bv] at hu;subst hu;simp[Addr.add]
 |1,hu=>simp[bv] at hu;subst hu;simp[Addr.add]
 |2,hu=>simp[bv] at hu;subst hu;simp[Addr.add]
 |3,hu=>simp[bv] at hu;subst hu;simp[Addr.add]
 |j+4,hu=>simp[bv] at hu
theorem bx_take(L:List Cl)(k:Nat)(hk:k<L.length):bvs ((L.take (k+1)).map bxI)=bvs ((L.take k).map bxI)++bv (bxI (gt L k)):=by
 rw[List.take_succ_eq_append_getElem hk,List.map_append,bvs_append];simp[gt,hk,bvs]
def RetBoxes(w:World)(L:List Bx)(n:Int)(e:Ending)(w':World):Prop:=
 ∃v,e=.returned (.tuple #[v,vi vk n])∧w'.ownsRow w.heap.size 46 4 v L.length (bvs L)∧Below w.heap.size w w'
theorem boxes_any(A:Option Addr)(n c:Nat)(L:List Cl)(w:World)(hr:Reads w w.heap.size 3 A n (cvs L))(hn:n≤maxLen):
 Calls Tryz.prog 50 #[.slice A n c] w (RetBoxes w (if vrB L=true then L.map bxI else[]) (if vrB L=true then 0 else 1)):=by
 have HL:=hid hr.len;have HR:=hid hr;have KV:=hid (ValidRegion_any A n c L w hr hn);clear hr;obtain⟨i0,hi0,hz0,hz1,hzb⟩:=info_parts Tryz.infoPlace;cases hv:vrB L with
 |false=>
  rw[hv] at KV;simp only[Bool.false_eq_true,if_false];go_enter func50,ntmps50;go_wp2_with fail;(with_reducible refine KV.out.mono ?_)
  rintro e w1 ⟨rfl,hb1⟩
  go_wp2;exact bodyPost_ret (v:=.tuple #[.slice none 0 0,vi vk 1]) (by simp[results,results50,go_sem]) rfl ⟨_,rfl,own_nil _ _ _ _,hb1⟩
 |true=>
  rw[hv] at KV;have hfew:n≤4000:=by rw[←HL.out];exact((vrB_iff L).1 hv).1
  have HB:Hid (∀k,k<n→ ∀W,Calls Tryz.prog 83 #[.agg #[vi vk (gt L k).1,vi vk (gt L k).2.1,vi vk (gt L k).2.2]] W fun e w'=>e=.returned (.tuple #[.agg #[vi vk (bxI (gt L k)).1,vi vk (bxI (gt L k)).2.1,vi vk (bxI (gt L k)).2.2.1,vi vk (bxI (gt L k)).2.2.2],vi vk 0])∧Below W.heap.size W w'):=hid fun k hk W=>by
   have hk':k<L.length:=by rw[HL.out];exact hk
   have:=Box_yes (gt L k).1 (gt L k).2.1 (gt L k).2.2 W ((vl_iff _).2 (((vrB_iff L).1 hv).2.1 _ (by simp[gt,hk'])));rw[boxV_bx] at this;exact this
  clear hn hv;simp only[if_true];go_enter func50,ntmps50;go_wp2_with fail;(with_reducible refine KV.out.mono ?_)
  rintro e w1 ⟨rfl,hb1⟩
  clear KV;go_wp2;go_loopw [4,14] (fun v i wr=> ∃k:Nat,k≤n∧i=vi vk k∧wr.ownsRow w.heap.size 46 4 v k (bvs ((L.take k).map bxI))∧Below w.heap.size w wr) (fun _ i _=>n-(intOf i).toNat)
  case atStart=>exact⟨0,Nat.zero_le _,rfl,own_nil _ _ _ _,hb1⟩
  case round=>
   obtain⟨k,hk,rfl,hown,hbr⟩:=hrel;clear hb1;by_cases hlt:k<n
   · obtain⟨b,off,rfl,hb,x1,x2,x3⟩:=HR.out.elem hlt
     have y1:=(hbr.cell (p:=⟨b,off+k*3,none⟩) hb).trans x1;have y2:=(hbr.cell (p:=⟨b,off+k*3+1,none⟩) hb).trans x2;have y3:=(hbr.cell (p:=⟨b,off+k*3+2,none⟩) hb).trans x3;clear x1 x2 x3;have hms:=hid (bx_take L k (by rw[HL.out];exact hlt));have hs:=hid (HB.out k hlt);generalize bxI (gt L k)=q at hms hs;generalize gt L k=x at y1 y2 y3 hs;obtain⟨xl,xr,xc⟩:=x;obtain⟨q0,q1,q2,q3⟩:=q;simp only[] at y1 y2 y3 hms hs;have hz:=hbr.size;have HO:=hid hown;clear hown;go_wp2_with fail;(with_reducible refine(hs.out _).mono ?_)
     rintro e w2 ⟨rfl,hb2⟩
     have hw2:=one_lt hb2;have hbl2:=one_bl hb2;have HO2:=hid (own_bl HO.out hbl2 (Nat.le_refl _));have b2:=hbr.trans (hbl2.mono hz);have hz2:=b2.size;clear y1 y2 y3 hb2 HO hbr;go_wp2_with (at_builtin;(refine wpList_append_any _ rfl (.tmp 26) (.tmp 28) _ rfl w.heap.size 46 i0 _ 4 32 underlying87 hi0 hz0 hz1 hzb rfl dc_ u4 k (bvs ((L.take k).map bxI)) rfl ((HO2.out.alloc _).alloc _) (w2.heap.size+1+1) (some ⟨w2.heap.size+1,0,none⟩) 1 1 (bv (q0,q1,q2,q3)) rfl (by simpa using breads_new (w2.alloc (.cells #[vi vk q0,vi vk q1,vi vk q2,vi vk q3] 46)) q0 q1 q2 q3 46) (bv_one _) (by simp only[maxLen];omega) om_ (by simp;omega) ?_);intro v3 w3 hown3 hg3 hat3);go_roundw
     case rel=>exact⟨k+1,om_,by go_num,by rw[hms.out];exact hown3,((b2.alloc hz2 _).alloc (by simp;omega) _).grown hg3 (by simp;omega) (own_base HO2.out)⟩
     case measure=>simp[intOf];omega
   · obtain rfl:k=n:=by omega
     rw[List.take_of_length_le (by rw[HL.out];omega)] at hown;have hlen:(L.map bxI).length=k:=by rw[List.length_map,HL.out]
     have HO:=hid hown;obtain⟨A3,c3,hu3,-,-⟩:=own_form hown;subst hu3;clear hown;go_wp2;exact bodyPost_ret (v:=.tuple #[.slice A3 k c3,vi vk 0]) (by simp[results,results50,go_sem]) rfl ⟨_,rfl,by rw[hlen];exact HO.out,hbr⟩
theorem validLat_yes(x y:Int)(w:World)(h1:x≤y)(h2: -5400000≤x)(h3:y≤5400000):Calls Tryz.prog 165 #[.agg #[vi vk x,vi vk y]] w fun e w'=>e=.returned (.bool true)∧Below w.heap.size w w':=by
 have d3:decide (y≤5400000)=true:=decide_eq_true h3;go_enter func165,ntmps165;go_wp2;all_goals
  go_ret;refine⟨ret_bool (by first|rfl|(simp_all;done)|(simp_all;omega)),?_⟩;exact bl_
theorem validLon_yes(x y:Int)(w:World)(h1:x≤y)(h2: -10800000≤x)(h3:x<10800000)(h4:y-x<21600000):Calls Tryz.prog 166 #[.agg #[vi vk x,vi vk y]] w fun e w'=>e=.returned (.bool true)∧Below w.heap.size w w':=by
 have ha:aeq x y (-10800000) 10800000=false:=by simp[aeq];omega
 have K:=hid (fun W=>all_any x y W);rw[ha] at K;have sy:IntKind.i64.wrap (y-x)=y-x:=IntWalk.i64_in _ om_;clear ha;go_enter func166,ntmps166;go_wp2_with (go_at_call 167;(with_reducible refine(K.out _).mono ?_);rintro e w1 ⟨rfl,hb⟩;have hz:=one_lt hb;have hb1:=one_bl hb;have y1:=(hb.cell (p:=⟨w.heap.size,0,none⟩) (by simp)).trans (show _=some (vi vk x) by simp);have y2:=(hb.cell (p:=⟨w.heap.size,1,none⟩) (by simp)).trans (show _=some (vi vk y) by simp));all_goals
  go_ret;exact⟨ret_bool (by first|rfl|(simp_all;done)|(simp_all;omega)),hb1⟩
def inBox(b0 b1 b2 b3 a b:Int):Bool:=decide (b0≤a∧a≤b1)&&(decide (a=5400000)||decide (a= -5400000)||lonIn b2 b3 b)
end Go.Proofs.YtdeiofgddhbdaaaGreatDoor
