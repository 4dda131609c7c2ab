/- The walk of the reference's part of layer 39. -/
import Derived.Test.YtdeiofgddhbdaaaGreatDoorHAm
set_option linter.unusedSimpArgs false
set_option linter.unusedVariables false
set_option maxHeartbeats 4000000
set_option maxRecDepth 100000
open Go.RowKit
open Go.Lib (hid)
open Go.Proofs.Tryz
open Go.Value renaming int→vi
open Go.IntKind renaming i64→vk
namespace Go.Proofs.YtdeiofgddhbdaaaGreatDoor
theorem PtAt.put{W:World}{g n:Nat}{f:Nat→Nat}(h:PtAt W g n f)(j v:Nat)(hj:j<n)(u:Int)(hu:u=(v:Int)):PtAt (W.setCell ⟨g,j,none⟩ (vi vk u)) g n (PQ.upd f j v):=by
 rw[hu];exact h.set j v hj
def pickL(L:List Cl)(pt:Nat→Nat)(v m:Nat):List Cl:=((List.range m).filter (fun j=>pt j=v)).map (gt L)
theorem pickL_yes{L:List Cl}{pt:Nat→Nat}{v m:Nat}(h:pt m=v):pickL L pt v (m+1)=pickL L pt v m++[gt L m]:=by
 unfold pickL;rw[List.range_succ,List.filter_append,List.map_append];simp[h]
theorem pickL_no{L:List Cl}{pt:Nat→Nat}{v m:Nat}(h:pt m≠v):pickL L pt v (m+1)=pickL L pt v m:=by
 unfold pickL;rw[List.range_succ,List.filter_append,List.map_append];simp[h]
theorem pickL_len(L:List Cl)(pt:Nat→Nat)(v m:Nat):(pickL L pt v m).length≤m:=by
 unfold pickL;rw[List.length_map];exact Nat.le_trans (List.length_filter_le _ _) (by simp)
theorem refParts_any(A:Option Addr)(n c:Nat)(L:List Cl)(w:World)(hr:Reads w w.heap.size 3 A n (cvs L))(hn:n≤4000)(hV: ∀x∈L,Vl x):
 Calls Tryz.prog 32 #[.slice A n c] w fun e w'=> ∃v vs,e=.returned v∧Rws w' w.heap.size v (partsL L) vs∧Below w.heap.size w w':=by
 have HL:=hid hr.len;have HR:=hid hr;have HV:Hid (∀k,k<n→Vl (gt L k)):=hid fun k hk=>hV _ (by
  have hk':k<L.length:=by rw[HL.out];exact hk
  simp[gt,hk'])
 obtain⟨C,hC⟩: ∃C,PQ.cl (tL L) n=C:=⟨_,rfl⟩;have HCC:Hid (PQ.IsC C∧PQ.Cls (tL L) n C):=hid (by rw[←hC];exact PQ.cl_ok (tL_sym L n) n (Nat.le_refl _));have HTC:Hid (∀x y,x<n→y<n→tL L x y=true→C x=C y):=hid (by rw[←hC];exact fun x y hx hy ht=>PQ.cl_touch (tL_sym L n) hx hy ht);have HRP:Hid (partsL L=(PQ.prtR C n n).map fun P=>P.map (gt L)):=hid (by unfold partsL partsI;rw[HL.out,hC];rfl);obtain⟨R,hRR⟩: ∃R,partsL L=R:=⟨_,rfl⟩;rw[hRR] at HRP⊢;clear hr hV hC hRR;obtain⟨iI,hiI,hzI,hz1I,hzbI⟩: ∃i0,Tryz.prog.info? 3=some i0∧i0.zero=some (vi vk 0)∧i0.size=1∧i0.bytes=8:=by
  have h:(Tryz.prog.info? 3).map (fun i=>(i.zero,i.size,i.bytes))=some (some (vi vk 0),1,8):=by kernel_rfl
  obtain⟨i0,a,b,c,d⟩:=info_parts h;exact⟨i0,a,b,c,d⟩
 obtain⟨iC,hiC,hzC,hz1C,hzbC⟩:=info_parts Tryz.infoCell;obtain⟨iS,hiS,hzS,hz1S,hzbS⟩: ∃i0,Tryz.prog.info? 22=some i0∧i0.zero=some (.slice none 0 0)∧i0.size=1∧i0.bytes=24:=by
  have h:(Tryz.prog.info? 22).map (fun i=>(i.zero,i.size,i.bytes))=some (some (.slice none 0 0),1,24):=by kernel_rfl
  obtain⟨i0,a,b,c,d⟩:=info_parts h;exact⟨i0,a,b,c,d⟩
 have hmk: ∀W,(Instr.makeSlice 98 (vi vk (n:Int)) (vi vk (n:Int))).run Tryz.prog W=.ok (.slice (some ⟨W.heap.size,0,none⟩) n n) (W.alloc (.cells (madeCells #[vi vk 0] n) 3)):=fun W=>by
  have h:=run_make (P:=Tryz.prog) W 98 3 iI _ underlying98 hiI hzI .i64 .i64 n n om_ (Int.le_refl _) (by rw[hzbI];omega) om_;rw[hz1I,Int.toNat_natCast,Nat.mul_one] at h;exact h
 have R0:=hid (PtAt.made w n 3);have D0:=hid (bl_alloc w (.cells (madeCells #[vi vk 0] n) 3));go_enter func32,ntmps32;go_wp2;clear hmk;go_loopg [4,5] n (fun gg s4 s5 wq=> ∃(i:Nat) (pt:Nat→Nat) (vs:List Value),i+gg=n∧s5=vi vk i∧PtAt wq w.heap.size n pt∧PQ.Bef C n i pt∧Rws wq (w.heap.size+1) s4 ((PQ.prtR C n i).map fun P=>P.map (gt L)) vs∧Below w.heap.size w wq)
 case atStart=>exact⟨0,fun _=>0,[],om_,rfl,R0.out,PQ.Bef.zero,Rws.nil _ _,D0.out⟩
 case round=>
  obtain⟨i,pt,vs,hi,rfl,hP,hB,hO,hb⟩:=hrel;clear R0 D0;have HP:=hid hP;have HB:=hid hB;have HO:=hid hO;have HBL:=hid hb;clear hP hB hO hb;by_cases hlt:i<n
  · have hpos:=PQ.Bef.pos HB.out HCC.out.1 hlt
    have x0:=HP.out.cell i hlt;have f0:=HP.out.fr i hlt;by_cases hci:C i=i
    · have hp0:pt i=0:=by
       rcases Nat.eq_zero_or_pos (pt i) with e|e
       · exact e
       · exact absurd hci (hpos.1 e)
      rw[hp0] at x0;clear hpos hp0;obtain⟨r,hrr⟩: ∃r,PQ.rnk C i=r:=⟨_,rfl⟩;have HRK:=hid hrr;have hr4:r≤4000:=by have:=PQ.rnk_le C i;omega
      obtain⟨LL,hLL⟩: ∃LL,(PQ.prtR C n i).map (fun P=>P.map (gt L))=LL:=⟨_,rfl⟩;have HLN:Hid (LL.length=r):=hid (by rw[←hLL,List.length_map,PQ.prtR_len,hrr]);rw[hLL] at HO;have HLL:=hid hLL;have HCI:=hid hci;obtain⟨A4,c4,hv4,-,-,-⟩:=own_form HO.out.row;rw[HLN.out] at hv4;subst hv4;clear hrr hLL hci;have hwl:=HP.out.lt;obtain⟨W1,hW1⟩: ∃W1,wr.setCell ⟨w.heap.size,i,none⟩ (vi vk ((r:Int)+1))=W1:=⟨_,rfl⟩;have hg1:wr.grownBy W1 (some w.heap.size):=by rw[←hW1];exact grown_set2 (World.grownBy.refl _ _)
      have hz1:W1.heap.size=wr.heap.size:=by rw[←hW1];simp
      have P1:=hid ((HP.out.put i (r+1) hlt ((r:Int)+1) om_));rw[hW1] at P1;have O1:=hid (HO.out.kept hg1 (fun q e=>by cases e;omega));have BL1:=hid (HBL.out.grown hg1 HBL.out.size (fun q e=>by cases e;exact Nat.le_refl _));have S1:Hid (SSt W1 (W1.alloc (.cells #[vi vk (i:Int)] 3)) w.heap.size n C (tL L) i (PQ.upd pt i (r+1)) (some ⟨W1.heap.size,0,none⟩) 1 1 [i] 0 n):=hid ⟨P1.out.below (bl_alloc W1 _) P1.out.lt,Que.one (Nat.le_refl _) (by simp) (by simp) (by simp),grown_bl (World.grownBy.refl _ _) (bl_alloc W1 _) (Nat.le_refl _),by have:=PQ.Bef.start (t:=tL L) HB.out hlt HCI.out;rw[HRK.out] at this;exact this⟩;clear HP HB HO HBL P1;go_wp2;clear x0 f0 hW1 hg1;go_loopg [6] (1+PQ.unm (PQ.upd pt i (r+1)) n) (fun gg s6 wq=> ∃(pt':Nat→Nat) (A':Option Addr) (nT cT:Nat) (T:List Nat) (k:Nat),nT+PQ.unm pt' n=gg∧gg≤4001∧s6=.slice A' nT cT∧SSt W1 wq w.heap.size n C (tL L) i pt' A' nT cT T k n)
      case atStart=>exact⟨_,_,1,1,[i],0,rfl,by have:=PQ.unm_le (PQ.upd pt i (r+1)) n;omega,by rw[hz1],S1.out⟩
      case round=>
       obtain⟨pt',A',nT,cT,T,k,hgg,hG,rfl,hS⟩:=hrel;clear S1;have HS:=hid hS;clear hS;have hlen:=HS.out.q.len;obtain⟨gv,hgv⟩: ∃gv,nT+PQ.unm pt' n=gv:=⟨_,rfl⟩;cases T with
       |nil=>
        obtain rfl:nT=0:=hlen.symm;have HBd:=hid (HS.out.fl.done HCC.out.1 HCC.out.2 HTC.out);have HPd:=hid HS.out.row;have HOd:=hid (O1.out.kept HS.out.g (fun q e=>by cases e;omega));have HLd:=hid (BL1.out.grown HS.out.g BL1.out.size (fun q e=>by cases e;exact Nat.le_refl _));have HPC:Hid (pickL L pt' (r+1) n=((List.range n).filter (fun j=>C j=i)).map (gt L)):=hid (by
         have:=PQ.Bef.part HBd.out HCC.out.1 HCI.out;rw[HRK.out] at this;unfold pickL;rw[this])
        clear HS O1 BL1 hgg hG hgv;generalize wr=Wd at*;go_wp2;go_loopg [9,10] n (fun gg s9 s10 wq=> ∃(m:Nat),m+gg=n∧s10=vi vk m∧wq.ownsRow Wd.heap.size 58 3 s9 (pickL L pt' (r+1) m).length (cvs (pickL L pt' (r+1) m))∧Below Wd.heap.size Wd wq)
        case atStart=>exact⟨0,om_,rfl,own_nil _ _ _ _,Below.refl _ _⟩
        case round=>
         obtain⟨m,hm,rfl,hown,hbd⟩:=hrel;have HOW:=hid hown;have HBD:=hid hbd;clear hown hbd;by_cases hmn:m<n
         · have x0:=(HPd.out.below HBD.out HPd.out.lt).cell m hmn
           by_cases hpm:pt' m=r+1
           · rw[hpm,show(((r+1:Nat):Int))=(r:Int)+1 by omega] at x0
             have HPK:=hid (pickL_yes (L:=L) hpm);have hpl:=pickL_len L pt' (r+1) m;obtain⟨b,off,hA,hb,z1,z2,z3⟩:=HR.out.elem hmn;have hbs:=HLd.out.size;subst hA;have y1:=(HBD.out.cell (p:=⟨b,off+m*3,none⟩) so_).trans ((HLd.out.cell (p:=⟨b,off+m*3,none⟩) hb).trans z1);have y2:=(HBD.out.cell (p:=⟨b,off+m*3+1,none⟩) so_).trans ((HLd.out.cell (p:=⟨b,off+m*3+1,none⟩) hb).trans z2);have y3:=(HBD.out.cell (p:=⟨b,off+m*3+2,none⟩) so_).trans ((HLd.out.cell (p:=⟨b,off+m*3+2,none⟩) hb).trans z3);clear z1 z2 z3;obtain⟨X,hX⟩: ∃X,gt L m=X:=⟨_,rfl⟩;rw[hX] at y1 y2 y3 HPK;clear hX;obtain⟨cl,cr,cc⟩:=X;simp only[] at y1 y2 y3;obtain⟨PL,hPL⟩: ∃PL,pickL L pt' (r+1) m=PL:=⟨_,rfl⟩;rw[hPL] at HPK HOW hpl;clear hPL;obtain⟨N,hN⟩: ∃N,PL.length=N:=⟨_,rfl⟩;rw[hN] at HOW hpl;have HN:=hid hN;clear hN;have hzd:=HBD.out.size;go_wp2_with (at_builtin;first
              |(refine wpList_append_any _ rfl (.tmp 87) (.tmp 92) _ rfl Wd.heap.size 58 iC _ 3 24 underlying22 hiC hzC hz1C hzbC rfl dc_ _ N (cvs PL) rfl (HOW.out.alloc _) (wr.heap.size+1) (some ⟨wr.heap.size,0,none⟩) 1 1 (cv (cl,cr,cc)) rfl (reads_new wr _ _ _ _) (cv_one _) (by simp only[maxLen];omega) om_ (by simp;omega) ?_;intro v7 w7 hown7 hg7 hat7;have b7:=((HBD.out.alloc hzd (.cells #[vi vk cl,vi vk cr,vi vk cc] 58)).grown hg7 (by simp;omega) (own_base HOW.out)))
              |fail)
             go_roundg (n-(m+1))
             case measure=>omega
             case rel=>
              refine⟨m+1,om_,by go_num,?_,b7⟩;rw[HPK.out,List.length_append,HN.out,cvs_append];simpa [cvs] using hown7
           · have d0:(((pt' m:Nat):Int)==(r:Int)+1)=false:=by simp;omega
             have HPK:=hid (pickL_no (L:=L) hpm);clear hpm;go_wp2;go_roundg (n-(m+1))
             case measure=>omega
             case rel=>exact⟨m+1,om_,by go_num,by rw[HPK.out];exact HOW.out,HBD.out⟩
         · obtain rfl:m=n:=by omega
           rw[HPC.out] at HOW;obtain⟨M,hM⟩: ∃M,((List.range m).filter (fun j=>C j=i)).map (gt L)=M:=⟨_,rfl⟩;rw[hM] at HOW;have HLP:Hid ((PQ.prtR C m (i+1)).map (fun P=>P.map (gt L))=LL++[M]):=hid (by rw[PQ.prtR_new HCI.out,List.map_append,HLL.out,←hM];rfl);have hml:M.length≤m:=by rw[←hM,List.length_map];exact Nat.le_trans (List.length_filter_le _ _) (by simp)
           obtain⟨A9,c9,hv9,-,-,-⟩:=own_form HOW.out;subst hv9;have HQ:=hid (HOd.out.bl (HBD.out.mono (Nat.le_refl _)));have HQR:Hid (wr.ownsRow (w.heap.size+1) 22 1 (.slice A4 r c4) r vs):=hid (by have:=HQ.out.row;rw[HLN.out] at this;exact this);have hzd:=HBD.out.size;have hzp:=HPd.out.lt;clear hM hmn hm;obtain⟨N,hN⟩: ∃N,M.length=N:=⟨_,rfl⟩;have HN:=hid hN;rw[hN] at HOW;simp only[hN];clear hN hml;go_wp2_with (at_builtin;first
            |(refine wpList_append_any _ rfl (.tmp 94) (.tmp 96) _ rfl (w.heap.size+1) 22 iS _ 1 24 underlying59 hiS hzS hz1S hzbS rfl dc_ (.slice A4 r c4) r vs rfl (HQR.out.alloc _) (wr.heap.size+1) (some ⟨wr.heap.size,0,none⟩) 1 1 [.slice A9 N c9] rfl (reads1_new wr _ _) (by simp[Value.oneCell']) (by simp only[maxLen];omega) om_ (by simp;omega) ?_;intro v8 w8 hown8 hg8 hat8)
            |fail)
           have hQ8:=HQ.out.alloc (.cells #[.slice A9 N c9] 22);have hu:=own_grown' (HOW.out.alloc (.cells #[.slice A9 N c9] 22)) hg8 (fun q hq e=>own_own_ne (HQR.out.alloc (.cells #[.slice A9 N c9] 22)) (HOW.out.alloc (.cells #[.slice A9 N c9] 22)) tne e hq);have b8:=(HBD.out.alloc hzd (.cells #[.slice A9 N c9] 22)).mono (show w.heap.size+1≤Wd.heap.size by omega);have b9:=b8.grown hg8 (by simp;omega) (own_base HQR.out);go_roundg (m-(i+1))
           case measure=>omega
           case rel=>
            refine⟨i+1,pt',vs++[.slice A9 N c9],om_,by go_num,HPd.out.below b9 om_,HBd.out,?_,HLd.out.trans (b9.mono om_)⟩;rw[HLP.out];refine hQ8.snoc hg8 (by rw[HLN.out];exact hown8) (by rw[HN.out];exact own_mono hu om_) (fun k u' hk q hq e=>?_);have h1:=own_lt' (HOd.out.one k u' hk) hq;have h2:=own_base HOW.out q e;omega
       |cons k1 T1=>
        simp only[List.length_cons] at hlen;obtain⟨gq,d,rfl,hgq,h0⟩:=HS.out.q.head;obtain⟨hk1,hck1,-⟩:=HS.out.fl.todo k1 (List.mem_cons_self ..);have hle:=HS.out.q.le;obtain⟨A2,hA2⟩: ∃A2:Option Addr,(if cT=1 then some ⟨gq,d,none⟩ else some ⟨gq,d+1,none⟩)=A2:=⟨_,rfl⟩;have hsl: ∀W,(Instr.slice 98 (.slice (some ⟨gq,d,none⟩) nT cT) (some (vi vk 1)) none none).run Tryz.prog W=.ok (.slice A2 (nT-1) (cT-1)) W:=fun W=>by
         rw[run_slice_l W 98 (some ⟨gq,d,none⟩) nT cT underlying98 .i64 1 dc_ om_];simp[go_sem,←hA2,Addr.add]
        have S2:Hid (SSt W1 wr w.heap.size n C (tL L) i pt' A2 (nT-1) (cT-1) T1 k1 0):=hid ⟨HS.out.row,HS.out.q.tail (fun h=>by rw[←hA2,if_neg h]),HS.out.g,HS.out.fl.pop'⟩;have hnT:0<nT:=by omega
        have hgg2:nT-1+PQ.unm pt' n=gv-1:=by omega
        clear HS hlen hA2 hle;have hG2:gv≤4001:=by omega
        have HGV:=hid (hgg.symm.trans hgv);clear hgg hG;obtain⟨G2,hG3⟩: ∃G2,gv-1=G2:=⟨_,rfl⟩;rw[hG3] at hgg2;have hG4:G2<gv:=by omega
        clear hG3;go_wp2;clear h0 hsl;go_loopg [6,8] n (fun gm s6 s8 wq=> ∃(m:Nat) (pt':Nat→Nat) (A':Option Addr) (nT cT:Nat) (T:List Nat),m+gm=n∧s8=vi vk m∧nT+PQ.unm pt' n=G2∧s6=.slice A' nT cT∧SSt W1 wq w.heap.size n C (tL L) i pt' A' nT cT T k1 m)
        case atStart=>exact⟨0,pt',A2,_,_,T1,om_,rfl,hgg2,rfl,S2.out⟩
        case round=>
         clear S2 hgg2;obtain⟨m,p2,A3,n3,c3,T3,hm,rfl,hG5,rfl,hS⟩:=hrel;have HS:=hid hS;clear hS;by_cases hmn:m<n
         · have x0:=HS.out.row.cell m hmn
           have hb:=HS.out.row.lt;by_cases hpm:p2 m=0
           · rw[hpm] at x0
             have HU:=hid (PQ.unm_upd (v:=r+1) hmn hpm om_);have HPM:=hid hpm;have HBW:=hid (BL1.out.grown HS.out.g BL1.out.size (fun q e=>by cases e;exact Nat.le_refl _));obtain⟨b,off,hA,hbb,z1,z2,z3⟩:=HR.out.elem hk1;obtain⟨b',off',hA',-,u1,u2,u3⟩:=HR.out.elem hmn;subst hA;cases hA'
             have hbw:b<wr.heap.size:=by have:=HBW.out.size;omega
             have Z1:=(HBW.out.cell (p:=⟨b,off+k1*3,none⟩) hbb).trans z1;have Z2:=(HBW.out.cell (p:=⟨b,off+k1*3+1,none⟩) hbb).trans z2;have Z3:=(HBW.out.cell (p:=⟨b,off+k1*3+2,none⟩) hbb).trans z3;have U1:=(HBW.out.cell (p:=⟨b,off+m*3,none⟩) hbb).trans u1;have U2:=(HBW.out.cell (p:=⟨b,off+m*3+1,none⟩) hbb).trans u2;have U3:=(HBW.out.cell (p:=⟨b,off+m*3+2,none⟩) hbb).trans u3;clear z1 z2 z3 u1 u2 u3;have KT:=hid (fun W=>Touch_any (gt L k1) (gt L m) (HV.out k1 hk1) (HV.out m hmn) W);have HTL:Hid (tL L k1 m=tchB (bxI (gt L k1)) (bxI (gt L m))):=hid rfl;rw[←HTL.out] at KT;clear HTL;generalize (gt L k1).1=k0 at*;generalize (gt L k1).2.1=k2 at*;generalize (gt L k1).2.2=k3 at*;generalize (gt L m).1=m0 at*;generalize (gt L m).2.1=m2 at*;generalize (gt L m).2.2=m3 at*;obtain⟨T,hT⟩: ∃T,tL L k1 m=T:=⟨_,rfl⟩;rw[hT] at KT;have HTT:=hid hT;clear hT hpm;go_upto_region 15 with (fail)
             have d0: ∀s:BV wr,s.w.cell? ⟨w.heap.size,m,none⟩=some (vi vk ((0:Nat):Int)):=fun s=>(s.hb.cell (p:=⟨w.heap.size,m,none⟩) hb).trans x0;have c0: ∀s:BV wr,s.w.cell? ⟨b,off+k1*3,none⟩=some (vi vk k0):=fun s=>(s.hb.cell (p:=⟨b,off+k1*3,none⟩) hbw).trans Z1;have c1: ∀s:BV wr,s.w.cell? ⟨b,off+k1*3+1,none⟩=some (vi vk k2):=fun s=>(s.hb.cell (p:=⟨b,off+k1*3+1,none⟩) hbw).trans Z2;have c2: ∀s:BV wr,s.w.cell? ⟨b,off+k1*3+2,none⟩=some (vi vk k3):=fun s=>(s.hb.cell (p:=⟨b,off+k1*3+2,none⟩) hbw).trans Z3;have c4: ∀s:BV wr,s.w.cell? ⟨b,off+m*3,none⟩=some (vi vk m0):=fun s=>(s.hb.cell (p:=⟨b,off+m*3,none⟩) hbw).trans U1;have c5: ∀s:BV wr,s.w.cell? ⟨b,off+m*3+1,none⟩=some (vi vk m2):=fun s=>(s.hb.cell (p:=⟨b,off+m*3+1,none⟩) hbw).trans U2;have c6: ∀s:BV wr,s.w.cell? ⟨b,off+m*3+2,none⟩=some (vi vk m3):=fun s=>(s.hb.cell (p:=⟨b,off+m*3+2,none⟩) hbw).trans U3;clear x0 Z1 Z2 Z3 U1 U2 U3;refine wp_region_bv wr (by kernel_rfl) (by kernel_rfl) (Below.refl _ _) ?_;(repeat (go_big_quiet_step (first|(go_at_call 66;with_reducible exact quiet_bv (KT.out _))|fail)))
             refine wpQuiet_nil ?_;intro w9 hb9;clear c0 c1 c2 c4 c5 c6 d0;have S9:=hid (HS.out.bl hb9);clear HS hb9 hbw hbb hb HBW;cases T with
             |false=>
              go_wp2;go_roundg (n-(m+1))
              case measure=>omega
              case rel=>exact⟨m+1,p2,A3,n3,c3,T3,om_,by go_num,hG5,rfl,S9.out.no (fun h=>by have:=h.2;rw[HTT.out] at this;cases this)⟩
             |true=>
              have x0:=S9.out.row.cell m hmn;have f0:=S9.out.row.fr m hmn;have hb9:=S9.out.row.lt;have hz9:=S9.out.g.size;obtain⟨W9,hW9⟩: ∃W9,w9.setCell ⟨w.heap.size,m,none⟩ (vi vk ((r:Int)+1))=W9:=⟨_,rfl⟩;have HZ9:Hid (W9.heap.size=w9.heap.size):=hid (by rw[←hW9];simp);have P9:=S9.out.row.put m (r+1) hmn ((r:Int)+1) om_;have Q9:=S9.out.q.set (q:=w.heap.size) (o:=m) om_ (vi vk ((r:Int)+1));have G9:=grown_set2 (o:=m) (v:=vi vk ((r:Int)+1)) S9.out.g;rw[hW9] at P9 Q9 G9;have P9:=hid P9;have Q9:=hid (Q9.bl (bl_alloc W9 (.cells #[vi vk (m:Int)] 3)));have G9:=hid G9;have hn3:n3≤100000:=by omega
              go_wp2_with (at_builtin;first
               |(refine wpList_que _ rfl (.tmp 69) (.tmp 71) 98 rfl 3 iI underlying98 hiI hzI hz1I hzbI Q9.out W9.heap.size m 1 rfl rfl (by simp) (by have:=HZ9.out;simp;omega) hn3 ?_;intro A7 c7 W7 hq7 hb7)
               |fail)
              go_roundg (n-(m+1))
              case measure=>omega
              case rel=>
               have hz99:=HZ9.out;refine⟨m+1,PQ.upd p2 m (r+1),A7,n3+1,c7,T3++[m],om_,by go_num,by have:=HU.out;omega,rfl,⟨(P9.out.below (bl_alloc W9 _) P9.out.lt).below hb7 om_,hq7,grown_bl (grown_bl G9.out (bl_alloc W9 _) om_) hb7 (Nat.le_refl _),?_⟩⟩;have:=S9.out.fl.yes hk1 hck1 hmn HTC.out HPM.out HTT.out;rw[HRK.out] at this;exact this
           · have nb:(((p2 m:Nat):Int)==0)=false:=by simp;omega
             go_upto_region 15 with (fail)
             have d0: ∀s:BV wr,s.w.cell? ⟨w.heap.size,m,none⟩=some (vi vk ((p2 m:Nat):Int)):=fun s=>(s.hb.cell (p:=⟨w.heap.size,m,none⟩) hb).trans x0;clear x0;refine wp_region_bv wr (by kernel_rfl) (by kernel_rfl) (Below.refl _ _) ?_;(repeat (go_big_quiet_step (fail)))
             refine wpQuiet_nil ?_;intro w9 hb9;clear d0;go_wp2;go_roundg (n-(m+1))
             case measure=>omega
             case rel=>exact⟨m+1,p2,A3,n3,c3,T3,om_,by go_num,hG5,rfl,(HS.out.bl hb9).no (fun h=>hpm h.1)⟩
         · obtain rfl:m=n:=by omega
           go_wp2;go_roundg G2
           case measure=>have:=HGV.out;omega
           case rel=>exact⟨p2,A3,n3,c3,T3,k1,hG5,om_,rfl,HS.out⟩
    · have hgt:(0:Int)<((pt i:Nat):Int):=by have:=hpos.2 hci;omega
      have HPR:=hid (PQ.prtR_old (n:=n) hci);have HCI:=hid hci;clear hpos hci;go_wp2;go_roundg (n-(i+1))
      case measure=>omega
      case rel=>exact⟨i+1,pt,vs,om_,by go_num,HP.out,HB.out.skip HCI.out HCC.out.1,by rw[HPR.out];exact HO.out,HBL.out⟩
  · obtain rfl:i=n:=by omega
    have hres:=HRP.out;rw[←hres] at HO;obtain⟨A4,c4,hv4,-,-,-⟩:=own_form HO.out.row;subst hv4;clear hres;go_wp2;go_ret;exact⟨_,vs,rfl,HO.out.mono om_,HBL.out⟩
structure K3(W:World)(g:Nat)(x:Cl):Prop where
 lt:g<W.heap.size
 c0:W.cell? ⟨g,0,none⟩=some (vi vk x.1)
 c1:W.cell? ⟨g,1,none⟩=some (vi vk x.2.1)
 c2:W.cell? ⟨g,2,none⟩=some (vi vk x.2.2)
section
open Canon
def prt(ag su:Cl→Bool)(lev:Int):Nat→Cl→List Cl
 |0,c=>if ag c=true then[c] else[]
 |f+1,c=>if ag c=true then(if lev≤c.1∨su c=true then[c] else(kidsC c).flatMap (prt ag su lev f)) else[]
def prn(ag su:Cl→Bool)(lev:Int):Nat→Cl→Nat
 |0,_=>1
 |f+1,c=>if ag c=true then(if lev≤c.1∨su c=true then 1 else 1+((kidsC c).map (prn ag su lev f)).sum) else 1
theorem kid_one{c:Cl}{f:Nat}(hl:c.1+((f+1:Nat):Int)=16): ∀x∈kidsC c,x.1+(f:Int)=16∧x.1=c.1+1:=by
 intro x hx;simp only[kidsC,kids,List.mem_cons,List.not_mem_nil,or_false] at hx;rcases hx with rfl|rfl|rfl|rfl<;>exact⟨so_,rfl⟩
theorem prt_v{ag su:Cl→Bool}{lev:Int}(h16:lev≤16): ∀(f:Nat) (c:Cl),Vl c→c.1+(f:Int)=16→AllV (prt ag su lev f c)∧(∀q,covL (prt ag su lev f c) q→covL [c] q)∧(prt ag su lev f c).length≤prn ag su lev f c∧ ∀x∈prt ag su lev f c,x.1≤max lev c.1:=by
 have one: ∀c:Cl,Vl c→AllV [c]:=fun c hc x hx=>by simp at hx;subst hx;exact hc
 intro f;induction f with
 |zero=>
  intro c hc hl;unfold prt prn;split
  · exact⟨one c hc,fun q h=>h,Nat.le_refl _,fun x hx=>by simp at hx;subst hx;omega⟩
  · exact⟨fun x hx=>(by cases hx),fun q h=>(by obtain⟨x,hx,-⟩:=h;cases hx),Nat.zero_le _,fun x hx=>(by cases hx)⟩
 |succ f ih=>
  intro c hc hl;unfold prt prn;split
  · split
    · exact⟨one c hc,fun q h=>h,Nat.le_refl _,fun x hx=>by simp at hx;subst hx;omega⟩
    · rename_i hs
      have hlt:c.1<16:=by omega
      have hkv:=kids_vl hc hlt;have hkl:=kid_one hl;have hlc:c.1<lev:=by
       have: ¬lev≤c.1:=fun h=>hs (.inl h);omega
      refine⟨fun x hx=>?_,fun q h=>?_,?_,fun x hx=>?_⟩
      · obtain⟨y,hy,hxy⟩:=List.mem_flatMap.1 hx
        exact(ih y (hkv y hy) (hkl y hy).1).1 x hxy
      · obtain⟨x,hx,hq⟩:=h
        obtain⟨y,hy,hxy⟩:=List.mem_flatMap.1 hx;have:=(ih y (hkv y hy) (hkl y hy).1).2.1 q ⟨x,hxy,hq⟩;rw[←cov_kids hc hlt];rw[cov_one] at this;exact⟨y,hy,this⟩
      · have key: ∀K:List Cl,(∀y∈K,y∈kidsC c)→(K.flatMap (prt ag su lev f)).length≤(K.map (prn ag su lev f)).sum:=by
         intro K;induction K with
         |nil=>intro _;simp
         |cons y K ihK=>
          intro hK;have h1:=(ih y (hkv y (hK y (by simp))) (hkl y (hK y (by simp))).1).2.2.1;have h2:=ihK (fun z hz=>hK z (by simp[hz]));simp only[List.flatMap_cons,List.length_append,List.map_cons,List.sum_cons];omega
        have:=key (kidsC c) (fun _ h=>h);omega
      · obtain⟨y,hy,hxy⟩:=List.mem_flatMap.1 hx
        have h1:=(ih y (hkv y hy) (hkl y hy).1).2.2.2 x hxy;have h2:=(hkl y hy).2;omega
  · exact⟨fun x hx=>(by cases hx),fun q h=>(by obtain⟨x,hx,-⟩:=h;cases hx),Nat.zero_le _,fun x hx=>(by cases hx)⟩
def cellAt(q j:Nat):Cl:=cellB (16-j,q/4^(16-j))
theorem cov_div(c:Cl)(q:Nat):covL [c] q↔q/4^(blkOf c).1=(blkOf c).2:=by
 have hp:0<4^(blkOf c).1:=Nat.pow_pos om_;rw[cov_one,spF_blk,spT_blk];constructor
 · rintro⟨h1,h2⟩
   exact Nat.div_eq_of_lt_le h1 h2
 · intro h
   rw[←h];exact⟨Nat.div_mul_le_self _ _,by rw[Nat.mul_comm];exact Nat.lt_mul_div_succ q hp⟩
theorem cov_at{c:Cl}(hc:Vl c){q:Nat}(h:covL [c] q):c=cellAt q c.1.toNat:=by
 rw[cov_div] at h;have e:=cellB_blkOf c hc;unfold cellAt;have:(16-c.1.toNat)=(blkOf c).1:=rfl;rw[this,h,e]
theorem at_kid{c:Cl}(hc:Vl c)(h:c.1<16){q:Nat}(hq:covL [c] q):cellAt q (c.1.toNat+1)∈kidsC c∧covL [cellAt q (c.1.toNat+1)] q∧ ∀x∈kidsC c,covL [x] q→x=cellAt q (c.1.toNat+1):=by
 have key: ∀x∈kidsC c,covL [x] q→x=cellAt q (c.1.toNat+1):=by
  intro x hx hxq;have e:=cov_at (kids_vl hc h x hx) hxq;have h0:=hc.l0;have:x.1.toNat=c.1.toNat+1:=by
   simp only[kidsC,kids,List.mem_cons,List.not_mem_nil,or_false] at hx;rcases hx with rfl|rfl|rfl|rfl<;>(simp only[];omega)
  rw[this] at e;exact e
 obtain⟨x,hx,hxq⟩:=(cov_kids hc h q).2 hq;have hxq:=(cov_one x q).2 hxq;have e:=key x hx hxq;rw[←e];exact⟨hx,hxq,fun y hy hyq=>by rw[e];exact key y hy hyq⟩
def gop(ag su:Cl→Bool)(lev:Int)(q:Nat):Nat→Nat→Prop
 |0,j=>ag (cellAt q j)=true
 |f+1,j=>ag (cellAt q j)=true∧((lev≤(j:Int)∨su (cellAt q j)=true)∨gop ag su lev q f (j+1))
theorem can_great{X:List Cl}{y z:Cl}(hy:y∈canonC (covL X))(hyv:Vl y)(hz:Vl z){q0:Nat}(h1:covL [y] q0)(h2:covL [z] q0)(hf: ∀q,covL [z] q→covL X q):y.1≤z.1:=by
 by_cases hlt:z.1<y.1
 · exfalso
   have hm: ∃i,(blkOf y)∈canon (covL X) 16 i:=by
    unfold canonC at hy;obtain⟨b,hb,e⟩:=List.mem_map.1 hy;have hb16:b.1≤16:=by
     rcases List.mem_append.1 hb with h|h
     · exact((mem_canon (covL X) 16 0 b.1 b.2).1 h).1
     · exact((mem_canon (covL X) 16 1 b.1 b.2).1 h).1
    rw[←e,blkOf_cellB b hb16];rcases List.mem_append.1 hb with h|h
    · exact⟨0,h⟩
    · exact⟨1,h⟩
   obtain⟨i,hm⟩:=hm;obtain⟨m1,m2,m3,m4⟩:=(mem_canon (covL X) 16 i (blkOf y).1 (blkOf y).2).1 hm;have hb:=blk_lt z hz;have y0:=hyv.l0;have y1:=hyv.l1;have z0:=hz.l0;have e1:(blkOf y).1=16-y.1.toNat:=rfl;have e2:(blkOf z).1=16-z.1.toNat:=rfl;have hkh:(blkOf y).1+1≤(blkOf z).1:=by omega
   rw[cov_div] at h1 h2;have hfull:full (covL X) (blkOf z).1 (blkOf z).2:=by
    intro q g1 g2;exact hf q ((cov_one z q).2 ⟨g1,g2⟩)
   rcases m4 with m4|m4
   · omega
   · refine m4 (full_sub hfull hkh ?_)
     rw[←h1,←h2,Nat.div_div_eq_div_mul,Nat.mul_comm 4,←Nat.pow_succ,Nat.div_div_eq_div_mul,←Nat.pow_add];congr 2
     omega
 · omega
theorem prt_leaf{ag su:Cl→Bool}{lev:Int}(h16:lev≤16){c:Cl}(hc:Vl c)(ha:ag c=true)(hs:lev≤c.1∨su c=true)(f:Nat):prt ag su lev f c=[c]:=by
 cases f with
 |zero=>unfold prt;rw[if_pos ha]
 |succ f=>unfold prt;rw[if_pos ha,if_pos hs]
theorem way{ag su:Cl→Bool}{lev:Int}(h16:lev≤16){X:List Cl}(hX:AllV X){y:Cl}(hy:y∈canonC (covL X)){q:Nat}(hyq:covL [y] q)(hqX: ∀q,covL [y] q→covL X q): ∀(f:Nat) (c:Cl),Vl c→c.1+(f:Int)=16→covL [c] q→c.1≤y.1→(∀q,covL [c] q→(covL X q↔covL (prt ag su lev f c) q))→
 ∃g:Nat,y.1+(g:Int)=16∧(∀q',covL [y] q'→(∀lev':Int,lev≤lev'→(gop ag su lev' q' f c.1.toNat↔gop ag su lev' q' g y.1.toNat)))∧(∀lev':Int,lev≤lev'→prn ag su lev' g y≤prn ag su lev' f c)∧(y.1≤max lev c.1):=by
 have hyv:=can_v X hX y hy;intro f;induction f with
 |zero=>
  intro c hc hl hq hle hcov;have e:y.1=c.1:=by have:=hyv.l1;omega
  have e2:y=c:=by rw[cov_at hyv hyq,cov_at hc hq,e]
  subst e2;exact⟨0,hl,fun _ _ _ _=>Iff.rfl,fun _ _=>Nat.le_refl _,om_⟩
 |succ f ih=>
  intro c hc hl hq hle hcov;by_cases e:y.1=c.1
  · have e2:y=c:=by rw[cov_at hyv hyq,cov_at hc hq,e]
    subst e2;exact⟨f+1,hl,fun _ _ _ _=>Iff.rfl,fun _ _=>Nat.le_refl _,om_⟩
  · have hlt:c.1<16:=by omega
    have h0:=hc.l0;have hin:=(hcov q hq).1 (hqX q hyq);have ha:ag c=true:=by
     by_cases ha:ag c=true
     · exact ha
     · unfold prt at hin
       rw[if_neg ha] at hin;obtain⟨x,hx,-⟩:=hin;cases hx
    have hs: ¬(lev≤c.1∨su c=true):=by
     intro hs;have hfull: ∀q,covL [c] q→covL X q:=by
      intro q' hq';rw[hcov q' hq',prt_leaf h16 hc ha hs];exact hq'
     have:=can_great hy hyv hc hyq hq hfull;omega
    obtain⟨k1,k2,k3⟩:=at_kid hc hlt hq;generalize hd:cellAt q (c.1.toNat+1)=d at k1 k2 k3;have hdv:=kids_vl hc hlt d k1;have hdf:=kid_one hl d k1;obtain⟨g,g1,g2,g3,g4⟩:=ih d hdv hdf.1 k2 om_ (by
     intro q' hq';have hq'c:covL [c] q':=(cov_kids hc hlt q').1 ⟨d,k1,(cov_one d q').1 hq'⟩;rw[hcov q' hq'c];conv=>lhs;unfold prt
     rw[if_pos ha,if_neg hs];obtain⟨-,-,j3⟩:=at_kid hc hlt hq'c;have ed:=j3 d k1 hq';constructor
     · rintro⟨x,hx,hxq⟩
       obtain⟨z,hz,hxz⟩:=List.mem_flatMap.1 hx;have hzq:=(prt_v h16 f z (kids_vl hc hlt z hz) (kid_one hl z hz).1).2.1 q' ⟨x,hxz,hxq⟩;have:=j3 z hz hzq;rw[←ed] at this;subst this;exact⟨x,hxz,hxq⟩
     · rintro⟨x,hx,hxq⟩
       exact⟨x,List.mem_flatMap.2 ⟨d,k1,hx⟩,hxq⟩)
    have hlc: ¬lev≤c.1:=fun h=>hs (.inl h);have hsu: ¬su c=true:=fun h=>hs (.inr h);refine⟨g,g1,fun q' hq' lev' hl'=>?_,fun lev' hl'=>?_,om_⟩
    · rw[←g2 q' hq' lev' hl']
      have hq'd:covL [d] q':=by
       have hlt2:d.1≤y.1:=by omega
       rw[cov_div] at hq' hyq k2⊢;have b1:(blkOf y).1≤(blkOf d).1:=by
        show 16-y.1.toNat≤16-d.1.toNat
        have:=hyv.l0;omega
       rw[←k2,show(blkOf d).1=(blkOf y).1+((blkOf d).1-(blkOf y).1) by omega,Nat.pow_add,←Nat.div_div_eq_div_mul,←Nat.div_div_eq_div_mul,hq',hyq]
      have hq'c:covL [c] q':=(cov_kids hc hlt q').1 ⟨d,k1,(cov_one d q').1 hq'd⟩;have e1:cellAt q' c.1.toNat=c:=(cov_at hc hq'c).symm;have e3:d.1.toNat=c.1.toNat+1:=by omega
      conv=>lhs;unfold gop
      rw[e1,e3];constructor
      · rintro⟨-,(h|h)|h⟩
        · exfalso;omega
        · exact absurd h hsu
        · exact h
      · intro h;exact⟨ha,.inr h⟩
    · refine Nat.le_trans (g3 lev' hl') ?_
      conv=>rhs;unfold prn
      rw[if_pos ha,if_neg (by rintro(h|h); · omega
                              · exact hsu h)]
      have key: ∀K:List Cl,d∈K→prn ag su lev' f d≤(K.map (prn ag su lev' f)).sum:=by
       intro K;induction K with
       |nil=>intro h;cases h
       |cons z K ihK=>
        intro h;simp only[List.map_cons,List.sum_cons];rcases List.mem_cons.1 h with rfl|h
        · omega
        · have:=ihK h;omega
      have:=key _ k1;omega
end
theorem r5Valid_any(lo hi:Int)(w:World):Calls Tryz.prog 13 #[.agg #[vi vk lo,vi vk hi]] w fun e w'=>e=.returned (.bool (avB lo hi))∧Below w.heap.size w w':=by
 have e:avB lo hi=(decide (lo≤hi)&&decide (-1099511627776≤lo)&&decide (hi≤1099511627776)):=by
  unfold avB;rw[Bool.eq_iff_iff];simp only[Bool.and_eq_true,decide_eq_true_eq];omega
 rw[e];cases d1:decide (lo≤hi)<;>cases d2:decide (-1099511627776≤lo)<;>cases d3:decide (hi≤1099511627776)
 all_goals
  go_enter func13,ntmps13;go_wp2;go_ret;refine⟨rfl,?_⟩;exact bl_
theorem Hull_any(a b c d:Int)(w:World):Calls Tryz.prog 62 #[.agg #[vi vk a,vi vk b],.agg #[vi vk c,vi vk d]] w fun e w'=>e=.returned (.agg #[vi vk (min a c),vi vk (max b d)])∧Below w.heap.size w w':=by
 by_cases h1:c<a<;>by_cases h2:b<d
 · have e1:min a c=c:=by omega
   have e2:max b d=d:=by omega
   rw[e1,e2];go_enter func62,ntmps62;go_wp2;refine bodyPost_ret (v:=.agg #[vi vk c,vi vk d]) (by simp[results,results62,go_sem, *];done) rfl ⟨rfl,?_⟩;exact bl_
 · have e1:min a c=c:=by omega
   have e2:max b d=b:=by omega
   rw[e1,e2];go_enter func62,ntmps62;go_wp2;refine bodyPost_ret (v:=.agg #[vi vk c,vi vk b]) (by simp[results,results62,go_sem, *];done) rfl ⟨rfl,?_⟩;exact bl_
 · have e1:min a c=a:=by omega
   have e2:max b d=d:=by omega
   rw[e1,e2];go_enter func62,ntmps62;go_wp2;refine bodyPost_ret (v:=.agg #[vi vk a,vi vk d]) (by simp[results,results62,go_sem, *];done) rfl ⟨rfl,?_⟩;exact bl_
 · have e1:min a c=a:=by omega
   have e2:max b d=b:=by omega
   rw[e1,e2];go_enter func62,ntmps62;go_wp2;refine bodyPost_ret (v:=.agg #[vi vk a,vi vk b]) (by simp[results,results62,go_sem, *];done) rfl ⟨rfl,?_⟩;exact bl_
namespace Trig
theorem ex_angle{a:Int}(h0: -5400000≤a)(h1:a≤5400000)(he:loB a=hiB a):a= -5400000∨a= -1800000∨a=0∨a=1800000∨a=5400000:=by
 have key: ∀n:Int,sF n=upF n→exN n=true:=by
  intro n h;unfold upF at h;cases e:exN n with
  |true=>rfl
  |false=>rw[e] at h;simp at h;omega
 have exq: ∀n:Int,0≤n→n≤5400000→exN n=true→n=0∨n=1800000∨n=5400000:=by
  intro n n0 n1 h;unfold exN at h;simp at h;omega
 by_cases c:0≤a
 · have e:sth a=false:=by unfold sth;rw[decide_eq_false_iff_not];omega
   have q:qrt a=a:=by unfold qrt;omega
   unfold loB hiB at he;rw[e,q] at he;have:=exq a c h1 (key a (by simpa using he));omega
 · have e:sth a=true:=by unfold sth;rw[decide_eq_true_eq];omega
   have q:qrt a= -a:=by unfold qrt;omega
   unfold loB hiB at he;rw[e,q] at he;have:=exq (-a) om_ om_ (key (-a) (by simp at he;omega));omega
theorem lo_ex:loB (-5400000)= -1073741824∧loB (-1800000)= -536870912∧loB 0=0∧loB 1800000=536870912∧loB 5400000=1073741824:=by decide+kernel
theorem asn_order{v u:Int}(h:v≤u)(h0: -1073741824≤v)(h1:u≤1073741824):asnV v≤ -asnV (-u):=by
 have a:=asnV_is (v:=v) h0;have b:=asnV_is (v:= -u) om_;generalize asnV v=r at*;generalize asnV (-u)=t at*;rcases Int.lt_or_le (-t) r with c|c
 · have a0:=a.lo
   have a1:=a.hi;have b0:=b.lo;have b1:=b.hi;have e1:=hiB_neg (n:= -t) om_ om_;rw[Int.neg_neg] at e1;have e2:=loB_mono (a:= -t) (b:=r) om_ om_ om_;have e3:=hiB_mono (a:= -t) (b:=r) om_ om_ om_;have e4:=(hi_le r).2.2.2.2;have e5:=(hi_le (-t)).2.2.2.2;have a2:=a.le;have b2:=b.le;have x1:=ex_angle (a:=r) om_ om_ om_;have x2:=ex_angle (a:= -t) om_ om_ om_;have hv:loB r=loB (-t):=by omega
   obtain⟨v1,v2,v3,v4,v5⟩:=lo_ex;rcases x1 with g|g|g|g|g<;>rcases x2 with k|k|k|k|k
   all_goals (rw[g,k] at hv;omega)
 · exact c
theorem asn_arc{s:Int×Int}(hs:s.1≤s.2)(h1:s.1≤1073741824)(h2: -1073741824≤s.2):asnV (max s.1 (-1073741824))≤ -asnV (-(min s.2 1073741824)):=
 asn_order om_ om_ om_
end Trig
end Go.Proofs.YtdeiofgddhbdaaaGreatDoor
