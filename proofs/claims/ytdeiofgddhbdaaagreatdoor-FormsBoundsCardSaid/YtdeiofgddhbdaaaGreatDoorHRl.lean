/- Plain: what is known of the bounds, the centre, and the reach of a region. No program in sight. -/
import Derived.Lib.SliceRun
import Derived.Test.YtdeiofgddhbdaaaGreatDoorHHp
set_option linter.unusedSimpArgs false
set_option linter.unusedVariables false
set_option maxHeartbeats 4000000
set_option maxRecDepth 100000
open Go.RowKit
open Go.Lib (hid)
open Go.Proofs.Tryz
open Go.Value renaming int→vi
open Go.IntKind renaming i64→vk
namespace Go.Proofs.YtdeiofgddhbdaaaGreatDoor
section
def VTo(L:List Cl)(k:Nat):Prop:= ∀i,i<k→vldB (gt L i).1 (gt L i).2.1 (gt L i).2.2=true
theorem VTo.zero(L:List Cl):VTo L 0:=fun i h=>by omega
theorem VTo.succ{L:List Cl}{k:Nat}(h:VTo L k)(hk:vldB (gt L k).1 (gt L k).2.1 (gt L k).2.2=true):VTo L (k+1):=fun i hi=>by
 by_cases e:i=k
 · subst e;exact hk
 · exact h i om_
theorem VTo.good{L:List Cl}(h:VTo L L.length):badL L=false:=by
 unfold badL;rw[List.any_eq_false];intro x hx;obtain⟨i,hi,rfl⟩:=List.mem_iff_getElem.1 hx;have:=h i hi;simp only[gt,List.getD_eq_getElem?_getD,hi,getElem?_pos,Option.getD_some] at this;rw[this];simp
theorem bad_at{L:List Cl}{k:Nat}(hk:k<L.length)(h:vldB (gt L k).1 (gt L k).2.1 (gt L k).2.2=false):rvrB L=false:=by
 have:badL L=true:=by
  unfold badL;rw[List.any_eq_true];exact⟨gt L k,gt_mem L k hk,by rw[h];rfl⟩
 unfold rvrB;rw[this];simp
theorem PairsTo.one(L:List Cl):PairsTo L 1:=fun i h=>by omega
theorem PairsTo.succ{L:List Cl}{j:Nat}(h:PairsTo L (j+1))(hk:pairOk (gt L j) (gt L (j+1))=true):PairsTo L (j+2):=fun i hi=>by
 by_cases e:i=j
 · subst e;exact hk
 · exact h i om_
theorem FoursTo.three(L:List Cl):FoursTo L 3:=fun i h=>by omega
theorem FoursTo.succ{L:List Cl}{j:Nat}(h:FoursTo L (j+3))(hk:fourOk (gt L j) (gt L (j+1)) (gt L (j+2)) (gt L (j+3))=true):FoursTo L (j+4):=fun i hi=>by
 by_cases e:i=j
 · subst e;exact hk
 · exact h i om_
theorem pairs_no{L:List Cl}{j:Nat}(hj:j+1<L.length)(h:pairOk (gt L j) (gt L (j+1))=false):rvrB L=false:=by
 have: ¬PairsTo L L.length:=fun hp=>by
  have:=hp j hj;rw[h] at this;exact Bool.noConfusion this
 unfold rvrB;simp[this]
theorem fours_no{L:List Cl}{j:Nat}(hj:j+3<L.length)(h:fourOk (gt L j) (gt L (j+1)) (gt L (j+2)) (gt L (j+3))=false):rvrB L=false:=by
 have: ¬FoursTo L L.length:=fun hp=>by
  have:=hp j hj;rw[h] at this;exact Bool.noConfusion this
 unfold rvrB;simp[this]
theorem rvr_long{L:List Cl}(h:4000<L.length):rvrB L=false:=by
 unfold rvrB;have: ¬L.length≤4000:=by omega
 simp[this]
theorem rvr_yes{L:List Cl}(h:L.length≤4000)(h1:VTo L L.length)(h2:PairsTo L L.length)(h3:FoursTo L L.length):rvrB L=true:=by
 unfold rvrB;simp[h,h1.good,h2,h3]
theorem PairsTo.less{L:List Cl}{k j:Nat}(h:PairsTo L k)(hj:j≤k):PairsTo L j:=fun i hi=>h i om_
theorem FoursTo.less{L:List Cl}{k j:Nat}(h:FoursTo L k)(hj:j≤k):FoursTo L j:=fun i hi=>h i om_
structure BW(w0:World) where
 w:World
 hb:Below w0.heap.size w0 w
instance bwSome (w0:World):Nonempty (BW w0):=⟨⟨w0,Below.refl _ _⟩⟩
theorem wp_region_bw{P:Program}{id:Nat}{Q:Exit→Act→World→Prop}{a:Act}{w:World}{l:List Oper}(w0:World)(hm:P.follows .mixedOrders=true)(hB:Region.lexB .any l.toArray=true)(h0:Below w0.heap.size w0 w)
 (h:wpQuiet P l.toArray (fun w'=> ∃s:BW w0,w'=s.w) (fun a'=> ∀w9,Below w0.heap.size w0 w9→Q .normal a' w9) l a):(Code.region id l.toArray true).wp P Q a w:=by
 have e:(fun a'=> ∀w9,Below w0.heap.size w0 w9→Q .normal a' w9)=(fun a':Act=> ∀w',(∃s:BW w0,w'=s.w)→Q .normal a' w'):=
  funext fun a'=>propext ⟨fun h w' ⟨s,hs⟩=>hs▸h s.w s.hb,fun h w9 hb=>h w9 ⟨⟨w9,hb⟩,rfl⟩⟩
 rw[e] at h;exact wp_region_quiet (C:=fun w'=> ∃s:BW w0,w'=s.w) hm hB ⟨⟨_,bl_drew h0⟩,rfl⟩ (by simpa using h)
theorem quiet_bw{P:Program}{f:FuncId}{args:Array Value}{w0:World}{s:BW w0}{v:Value}(h:Calls P f args s.w fun e w'=>e=.returned v∧Below s.w.heap.size s.w w'):
 Calls P f args s.w fun e w''=>e=.returned v∧ ∃s':BW w0,w''=s'.w:=
 h.mono fun _ w' ⟨he,hb⟩=>⟨he,⟨w',s.hb.trans (hb.mono s.hb.size)⟩,rfl⟩
theorem pw_le{l:Int}(h:l≤16):pw l≤65536:=by
 unfold pw;have h1:l.toNat≤16:=by omega
 have h2:=Nat.pow_le_pow_right (show 0<2 by omega) h1;have h3:((2^l.toNat:Nat):Int)≤((2^16:Nat):Int):=Int.ofNat_le.2 h2;simpa using h3
theorem reads_four{w:World}{B b off n j:Nat}{L:List Cl}(h:Reads w B 3 (some ⟨b,off,none⟩) n (cvs L))(hj:j+3<n):
 Reads w B 3 (some ⟨b,off+j*3,none⟩) 4 (cvs [gt L j,gt L (j+1),gt L (j+2),gt L (j+3)]):=by
 obtain⟨_,_,e,hb,a0,a1,a2⟩:=h.elem (k:=j) om_;cases e
 obtain⟨_,_,e,_,b0,b1,b2⟩:=h.elem (k:=j+1) om_;cases e
 obtain⟨_,_,e,_,c0,c1,c2⟩:=h.elem (k:=j+2) om_;cases e
 obtain⟨_,_,e,_,d0,d1,d2⟩:=h.elem (k:=j+3) om_;cases e
 have e1:off+(j+1)*3=off+j*3+3:=by omega
 have e2:off+(j+2)*3=off+j*3+6:=by omega
 have e3:off+(j+3)*3=off+j*3+9:=by omega
 rw[e1] at b0 b1 b2;rw[e2] at c0 c1 c2;rw[e3] at d0 d1 d2;generalize gt L j=x at*;generalize gt L (j+1)=y at*;generalize gt L (j+2)=z at*;generalize gt L (j+3)=u at*;refine⟨rfl,fun _=>⟨_,rfl,hb,fun i v hv=>?_⟩⟩;rw[Go.WideShapes.add_plain];match i,hv with
 |0,hv=>cases hv;exact a0
 |1,hv=>cases hv;exact a1
 |2,hv=>cases hv;exact a2
 |3,hv=>cases hv;exact b0
 |4,hv=>cases hv;exact b1
 |5,hv=>cases hv;exact b2
 |6,hv=>cases hv;exact c0
 |7,hv=>cases hv;exact c1
 |8,hv=>cases hv;exact c2
 |9,hv=>cases hv;exact d0
 |10,hv=>cases hv;exact d1
 |11,hv=>cases hv;exact d2
 |i+12,hv=>cases hv
theorem refVR_any(A:Option Addr)(n ca:Nat)(L:List Cl)(w:World)(hr:Reads w w.heap.size 3 A n (cvs L))(hn:n≤ca)(hca:ca≤maxLen):
 Calls Tryz.prog 17 #[.slice A n ca] w fun e w'=>e=.returned (.bool (rvrB L))∧Below w.heap.size w w':=by
 have hl:=hr.len;unfold maxLen at hca;obtain⟨R,hR⟩: ∃R,R=rvrB L:=⟨_,rfl⟩;rw[←hR];have HR:=hid hR;have HL:=hid hl;have RD:=hid hr;clear hR hl hr;by_cases hbig:4000<n
 · have e1:=hid (rvr_long (L:=L) (by rw[HL.out];exact hbig))
   go_enter func17,ntmps17;go_wp2;go_ret;exact⟨ret_bool (by rw[HR.out,e1.out]),Below.refl _ _⟩
 · go_enter func17,ntmps17
   go_wp2;go_loopw [3] (fun i wr=> ∃k:Nat,k≤n∧i=vi vk k∧VTo L k∧Below w.heap.size w wr) (fun i _=>n-(intOf i).toNat)
   case atStart=>exact⟨0,Nat.zero_le _,rfl,VTo.zero L,Below.refl _ _⟩
   case round=>
    obtain⟨k,hk,rfl,hV,hbr⟩:=hrel;have zr:=hbr.size;by_cases hlt:k<n
    · have hR2:=RD.out.below hbr
      obtain⟨b,off,rfl,hb,x1,x2,x3⟩:=hR2.elem hlt;have hkl:k<L.length:=by rw[HL.out];exact hlt
      have y1:=hid (fun h=>VTo.succ hV h);have y2:=hid (bad_at hkl);clear hR2;generalize gt L k=y at x1 x2 x3 y1 y2;obtain⟨ya,yb,yc⟩:=y;simp only[] at x1 x2 x3 y1 y2;have V:=hid (fun W=>refValid_any ya yb yc W);cases hv:vldB ya yb yc with
      |true=>
       have h3:=hid (y1.out hv);rw[hv] at V;clear y1 y2 hv;go_wp2_with (go_at_call 46;(with_reducible refine(V.out _).mono ?_);rintro e w1 ⟨rfl,hb1⟩);go_roundw
       case rel=>exact⟨k+1,om_,by go_num,h3.out,hbr.trans (hb1.mono zr)⟩
       case measure=>simp[intOf];omega
      |false=>
       have h3:=hid (y2.out hv);rw[hv] at V;clear y1 y2 hv;go_wp2_with (go_at_call 46;(with_reducible refine(V.out _).mono ?_);rintro e w1 ⟨rfl,hb1⟩);go_ret;exact⟨ret_bool (by rw[HR.out,h3.out]),hbr.trans (hb1.mono zr)⟩
    · have hkn:k=n:=by omega
      have hV':VTo L L.length:=by rw[HL.out];exact hkn▸hV
      have HV:=hid hV';have HBr:=hid hbr;clear hV hV' hbr hkn hk;go_wp2;go_loopw [4] (fun i wr2=> ∃k j:Nat,k=j+1∧i=vi vk k∧PairsTo L k∧Below w.heap.size w wr2) (fun i _=>n+1-(intOf i).toNat)
      case atStart=>exact⟨1,0,rfl,rfl,PairsTo.one L,HBr.out⟩
      case round=>
       clear HBr hlt zr;obtain⟨k,j,hkj,rfl,hP,hbr⟩:=hrel;have zr:=hbr.size;by_cases hlt:k<n
       · have hj:j<n:=by omega
         obtain⟨b,off,rfl,hb,x1,x2,x3⟩:=RD.out.elem hj;obtain⟨b',off',e',_,y1,y2,y3⟩:=RD.out.elem hlt;cases e'
         have hvx:=HV.out j (by rw[HL.out];omega);have hvy:=HV.out k (by rw[HL.out];omega);have p1:Hid (pairOk (gt L j) (gt L k)=true→PairsTo L (k+1)):=hid (by subst hkj;exact fun h=>PairsTo.succ hP h);have p2:Hid (pairOk (gt L j) (gt L k)=false→rvrB L=false):=hid (by subst hkj;exact pairs_no (by rw[HL.out];omega));clear hP;generalize gt L j=x at x1 x2 x3 hvx p1 p2;generalize gt L k=y at y1 y2 y3 hvy p1 p2;obtain⟨xa,xb,xc⟩:=x;obtain⟨ya,yb,yc⟩:=y;simp only[] at x1 x2 x3 y1 y2 y3 hvx hvy;obtain⟨vx0,vx1,-⟩:=vldB_true.1 hvx;obtain⟨vy0,vy1,-⟩:=vldB_true.1 hvy;have W1:=hid (fun W=>Within_any ya yb yc xa xb xc W vy0 vy1 vx0 vx1);have W2:=hid (fun W=>Within_any xa xb xc ya yb yc W vx0 vx1 vy0 vy1);have W3:=hid (fun W=>before_any xa xb xc ya yb yc W vx0 vx1 vy0 vy1);clear hvx hvy vx0 vx1 vy0 vy1;have SJ:Hid (IntKind.i64.wrap ((k:Int)-1)=(j:Int)):=hid ((IntWalk.i64_in _ om_).trans om_);clear hkj;have cx1: ∀s:BW w,s.w.cell? ⟨b,off+j*3,none⟩=some (vi vk xa):=fun s=>(s.hb.cell (p:=⟨b,off+j*3,none⟩) hb).trans x1;have cx2: ∀s:BW w,s.w.cell? ⟨b,off+j*3+1,none⟩=some (vi vk xb):=fun s=>(s.hb.cell (p:=⟨b,off+j*3+1,none⟩) hb).trans x2;have cx3: ∀s:BW w,s.w.cell? ⟨b,off+j*3+2,none⟩=some (vi vk xc):=fun s=>(s.hb.cell (p:=⟨b,off+j*3+2,none⟩) hb).trans x3;have cy1: ∀s:BW w,s.w.cell? ⟨b,off+k*3,none⟩=some (vi vk ya):=fun s=>(s.hb.cell (p:=⟨b,off+k*3,none⟩) hb).trans y1;have cy2: ∀s:BW w,s.w.cell? ⟨b,off+k*3+1,none⟩=some (vi vk yb):=fun s=>(s.hb.cell (p:=⟨b,off+k*3+1,none⟩) hb).trans y2;have cy3: ∀s:BW w,s.w.cell? ⟨b,off+k*3+2,none⟩=some (vi vk yc):=fun s=>(s.hb.cell (p:=⟨b,off+k*3+2,none⟩) hb).trans y3;clear x1 x2 x3 y1 y2 y3;go_upto_region 11 with (fail)
         have sj:=SJ.out;cases c1:wiB (ya,yb,yc) (xa,xb,xc) with
         |true=>
          have h3:=hid (p2.out (by simp[pairOk,c1]));rw[c1] at W1;clear p1 p2 c1;refine wp_region_bw w (by kernel_rfl) (by kernel_rfl) hbr ?_;(repeat (go_big_quiet_step (first|(go_at_call 47;with_reducible exact quiet_bw (W1.out _))|(go_at_call 47;with_reducible exact quiet_bw (W2.out _))|(go_at_call 48;with_reducible exact quiet_bw (W3.out _))|fail)))
          refine wpQuiet_nil ?_;intro w9 hb9;clear sj cx1 cx2 cx3 cy1 cy2 cy3 SJ W1 W2 W3 hbr zr;go_wp2;go_ret;exact⟨ret_bool (by rw[HR.out,h3.out]),hb9⟩
         |false=>
          rw[c1] at W1;cases c2:wiB (xa,xb,xc) (ya,yb,yc) with
          |true=>
           have h3:=hid (p2.out (by simp[pairOk,c2]));rw[c2] at W2;clear p1 p2 c1 c2;refine wp_region_bw w (by kernel_rfl) (by kernel_rfl) hbr ?_;(repeat (go_big_quiet_step (first|(go_at_call 47;with_reducible exact quiet_bw (W1.out _))|(go_at_call 47;with_reducible exact quiet_bw (W2.out _))|(go_at_call 48;with_reducible exact quiet_bw (W3.out _))|fail)))
           refine wpQuiet_nil ?_;intro w9 hb9;clear sj cx1 cx2 cx3 cy1 cy2 cy3 SJ W1 W2 W3 hbr zr;go_wp2;go_ret;exact⟨ret_bool (by rw[HR.out,h3.out]),hb9⟩
          |false=>
           rw[c2] at W2;cases c3:befB (xa,xb,xc) (ya,yb,yc) with
           |false=>
            have h3:=hid (p2.out (by simp[pairOk,c3]));rw[c3] at W3;clear p1 p2 c1 c2 c3;refine wp_region_bw w (by kernel_rfl) (by kernel_rfl) hbr ?_;(repeat (go_big_quiet_step (first|(go_at_call 47;with_reducible exact quiet_bw (W1.out _))|(go_at_call 47;with_reducible exact quiet_bw (W2.out _))|(go_at_call 48;with_reducible exact quiet_bw (W3.out _))|fail)))
            refine wpQuiet_nil ?_;intro w9 hb9;clear sj cx1 cx2 cx3 cy1 cy2 cy3 SJ W1 W2 W3 hbr zr;go_wp2;go_ret;exact⟨ret_bool (by rw[HR.out,h3.out]),hb9⟩
           |true=>
            have h3:=hid (p1.out (by simp[pairOk,c1,c2,c3]));rw[c3] at W3;clear p1 p2 c1 c2 c3;refine wp_region_bw w (by kernel_rfl) (by kernel_rfl) hbr ?_;(repeat (go_big_quiet_step (first|(go_at_call 47;with_reducible exact quiet_bw (W1.out _))|(go_at_call 47;with_reducible exact quiet_bw (W2.out _))|(go_at_call 48;with_reducible exact quiet_bw (W3.out _))|fail)))
            refine wpQuiet_nil ?_;intro w9 hb9;clear sj cx1 cx2 cx3 cy1 cy2 cy3 SJ W1 W2 W3 hbr zr;go_wp2;go_roundw
            case rel=>exact⟨k+1,k,rfl,by go_num,h3.out,hb9⟩
            case measure=>simp[intOf];omega
       · have hP':PairsTo L L.length:=by rw[HL.out];exact hP.less om_
         have HP:=hid hP';have HBr:=hid hbr;clear hP hP' hbr hkj;go_wp2;go_loopw [5] (fun i wr2=> ∃k j:Nat,k=j+3∧i=vi vk k∧FoursTo L k∧Below w.heap.size w wr2) (fun i _=>n+3-(intOf i).toNat)
         case atStart=>exact⟨3,0,rfl,rfl,FoursTo.three L,HBr.out⟩
         case round=>
          clear HBr hlt zr;obtain⟨k,j,hkj,rfl,hF,hbr⟩:=hrel;have zr:=hbr.size;by_cases hlt:k<n
          · have hR2:=RD.out.below hbr
            have hj:j+3<n:=by omega
            obtain⟨b,off,rfl,hb,u1,u2,u3⟩:=hR2.elem hlt;have R4:=hid (fun(W:World) (hW:Below w.heap.size w W)=>((reads_four (RD.out.below hW) hj).more hW.size));have hvx:=HV.out j (by rw[HL.out];omega);have f1:Hid (fourOk (gt L j) (gt L (j+1)) (gt L (j+2)) (gt L k)=true→FoursTo L (k+1)):=hid (by subst hkj;exact fun h=>FoursTo.succ hF h);have f2:Hid (fourOk (gt L j) (gt L (j+1)) (gt L (j+2)) (gt L k)=false→rvrB L=false):=hid (by subst hkj;exact fours_no (by rw[HL.out];omega));rw[←hkj] at R4;clear hR2 hF;generalize gt L k=u at u1 u2 u3 R4 f1 f2;generalize gt L j=x at hvx R4 f1 f2;generalize gt L (j+1)=y at R4 f1 f2;generalize gt L (j+2)=z at R4 f1 f2;obtain⟨ua,ub,uc⟩:=u;obtain⟨xa,xb,xc⟩:=x;simp only[] at u1 u2 u3 hvx;have blt:=Nat.lt_of_lt_of_le hb zr;have B4:=hid (fun(W:World) (hW:Below w.heap.size w W) (c:Nat)=>by
             obtain⟨g0,g1,g2,g3,g4,g5⟩:=vldB_true.1 hvx;have gp:=pw_le g1;exact brothers_any (some ⟨b,off+j*3,none⟩) c xa xb xc y z (ua,ub,uc) W (R4.out W hW) g0 g1 g2 om_ g4 om_)
            clear R4 hvx;have hlo:(k:Int)-3=(j:Int):=by omega
            have hl4:k+1-j=4:=by omega
            have hjk:(j:Int)≤(k:Int)+1:=by omega
            have hkc:(k:Int)+1≤(ca:Int):=by omega
            have HKJ:=hid hkj;clear hkj;by_cases hpos:0<ua
            · cases hb4:broB (xa,xb,xc) y z (ua,ub,uc) with
              |true=>
               have h3:=hid (f2.out (by simp[fourOk,hpos,hb4]));rw[hb4] at B4;clear f1 f2;go_wp2_with fail;(with_reducible refine(B4.out _ hbr _).mono ?_)
               rintro e w9 ⟨rfl,hb9⟩
               go_wp2;go_ret;exact⟨ret_bool (by rw[HR.out,h3.out]),hbr.trans (hb9.mono zr)⟩
              |false=>
               have h3:=hid (f1.out (by simp[fourOk,hb4]));rw[hb4] at B4;clear f1 f2;go_wp2_with fail;(with_reducible refine(B4.out _ hbr _).mono ?_)
               rintro e w9 ⟨rfl,hb9⟩
               clear hlo hl4 hjk hkc;go_wp2;go_roundw
               case rel=>exact⟨k+1,j+1,by have:=HKJ.out;omega,by go_num,h3.out,hbr.trans (hb9.mono zr)⟩
               case measure=>simp[intOf];omega
            · have h3:=hid (f1.out (by simp[fourOk,hpos]))
              clear f1 f2 hlo hl4 hjk hkc;go_wp2;go_roundw
              case rel=>exact⟨k+1,j+1,by have:=HKJ.out;omega,by go_num,h3.out,hbr⟩
              case measure=>simp[intOf];omega
          · have h3:R=true:=by
             rw[HR.out];exact rvr_yes (by rw[HL.out];omega) HV.out HP.out (by rw[HL.out];exact hF.less om_)
            have H3:=hid h3;clear h3 hF hkj;go_wp2;go_ret;exact⟨ret_bool (by rw[H3.out]),hbr⟩
end
def t39:List Cl:=[(1,0,1),(1,1,1),(1,0,2),(1,1,2)]
theorem latF_in(D:List Bx): ∀(k:Nat),k≤D.length→ ∀i,i<k→(latF D k).1≤(gb D i).1∧(gb D i).2.1≤(latF D k).2:=by
 intro k;induction k with
 |zero=>intro _ i hi;omega
 |succ k ih=>
  intro hk i hi;rw[latF_succ D k om_];simp only[];by_cases h:i<k
  · have:=ih om_ i h
    omega
  · have:i=k:=by omega
    subst this;omega
theorem bst_rarn{L:List Cl}(hv: ∀x∈L,Vl x):Bst (Beg (lons (L.map bxI)) (lons (L.map bxI)).length) (fun x=>wdt (lons (L.map bxI)) x (lons (L.map bxI)).length) (rarn (lons (L.map bxI))):=
 rarn_bst (okC_bx hv) _ (Nat.le_refl _)
theorem rarn_vl{L:List Cl}(hv: ∀x∈L,Vl x):VL (rarn (lons (L.map bxI))):=by
 have h:=bst_rarn hv;have hC:=okC_bx hv;generalize lons (L.map bxI)=D at*;generalize rarn D=s at*;rcases h with ⟨-,h2⟩|⟨⟨i,hi,h1⟩,h2,h3,-⟩
 · subst h2;exact .inl ⟨rfl,rfl⟩
 · have:=hC _ (gs_mem hi)
   have hw:=((wdt_all D s.1 (wdt D s.1 D.length)).1 (Int.le_refl _)).1;simp only[] at h2 h3;exact .inr ⟨om_,om_,om_,om_⟩
theorem bnd_vp{L:List Cl}(hv: ∀x∈L,Vl x)(h0:0<L.length):VP (bndV L):=by
 have hb:=bnd_bd hv h0;have h1:=latF_in (L.map bxI) L.length (by simp) 0 h0;have h2:=okB_gb hv (k:=0) (by simpa using h0);obtain⟨a0,a1,a2,-,-,-⟩:=h2;have hle:(bndV L).1≤(bndV L).2.1:=by
  unfold bndV;simp only[];omega
 exact⟨hle,hb.1,hb.2.2.2.1,rarn_vl hv⟩
theorem sgA_lon(m:Int)(lo:Int):(sgA m-lo)%21600000=(m-lo)%21600000:=by
 unfold sgA;split<;>omega
theorem cen_in{L:List Cl}(hv: ∀x∈L,Vl x)(h0:0<L.length):vptB (cenV L).1 (cenV L).2=true∧inBox (bndV L).1 (bndV L).2.1 (bndV L).2.2.1 (bndV L).2.2.2 (cenV L).1 (cenV L).2=true:=by
 obtain⟨h1,h2,h3,h4⟩:=bnd_vp hv h0;have hs:=sgA_bd (((bndV L).2.2.1+(bndV L).2.2.2)/2);have hm:=sgA_lon (((bndV L).2.2.1+(bndV L).2.2.2)/2) (bndV L).2.2.1;unfold cenV;unfold VL at h4;generalize bndV L=q at*;obtain⟨q0,q1,q2,q3⟩:=q;simp only[] at h1 h2 h3 h4 hs hm⊢;refine⟨vptB_true.2 om_,?_⟩;unfold inBox;rw[Bool.and_eq_true,decide_eq_true_eq,Bool.or_eq_true];refine⟨om_,.inr ?_⟩;unfold lonIn;rw[decide_eq_true_eq,hm];omega
theorem dst_le(q:Bx)(p:Int×Int):(dstV q p).1≤(dstV q p).2:=by
 have h1:=Trig.sinT_fv (q.1,q.2.1) (p.1,p.1) (q.2.2.1-p.2,q.2.2.2-p.2);have h2:=Trig.sinT_meets (q.1,q.2.1) (p.1,p.1) (q.2.2.1-p.2,q.2.2.2-p.2);have:=Trig.asn_arc h1.2.1 h2.1 h2.2;unfold dstV altP;simp only[];omega
theorem rad_le(D:List Bx)(p:Int×Int): ∀(k:Nat),k≤D.length→(radF D p k).1≤(radF D p k).2∧ ∀i,i<k→(dstV (gb D i) p).2≤(radF D p k).2:=by
 intro k;induction k with
 |zero=>intro _;rw[radF_zero];exact⟨Int.le_refl _,fun i hi=>by omega⟩
 |succ k ih=>
  intro hk;have ih:=ih om_;rw[radF_succ D p k om_];have hd:=dst_le (gb D k) p;refine⟨so_,fun i hi=>?_⟩;simp only[];by_cases h:i<k
  · have:=ih.2 i h
    omega
  · have:i=k:=by omega
    subst this;omega
end Go.Proofs.YtdeiofgddhbdaaaGreatDoor
