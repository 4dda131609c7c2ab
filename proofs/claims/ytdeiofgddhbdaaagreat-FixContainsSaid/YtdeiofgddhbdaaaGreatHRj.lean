/- The walk of the reference's Around at a valid place. -/
import Derived.Test.YtdeiofgddhbdaaaGreatHKz
set_option linter.unusedSimpArgs false
set_option linter.unusedVariables false
set_option maxHeartbeats 4000000
set_option maxRecDepth 100000
open Go.RowKit
open Go.Lib (hid)
open Go.Proofs.Tryz
open Go.Value renaming int→vi
open Go.IntKind renaming i64→vk
namespace Go.Proofs.YtdeiofgddhbdaaaGreat
def lvOk(L:List Cl):Prop:= ∀y∈L,0≤y.1∧y.1≤16
theorem lvOk_if{L:List Cl}(h:lvOk L)(x:Bool):lvOk (if x=true then[] else L):=by cases x<;>simp[lvOk] at h⊢;exact h
def WthOk(f:Nat):Prop:= ∀(op:Int) (A B:Option Addr) (n m ca cb:Nat) (L M:List Cl) (l r c:Int) (x y:Bool) (w:World),
 Reads w w.heap.size 3 A n (cvs L)→Reads w w.heap.size 3 B m (cvs M)→n≤1000000→m≤1000000→lvOk L→lvOk M→vldB l r c=true→(f:Int)+l=17→(op=1∨op=2∨op=3)→
 Calls Tryz.prog 89 #[vi vk op,.slice A n ca,.slice B m cb,.agg #[vi vk l,vi vk r,vi vk c],.bool x,.bool y] w (RetCells1 w (wthL op f L M (l,r,c) x y))
theorem belL_16(L:List Cl)(r c:Int)(h:lvOk L):belL L (16,r,c)=[]:=by
 unfold belL;rw[List.filter_eq_nil_iff];intro y hy hh;obtain⟨y1,y2,y3⟩:=y;have:=(h _ hy).2;simp only[Bool.and_eq_true,Bool.not_eq_true',ceq_false,wiB,decide_eq_true_eq] at hh this;obtain⟨h1,h2,h3,h4⟩:=hh;have e:y1=16:=by omega
 subst e;simp at h3 h4;exact h1 (by rw[h3,h4])
theorem lvOk_belL{L:List Cl}(x:Cl)(h:lvOk L):lvOk (belL L x):=fun y hy=>h y (List.mem_filter.1 hy).1
theorem if_len{L:List Cl}{n:Nat}(x:Bool)(c:Cl)(h:L.length≤n):(belL (if x=true then[] else L) c).length≤n:=by
 have:=List.length_filter_le (fun y=> !ceq y c&&wiB y c) (if x=true then[] else L);unfold belL;cases x
 · simp only[Bool.false_eq_true,if_false] at this⊢;omega
 · simp
theorem kid_at(l r c:Int){k:Nat}(hk:k<4):gt (kids l r c) k=(l+1,2*r+(k:Int)/2,2*c+(k:Int)%2):=by
 match k,hk with
 |0,_=>simp[kids,gt]
 |1,_=>simp[kids,gt]
 |2,_=>simp[kids,gt]
 |3,_=>simp[kids,gt]
theorem kid_vld{l r c:Int}(hv:vldB l r c=true)(hl:l<16){k:Nat}(hk:k<4):vldB (l+1) (2*r+(k:Int)/2) (2*c+(k:Int)%2)=true:=by
 obtain⟨h0,h1,h2,h3,h4,h5⟩:=vldB_true.1 hv;have e:pw (l+1)=2*pw l:=by
  unfold pw;rw[show(l+1).toNat=l.toNat+1 by omega,Int.pow_succ];omega
 rw[vldB_true,e];omega
def flatTo(L:List Cl)(g:Cl→List Cl)(k:Nat):List Cl:=(L.take k).flatMap g
theorem flatTo_succ(L:List Cl)(g:Cl→List Cl)(k:Nat)(hk:k<L.length):flatTo L g (k+1)=flatTo L g k++g (gt L k):=by
 unfold flatTo;rw[take_gt L k hk,List.flatMap_append];simp
theorem flatTo_len(L:List Cl)(g:Cl→List Cl)(k N:Nat)(hg: ∀x,(g x).length≤N):(flatTo L g k).length≤k*N:=by
 unfold flatTo;have: ∀M:List Cl,(M.flatMap g).length≤M.length*N:=by
  intro M;induction M with
  |nil=>simp
  |cons x M ih=>
   have:=hg x;simp only[List.flatMap_cons,List.length_append,List.length_cons,Nat.add_mul];omega
 have h1:=this (L.take k);have h2:=Nat.mul_le_mul_right N (List.length_take_le k L);omega
theorem four_of{L:List Cl}(h:L.length=4):L=[gt L 0,gt L 1,gt L 2,gt L 3]:=by
 match L,h with
 | [a,b,c,d],_=>rfl
theorem within_step(f:Nat)(ih:WthOk f):WthOk (f+1):=by
 intro op A B n m ca cb L M l r c x y w ha hb hn hm hL hM hv hf hop;have IH:=hid ih;clear ih;have hlen1:=ha.len;have hlen2:=hb.len;have LA:=hid (if_len (x||hasB L (l,r,c)) (l,r,c) (show L.length≤1000000 by omega));have LB:=hid (if_len (y||hasB M (l,r,c)) (l,r,c) (show M.length≤1000000 by omega));clear hlen1 hlen2;obtain⟨R,hR⟩: ∃R,R=wthL op (f+1) L M (l,r,c) x y:=⟨_,rfl⟩;rw[←hR];have HRR:=hid hR;clear hR;have HA:=hid ha;have HB:=hid hb;have HL:=hid hL;have HM:=hid hM;have HV:=hid hv;have HO:=hid hop;clear ha hb hL hM hv hop;go_enter func89,ntmps89;go_upto_region 1 with (fail)
 go_cut [4] (fun s4 wx=>s4=.bool (x||hasB L (l,r,c))∧Below (w.heap.size+1) (w.alloc (.cells #[vi vk l,vi vk r,vi vk c] 55)) wx)
 case first=>
  cases x with
  |true=>
   go_wp2;go_meet
   case rel=>exact⟨rfl,Below.refl _ _⟩
  |false=>
   go_wp2_with (go_at_call 130;refine(has_any A n ca L l r c _ ((HA.out.alloc (Nat.le_refl _) _).more (by simp)) (by unfold maxLen;omega)).mono ?_;rintro e w1 ⟨rfl,hb1⟩);go_meet
   case rel=>exact⟨rfl,hb1.mono (by simp)⟩
 case rest=>
  obtain⟨rfl,hb1⟩:=hcut;rename World=>w1
  have hxd: ∃x',x'=(x||hasB L (l,r,c)):=⟨_,rfl⟩;have q0:w1.cell? ⟨w.heap.size,0,none⟩=some (vi vk l):=(hb1.cell (p:=⟨w.heap.size,0,none⟩) (by simp)).trans (by simp);have q1:w1.cell? ⟨w.heap.size,1,none⟩=some (vi vk r):=(hb1.cell (p:=⟨w.heap.size,1,none⟩) (by simp)).trans (by simp);have q2:w1.cell? ⟨w.heap.size,2,none⟩=some (vi vk c):=(hb1.cell (p:=⟨w.heap.size,2,none⟩) (by simp)).trans (by simp);have z1:=hb1.size;simp at z1;have HB1:=hid (((HB.out.alloc (Nat.le_refl _) (.cells #[vi vk l,vi vk r,vi vk c] 55)).below (hb1.mono om_)).more (B':=w1.heap.size) om_);have HA1:=hid (((HA.out.alloc (Nat.le_refl _) (.cells #[vi vk l,vi vk r,vi vk c] 55)).below (hb1.mono om_)).more (B':=w1.heap.size) om_);go_upto_region 2 with (fail)
  go_cut [5] (fun s5 wx=>s5=.bool (y||hasB M (l,r,c))∧Below w1.heap.size w1 wx)
  case first=>
   cases y with
   |true=>
    go_wp2;go_meet
    case rel=>exact⟨rfl,Below.refl _ _⟩
   |false=>
    go_wp2_with (go_at_call 130;refine(has_any B m cb M l r c _ HB1.out (by unfold maxLen;omega)).mono ?_;rintro e w2 ⟨rfl,hb2⟩);go_meet
    case rel=>exact⟨rfl,hb2⟩
  case rest=>
   obtain⟨rfl,hb2⟩:=hcut;rename World=>w2
   have z2:=hb2.size;have HA2:=hid ((HA1.out.below hb2).more hb2.size);have HB2:=hid ((HB1.out.below hb2).more hb2.size);go_upto_if 28 with (fail)
   go_cut [1,4] (fun s1 s4 wx=>s4=.bool (x||hasB L (l,r,c))∧wx=w2∧ ∃A1 n1 c1,s1=.slice A1 n1 c1∧n1≤1000000∧Reads w2 w2.heap.size 3 A1 n1 (cvs (if (x||hasB L (l,r,c))=true then[] else L)))
   case first=>
    cases hx:(x||hasB L (l,r,c)) with
    |true=>
     go_wp2;go_meet
     case rel=>exact⟨by rw[hx],rfl,_,_,_,rfl,om_,by rw[hx];exact Reads.none_⟩
    |false=>
     go_wp2;go_meet
     case rel=>exact⟨by rw[hx],rfl,_,_,_,rfl,hn,by rw[hx];exact HA2.out⟩
   case rest=>
    obtain⟨rfl,rfl,A1,n1,c1,rfl,hn1,hr1⟩:=hcut;have HR1:=hid hr1;clear hr1;go_upto_if 29 with (fail)
    go_cut [2,5] (fun s2 s5 wx=>s5=.bool (y||hasB M (l,r,c))∧wx=wc∧ ∃A1 n1 c1,s2=.slice A1 n1 c1∧n1≤1000000∧Reads wc wc.heap.size 3 A1 n1 (cvs (if (y||hasB M (l,r,c))=true then[] else M)))
    case first=>
     cases hy:(y||hasB M (l,r,c)) with
     |true=>
      go_wp2;go_meet
      case rel=>exact⟨by rw[hy],rfl,_,_,_,rfl,om_,by rw[hy];exact Reads.none_⟩
     |false=>
      go_wp2;go_meet
      case rel=>exact⟨by rw[hy],rfl,_,_,_,rfl,hm,by rw[hy];exact HB2.out⟩
    case rest=>
     obtain⟨rfl,rfl,A2,n2,c2,rfl,hn2,hr2⟩:=hcut;have HR2:=hid hr2;clear hr2;rename World=>w3
     go_upto_region 7 with (fail)
     have b0:w3.cell? ⟨w.heap.size,0,none⟩=some (vi vk l):=(hb2.cell (p:=⟨w.heap.size,0,none⟩) (by show w.heap.size<_;omega)).trans q0;have b1:w3.cell? ⟨w.heap.size,1,none⟩=some (vi vk r):=(hb2.cell (p:=⟨w.heap.size,1,none⟩) (by show w.heap.size<_;omega)).trans q1;have b2:w3.cell? ⟨w.heap.size,2,none⟩=some (vi vk c):=(hb2.cell (p:=⟨w.heap.size,2,none⟩) (by show w.heap.size<_;omega)).trans q2;have clt:w.heap.size<w3.heap.size:=by omega
     obtain⟨v0,v1,v2,v3,v4,v5⟩:=vldB_true.1 HV.out;have HL1:=hid (lvOk_if HL.out (x||hasB L (l,r,c)));have HM1:=hid (lvOk_if HM.out (y||hasB M (l,r,c)));clear q0 q1 q2 hxd v2 v3 v4 v5;have K1:=hid (below_any A1 n1 c1 _ l r c w3.drew HR1.out.drew hn1 HL1.out v0 v1);have K2:Hid (∀W,Below w3.drew.heap.size w3.drew W→Calls Tryz.prog 131 #[.slice A2 n2 c2,.agg #[vi vk l,vi vk r,vi vk c]] W (RetCells1 W (belL (if (y||hasB M (l,r,c))=true then[] else M) (l,r,c)))):=hid (fun W hW=>below_any A2 n2 c2 _ l r c W ((HR2.out.drew.below hW).more hW.size) hn2 HM1.out v0 v1);clear HR1 HR2 HL1 HM1;go_region_held3 (fun w'=>w'.cell? ⟨w.heap.size,0,none⟩=some (vi vk l)∧w'.cell? ⟨w.heap.size,1,none⟩=some (vi vk r)∧w'.cell? ⟨w.heap.size,2,none⟩=some (vi vk c)) (first|exact⟨b0,b1,b2⟩|exact⟨t0,t1,t2⟩|exact⟨s0,s1,s2⟩) (first|(go_at_call 131;(with_reducible refine K1.out.mono ?_);rintro e w4 ⟨r4,rfl,hown4,hb4⟩;have t0:=(hb4.cell (p:=⟨w.heap.size,0,none⟩) clt).trans b0;have t1:=(hb4.cell (p:=⟨w.heap.size,1,none⟩) clt).trans b1;have t2:=(hb4.cell (p:=⟨w.heap.size,2,none⟩) clt).trans b2)|(go_at_call 131;(with_reducible refine(K2.out _ hb4).mono ?_);rintro e w5 ⟨r5,rfl,hown5,hb5⟩;have s0:=(hb5.cell (p:=⟨w.heap.size,0,none⟩) (Nat.lt_of_lt_of_le clt hb4.size)).trans t0;have s1:=(hb5.cell (p:=⟨w.heap.size,1,none⟩) (Nat.lt_of_lt_of_le clt hb4.size)).trans t1;have s2:=(hb5.cell (p:=⟨w.heap.size,2,none⟩) (Nat.lt_of_lt_of_le clt hb4.size)).trans t2)|fail)
     have E:R=wthS op (belL (if (x||hasB L (l,r,c))=true then[] else L) (l,r,c)) (belL (if (y||hasB M (l,r,c))=true then[] else M) (l,r,c)) (l,r,c) (x||hasB L (l,r,c)) (y||hasB M (l,r,c)) ((kidsC (l,r,c)).flatMap fun d=>wthL op f (belL (if (x||hasB L (l,r,c))=true then[] else L) (l,r,c)) (belL (if (y||hasB M (l,r,c))=true then[] else M) (l,r,c)) d (x||hasB L (l,r,c)) (y||hasB M (l,r,c))):=HRR.out.trans rfl;have lv1:=lvOk_belL (l,r,c) (lvOk_if HL.out (x||hasB L (l,r,c)));have lv2:=lvOk_belL (l,r,c) (lvOk_if HM.out (y||hasB M (l,r,c)));have top1:=fun h:l=16=>belL_16 (if (x||hasB L (l,r,c))=true then[] else L) r c (lvOk_if HL.out _);have top2:=fun h:l=16=>belL_16 (if (y||hasB M (l,r,c))=true then[] else M) r c (lvOk_if HM.out _);have la:=LA.out;have lb:=LB.out;have HB5:Hid (Below w.heap.size w w5):=hid ((((bl_alloc w _).trans (hb1.mono om_)).trans ((bl_drew hb2).mono om_)).trans ((hb4.trans (hb5.mono hb4.size)).mono (by show w.heap.size≤w3.heap.size;omega)));have z4:=hb4.size;have z5:=hb5.size;have z45:w3.heap.size≤w4.heap.size:=z4;have hown45:=own_bl hown4 hb5 (Nat.le_refl _);clear hown4 hb4 hb5 hb2 hb1 HA HB HA1 HB1 HA2 HB2 HL HM LA LB HRR K1 K2 t0 t1 t2 b0 b1 b2 z4;have T1:l=16→(belL (if (x||hasB L (l,r,c))=true then[] else L) (l,r,c))=[]:=fun h=>by subst h;exact top1 rfl
     have T2:l=16→(belL (if (y||hasB M (l,r,c))=true then[] else M) (l,r,c))=[]:=fun h=>by subst h;exact top2 rfl
     clear top1 top2;generalize belL (if (x||hasB L (l,r,c))=true then[] else L) (l,r,c)=a4 at*;generalize belL (if (y||hasB M (l,r,c))=true then[] else M) (l,r,c)=b4 at*;generalize (x||hasB L (l,r,c))=x4 at*;generalize (y||hasB M (l,r,c))=y4 at*;obtain⟨A4,c4,rfl,hr4,-⟩:=own_form hown45;obtain⟨A5,c5,rfl,hr5,-⟩:=own_form hown5;have R4:=hid hr4;have R5:=hid hr5;have HE:=hid E;have LV1:=hid lv1;have LV2:=hid lv2;have TT:=hid (And.intro T1 T2);clear hr4 hr5 E lv1 lv2 T1 T2 hown45 hown5;by_cases hz:a4.length=0∧b4.length=0
     · obtain⟨hz1,hz2⟩:=hz
       have EE:R=if opB op x4 y4=true then[(l,r,c)] else[]:=by rw[HE.out];unfold wthS;rw[if_pos ⟨hz1,hz2⟩]
       cases ho:opB op x4 y4 with
       |true=>
        rw[ho] at EE;have HE2:=hid EE;have H:=hid (fun W=>holds_any op x4 y4 W HO.out);rw[ho] at H;clear EE HE R4 R5 LV1 LV2 TT ho IH;go_wp2_with (go_at_call 132;(with_reducible refine(H.out _).mono ?_);rintro e w6 ⟨rfl,rfl⟩);go_ret;rw[HE2.out];refine⟨.slice (some ⟨w6.heap.size,0,none⟩) 1 1,rfl,own_new _ _ _ 3 1 _ _ rfl HB5.out.size rfl (by simp[maxLen]),HB5.out.alloc HB5.out.size _⟩
       |false=>
        rw[ho] at EE;have HE2:=hid EE;have H:=hid (fun W=>holds_any op x4 y4 W HO.out);rw[ho] at H;clear EE HE R4 R5 LV1 LV2 TT ho IH;go_wp2_with (go_at_call 132;(with_reducible refine(H.out _).mono ?_);rintro e w6 ⟨rfl,rfl⟩);go_ret;rw[HE2.out];exact⟨.slice none 0 0,rfl,own_nil _ _ _ _,HB5.out⟩
     · have hl16:l<16:=by
        by_cases h:l=16
        · exfalso
          apply hz;rw[TT.out.1 h,TT.out.2 h];exact⟨rfl,rfl⟩
        · omega
       have EE:R=if flatTo (kids l r c) (fun d=>wthL op f a4 b4 d x4 y4) 4=kids l r c then[(l,r,c)] else flatTo (kids l r c) (fun d=>wthL op f a4 b4 d x4 y4) 4:=by rw[HE.out];unfold wthS;rw[if_neg hz];rfl
       have HE2:=hid EE;obtain⟨g0,g1,g2,g3,g4,g5⟩:=vldB_true.1 HV.out;have pb:=pw_bd (l:=l) om_;have hf16:f≤16:=by omega
       have p4:4^f≤4294967296:=Nat.le_trans (Nat.pow_le_pow_right om_ hf16) dc_;have IK:Hid (∀(k:Nat) (W:World),k<4→Below w5.heap.size w5 W→Calls Tryz.prog 89 #[vi vk op,.slice A4 a4.length c4,.slice A5 b4.length c5,.agg #[vi vk (gt (kids l r c) k).1,vi vk (gt (kids l r c) k).2.1,vi vk (gt (kids l r c) k).2.2],.bool x4,.bool y4] W (RetCells1 W (wthL op f a4 b4 (gt (kids l r c) k) x4 y4))):=hid (fun k W hk hW=>by
        rw[kid_at l r c hk];exact IH.out op A4 A5 _ _ c4 c5 a4 b4 (l+1) _ _ x4 y4 W ((R4.out.below hW).more hW.size) ((R5.out.below hW).more hW.size) la lb LV1.out LV2.out (kid_vld HV.out hl16 hk) om_ HO.out)
       have hgl: ∀k,(flatTo (kids l r c) (fun d=>wthL op f a4 b4 d x4 y4) k).length≤k*4294967296:=fun k=>by
        have:=flatTo_len (kids l r c) (fun d=>wthL op f a4 b4 d x4 y4) k (4^f) (fun d=>wthL_length op f a4 b4 d x4 y4);exact Nat.le_trans this (Nat.mul_le_mul_left k p4)
       have HG:=hid hgl;have HS:=hid (flatTo_succ (kids l r c) (fun d=>wthL op f a4 b4 d x4 y4));have HW1:=hid (fun k=>wthL_length op f a4 b4 (gt (kids l r c) k) x4 y4);have CH:=hid (fun W=>refChildren_any l r c W g0 om_ g2 om_ g4 om_);clear EE HE R4 R5 LV1 LV2 TT IH hgl;go_upto_region 8 with (fail)
       go_cut [43] (fun s43 wx=>s43=.bool false∧wx=w5)
       case first=>
        by_cases h:a4.length=0
        · have e1:(((a4.length:Nat):Int)==0)=true:=by simp only[beq_iff_eq];omega
          have e2:(((b4.length:Nat):Int)==0)=false:=by simp only[beq_eq_false_iff_ne,ne_eq];omega
          clear h hz;go_wp2;go_meet
          case rel=>exact⟨rfl,rfl⟩
        · have e1:(((a4.length:Nat):Int)==0)=false:=by simp only[beq_eq_false_iff_ne,ne_eq];omega
          clear h hz;go_wp2;go_meet
          case rel=>exact⟨rfl,rfl⟩
       case rest=>
        obtain⟨rfl,rfl⟩:=hcut;rename World=>w5
        clear hz;obtain⟨i0,hi0,hz0,hz1,hz2⟩:=info_parts Tryz.infoCell;go_wp2_with (go_at_call 88;(with_reducible refine(CH.out _).mono ?_);rintro e w6 ⟨v6,rfl,hown6,hb6⟩);have hown6':w6.ownsRow w5.heap.size 55 3 v6 4 (cvs (kids l r c)):=hown6;obtain⟨A6,c6,rfl,hr6,hc6,-⟩:=own_form hown6';have R6:=hid hr6;have z6:=hb6.size;clear hr6 hown6 hown6' CH;have F0:flatTo (kids l r c) (fun d=>wthL op f a4 b4 d x4 y4) 0=[]:=rfl;have HF0:=hid F0;clear F0;generalize flatTo (kids l r c) (fun d=>wthL op f a4 b4 d x4 y4)=F at*;go_loopw [14,15] (fun v i wr=> ∃k:Nat,k≤4∧i=vi vk k∧wr.ownsRow w6.heap.size 55 3 v (F k).length (cvs (F k))∧Below w6.heap.size w6 wr) (fun _ i _=>4-(intOf i).toNat)
        case atStart=>exact⟨0,om_,rfl,by rw[HF0.out];exact own_nil _ _ _ _,Below.refl _ _⟩
        case round=>
         obtain⟨k,hk,rfl,hown,hbr⟩:=hrel;have zr:=hbr.size;by_cases hlt:k<4
         · have hR2:Reads wr w6.heap.size 3 A6 4 (cvs (kids l r c)):=R6.out.below hbr
           obtain⟨b,off,rfl,hb,x1,x2,x3⟩:=hR2.elem hlt;clear hR2;have hW:=hb6.trans (hbr.mono z6);have I2:=hid (IK.out k wr hlt hW);have S2:=hid (HS.out k hlt);have L1:=HG.out k;have L2:=HW1.out k;generalize gt (kids l r c) k=d at x1 x2 x3 I2 S2 L2;obtain⟨da,db,dc⟩:=d;simp only[] at x1 x2 x3 I2;go_wp2_with fail;(with_reducible refine I2.out.mono ?_)
           rintro e w7 ⟨v7,rfl,hown7,hb7⟩
           obtain⟨A7,c7,rfl,hr7,-⟩:=own_form hown7;have hown2:=own_bl hown hb7 (Nat.le_refl _);have z7:=hb7.size;have R7:=hid hr7;clear hr7 hown7 x1 x2 x3;go_wp2_with (at_builtin;(refine wpList_append_any _ rfl (.tmp 58) (.tmp 68) _ rfl w6.heap.size 55 i0 _ 3 24 underlying44 hi0 hz0 hz1 hz2 rfl dc_ u14 _ _ rfl hown2 w7.heap.size A7 _ c7 _ rfl R7.out (cvs_one _) (by simp only[maxLen];omega) om_ om_ ?_);intro v8 w8 hown8 hg8 hat8);go_roundw
           case rel=>exact⟨k+1,om_,by go_num,by rw[S2.out,cvs_append,List.length_append];exact hown8,(hbr.trans (hb7.mono zr)).grown hg8 om_ (own_base hown)⟩
           case measure=>simp[intOf];omega
         · have hk4:k=4:=by omega
           subst hk4;have L1:=HG.out 4;have hR2:Reads wr w6.heap.size 3 A6 4 (cvs (kids l r c)):=R6.out.below hbr;have HBr:=hid (HB5.out.trans ((hb6.trans (hbr.mono z6)).mono HB5.out.size));have zB:=HB5.out.size;have q0:wr.cell? ⟨w.heap.size,0,none⟩=some (vi vk l):=(hbr.cell (p:=⟨w.heap.size,0,none⟩) (by show w.heap.size<_;omega)).trans ((hb6.cell (p:=⟨w.heap.size,0,none⟩) (by show w.heap.size<_;omega)).trans s0);have q1:wr.cell? ⟨w.heap.size,1,none⟩=some (vi vk r):=(hbr.cell (p:=⟨w.heap.size,1,none⟩) (by show w.heap.size<_;omega)).trans ((hb6.cell (p:=⟨w.heap.size,1,none⟩) (by show w.heap.size<_;omega)).trans s1);have q2:wr.cell? ⟨w.heap.size,2,none⟩=some (vi vk c):=(hbr.cell (p:=⟨w.heap.size,2,none⟩) (by show w.heap.size<_;omega)).trans ((hb6.cell (p:=⟨w.heap.size,2,none⟩) (by show w.heap.size<_;omega)).trans s2);clear s0 s1 s2 IK HS HG HW1 R6 HF0;clear hi0 hz0 hz1 hz2 i0;generalize F 4=G at*;have hq:=eqlCell;by_cases hG:G.length=4
           · have h4:=four_of hG
             generalize gt G 0=p0 at h4;generalize gt G 1=p1 at h4;generalize gt G 2=p2 at h4;generalize gt G 3=p3 at h4;subst h4;clear hG L1;have hown':wr.ownsRow w6.heap.size 55 3 u14 4 (cvs [p0,p1,p2,p3]):=hown;clear hown;obtain⟨A8,c8,rfl,hr8,hc8,-⟩:=own_form hown';obtain⟨b8,o8,rfl,hb8,⟨x1,x2,x3⟩,⟨y1,y2,y3⟩,⟨v1,v2,v3⟩,⟨t1,t2,t3⟩⟩:=elem4 hr8;obtain⟨b6,o6,rfl,hb6',⟨k1,k2,k3⟩,⟨m1,m2,m3⟩,⟨o1,o2,o3⟩,⟨j1,j2,j3⟩⟩:=elem4 (x:=(l+1,2*r,2*c)) (y:=(l+1,2*r,2*c+1)) (z:=(l+1,2*r+1,2*c)) (u:=(l+1,2*r+1,2*c+1)) hR2;obtain⟨xa,xb,xc⟩:=p0;obtain⟨ya,yb,yc⟩:=p1;obtain⟨za,zb,zc⟩:=p2;obtain⟨ua,ub,uc⟩:=p3;simp only[] at x1 x2 x3 y1 y2 y3 v1 v2 v3 t1 t2 t3 k1 k2 k3 m1 m2 m3 o1 o2 o3 j1 j2 j3;have EQ:=hid HE2.out;clear HE2 hr8 hR2;go_upto_region 18 with (fail)
             cases e1:ceq (xa,xb,xc) (l+1,2*r,2*c) with
             |false=>
              have HE3:=hid (EQ.out.trans (if_neg (fun h=>by simp only[kids,List.cons.injEq,and_true] at h;exact(ceq_false.1 e1) h.1)));clear EQ;go_quiet (fail);go_wp2;go_ret;rw[HE3.out];exact⟨_,rfl,own_mono (own_bl hown' (bl_drewN (Below.refl _ _) _) (Nat.le_refl _)) om_,bl_drewN HBr.out _⟩
             |true=>
              cases e2:ceq (ya,yb,yc) (l+1,2*r,2*c+1) with
              |false=>
               have HE3:=hid (EQ.out.trans (if_neg (fun h=>by simp only[kids,List.cons.injEq,and_true] at h;exact(ceq_false.1 e2) h.2.1)));clear EQ;go_quiet (fail);go_wp2;go_ret;rw[HE3.out];exact⟨_,rfl,own_mono (own_bl hown' (bl_drewN (Below.refl _ _) _) (Nat.le_refl _)) om_,bl_drewN HBr.out _⟩
              |true=>
               cases e3:ceq (za,zb,zc) (l+1,2*r+1,2*c) with
               |false=>
                have HE3:=hid (EQ.out.trans (if_neg (fun h=>by simp only[kids,List.cons.injEq,and_true] at h;exact(ceq_false.1 e3) h.2.2.1)));clear EQ;go_quiet (fail);go_wp2;go_ret;rw[HE3.out];exact⟨_,rfl,own_mono (own_bl hown' (bl_drewN (Below.refl _ _) _) (Nat.le_refl _)) om_,bl_drewN HBr.out _⟩
               |true=>
                cases e4:ceq (ua,ub,uc) (l+1,2*r+1,2*c+1) with
                |false=>
                 have HE3:=hid (EQ.out.trans (if_neg (fun h=>by simp only[kids,List.cons.injEq,and_true] at h;exact(ceq_false.1 e4) h.2.2.2)));clear EQ;go_quiet (fail);go_wp2;go_ret;rw[HE3.out];exact⟨_,rfl,own_mono (own_bl hown' (bl_drewN (Below.refl _ _) _) (Nat.le_refl _)) om_,bl_drewN HBr.out _⟩
                |true=>
                 have HE3:=hid (EQ.out.trans (if_pos (by rw[ceq_true.1 e1,ceq_true.1 e2,ceq_true.1 e3,ceq_true.1 e4];rfl)));clear EQ;go_quiet (fail);go_wp2;go_ret;rw[HE3.out];refine⟨.slice (some ⟨wr.heap.size,0,none⟩) 1 1,rfl,own_new _ _ _ 3 1 _ _ rfl HBr.out.size rfl (by simp[maxLen]),(bl_drewN HBr.out _).alloc HBr.out.size _⟩
           · have hg:(((G.length:Nat):Int)==4)=false:=by simp only[beq_eq_false_iff_ne,ne_eq];omega
             have HE3:=hid (HE2.out.trans (if_neg (fun h=>hG (by rw[h];rfl))));have hown':=hown;obtain⟨A8,c8,rfl,hr8,hc8,-⟩:=own_form hown;clear hG HE2 hr8 hR2 hown;go_upto_region 18 with (fail)
             go_quiet (fail);go_wp2;go_ret;rw[HE3.out];exact⟨_,rfl,own_mono (own_bl hown' (bl_drewN (Below.refl _ _) _) (Nat.le_refl _)) om_,bl_drewN HBr.out _⟩
theorem within_any(f:Nat):WthOk f:=by
 induction f with
 |zero=>
  intro op A B n m ca cb L M l r c x y w ha hb hn hm hL hM hv hf hop;have:=(vldB_true.1 hv).2.1;omega
 |succ f ih=>exact within_step f ih
theorem Made_any(op:Int)(A B:Option Addr)(n m ca cb:Nat)(L M:List Cl)(w:World)
 (ha:Reads w w.heap.size 3 A n (cvs L)) (hb:Reads w w.heap.size 3 B m (cvs M)) (hn:n≤1000000) (hm:m≤1000000) (hL:lvOk L) (hM:lvOk M) (hop:op=1∨op=2∨op=3):
 Calls Tryz.prog 52 #[vi vk op,.slice A n ca,.slice B m cb] w (RetCells1 w (madeL op L M)):=by
 obtain⟨R,hR⟩: ∃R,R=madeL op L M:=⟨_,rfl⟩;rw[←hR];have HR:=hid hR;clear hR;have K1:Hid (∀W,Below w.heap.size w W→Calls Tryz.prog 89 #[vi vk op,.slice A n ca,.slice B m cb,.agg #[vi vk 0,vi vk 0,vi vk 0],.bool false,.bool false] W (RetCells1 W (wthL op 17 L M (0,0,0) false false))):=hid (fun W hW=>within_any 17 op A B n m ca cb L M 0 0 0 false false W ((ha.below hW).more hW.size) ((hb.below hW).more hW.size) hn hm hL hM dc_ dc_ hop);have K2:Hid (∀W,Below w.heap.size w W→Calls Tryz.prog 89 #[vi vk op,.slice A n ca,.slice B m cb,.agg #[vi vk 0,vi vk 0,vi vk 1],.bool false,.bool false] W (RetCells1 W (wthL op 17 L M (0,0,1) false false))):=hid (fun W hW=>within_any 17 op A B n m ca cb L M 0 0 1 false false W ((ha.below hW).more hW.size) ((hb.below hW).more hW.size) hn hm hL hM dc_ dc_ hop);have l1:(wthL op 17 L M (0,0,0) false false).length≤17179869184:=wthL_length op 17 L M (0,0,0) false false;have l2:(wthL op 17 L M (0,0,1) false false).length≤17179869184:=wthL_length op 17 L M (0,0,1) false false;have HE:Hid (R=wthL op 17 L M (0,0,0) false false++wthL op 17 L M (0,0,1) false false):=hid HR.out;clear HR ha hb hL hM hop;generalize wthL op 17 L M (0,0,0) false false=U at*;generalize wthL op 17 L M (0,0,1) false false=V at*;obtain⟨i0,hi0,hz0,hz1,hz2⟩:=info_parts Tryz.infoCell;go_enter func52,ntmps52;go_wp2_with fail;(with_reducible refine(K1.out _ (Below.refl _ _)).mono ?_)
 rintro e w1 ⟨v1,rfl,hown1,hb1⟩
 go_wp2_with fail;(with_reducible refine(K2.out _ hb1).mono ?_)
 rintro e w2 ⟨v2,rfl,hown2,hb2⟩
 have hown:=own_bl hown1 hb2 (Nat.le_refl _);obtain⟨A2,c2,rfl,hr2,-⟩:=own_form hown2;have z1:=hb1.size;have z2:=hb2.size;have R2:=hid hr2;clear hr2 hown1 hown2 K1 K2;go_wp2_with (at_builtin;(refine wpList_append_any _ rfl (.tmp 13) (.tmp 18) _ rfl w.heap.size 55 i0 _ 3 24 underlying44 hi0 hz0 hz1 hz2 rfl dc_ v1 _ _ rfl hown w2.heap.size A2 _ c2 _ rfl R2.out (cvs_one _) (by simp only[maxLen];omega) om_ om_ ?_);intro v8 w8 hown8 hg8 hat8);go_ret;rw[HE.out];exact⟨_,rfl,by rw[cvs_append,List.length_append];exact hown8,(hb1.trans (hb2.mono z1)).grown hg8 om_ (own_base hown)⟩
theorem rValidLon_vl(lo hi:Int)(w:World)(h:VL (lo,hi)):Calls Tryz.prog 50 #[.agg #[vi vk lo,vi vk hi]] w fun e w'=>e=.returned (.bool true)∧Below w.heap.size w w':=by
 have hq:=eqlArc;have KA:=hid rAll_any;have hb0:=hid (bl_alloc w (.cells #[vi vk lo,vi vk hi] 31));have D0:=hid (D2.new w lo hi 31);have h':(lo= -10800000∧hi=10800000)∨(-10800000≤lo∧lo<10800000∧lo≤hi∧hi-lo<21600000):=h;clear h;have hN:aeq (-10800000) 10800000 (-10800000) 10800000=true:=by decide
 rcases h' with ⟨rfl,rfl⟩|h2
 · go_enter func50,ntmps50
   go_upto_region 1 with (fail)
   generalize w.alloc (.cells #[vi vk (-10800000),vi vk 10800000] 31)=w1 at hb0 D0⊢;have c0: ∀s:BV w1,s.w.cell? ⟨w.heap.size,0,none⟩=some (vi vk (-10800000)):=fun s=>(s.hb.cell (p:=⟨w.heap.size,0,none⟩) D0.out.lt).trans D0.out.c0;have c1: ∀s:BV w1,s.w.cell? ⟨w.heap.size,1,none⟩=some (vi vk 10800000):=fun s=>(s.hb.cell (p:=⟨w.heap.size,1,none⟩) D0.out.lt).trans D0.out.c1;refine wp_region_bv w1 (by kernel_rfl) (by kernel_rfl) (Below.refl _ _) ?_;(repeat (go_big_quiet_step (first|(go_at_call 85;with_reducible exact quiet_bv (KA.out _))|fail)))
   refine wpQuiet_nil ?_;intro w9 hb9;clear c0 c1;go_wp2;go_ret;exact⟨ret_bool (by simp),hb0.out.trans (hb9.mono hb0.out.size)⟩
 · have hN2:aeq lo hi (-10800000) 10800000=false:=by simp[aeq];omega
   have s1:IntKind.i64.wrap (lo+21600000)=lo+21600000:=IntWalk.i64_in _ om_;have q0:decide (-10800000≤lo)=true:=decide_eq_true (by clear s1;omega);have q1:decide (lo<10800000)=true:=decide_eq_true (by clear s1;omega);have q2:decide (lo≤hi)=true:=decide_eq_true (by clear s1;omega);have q3:decide (hi<lo+21600000)=true:=decide_eq_true (by clear s1;omega);clear h2 hN;go_enter func50,ntmps50;go_upto_region 1 with (fail)
   generalize w.alloc (.cells #[vi vk lo,vi vk hi] 31)=w1 at hb0 D0⊢;have c0: ∀s:BV w1,s.w.cell? ⟨w.heap.size,0,none⟩=some (vi vk lo):=fun s=>(s.hb.cell (p:=⟨w.heap.size,0,none⟩) D0.out.lt).trans D0.out.c0;have c1: ∀s:BV w1,s.w.cell? ⟨w.heap.size,1,none⟩=some (vi vk hi):=fun s=>(s.hb.cell (p:=⟨w.heap.size,1,none⟩) D0.out.lt).trans D0.out.c1;refine wp_region_bv w1 (by kernel_rfl) (by kernel_rfl) (Below.refl _ _) ?_;(repeat (go_big_quiet_step (first|(go_at_call 85;with_reducible exact quiet_bv (KA.out _))|fail)))
   refine wpQuiet_nil ?_;intro w9 hb9;clear c0 c1;go_wp2;go_ret;exact⟨ret_bool (by simp),hb0.out.trans (hb9.mono hb0.out.size)⟩
theorem rValid08_vp(p0 p1 p2 p3:Int)(w:World)(h:VP (p0,p1,p2,p3)):Calls Tryz.prog 27 #[.agg #[vi vk p0,vi vk p1,vi vk p2,vi vk p3]] w fun e w'=>e=.returned (.bool true)∧Below w.heap.size w w':=by
 have K1:=fun W=>rValidLat_any p0 p1 W h.l1;rw[decide_eq_true (show-5400000≤p0∧p1≤5400000 from⟨h.l2,h.l3⟩)] at K1;have K1:=hid K1;have K2:=hid (fun W=>rValidLon_vl p2 p3 W h.o);clear h;go_enter func27,ntmps27;go_wp2_with fail;(with_reducible refine(K1.out _).mono ?_)
 rintro e w1 ⟨rfl,hb1⟩
 have B1:=hid (one_bl hb1);have y2:w1.cell? ⟨w.heap.size,2,none⟩=some (vi vk p2):=(hb1.cell (p:=⟨w.heap.size,2,none⟩) (by simp)).trans (by simp);have y3:w1.cell? ⟨w.heap.size,3,none⟩=some (vi vk p3):=(hb1.cell (p:=⟨w.heap.size,3,none⟩) (by simp)).trans (by simp);clear hb1;go_wp2_with fail;(with_reducible refine(K2.out _).mono ?_)
 rintro e w2 ⟨rfl,hb2⟩
 have B2:=hid (B1.out.trans (hb2.mono B1.out.size));clear hb2;go_wp2;go_ret;exact⟨ret_bool (by simp),B2.out⟩
theorem lv_of{L:List Cl}(h:AllV L):lvOk L:=fun y hy=>⟨(h y hy).l0,(h y hy).l1⟩
end Go.Proofs.YtdeiofgddhbdaaaGreat
