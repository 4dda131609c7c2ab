/- The walk of Tidy. -/
import Derived.Test.YtdeiofgddhbdaaaGreatDoorHMort
set_option linter.unusedSimpArgs false
set_option linter.unusedVariables false
set_option maxHeartbeats 4000000
set_option maxRecDepth 100000
open Go.RowKit
open Go.Lib (hid)
open Go.Proofs.Tryz
open Go.Value renaming int→vi
open Go.IntKind renaming i64→vk
namespace Go.Proofs.YtdeiofgddhbdaaaGreatDoor
section
open Go.Sort
def spI(x:Cl):Sp:=((spF x:Int),(spT x:Int))
theorem spanOf_any(x:Cl)(w:World)(hv:vldB x.1 x.2.1 x.2.2=true):
 Calls Tryz.prog 148 #[.agg #[vi vk x.1,vi vk x.2.1,vi vk x.2.2]] w fun e w'=>e=.returned (.agg #[vi vk (spI x).1,vi vk (spI x).2])∧Below w.heap.size w w':=by
 obtain⟨h0,h1,h2,h3,h4,h5⟩:=vldB_true.1 hv;obtain⟨l,r,c⟩:=x;obtain⟨l,rfl⟩:=Int.eq_ofNat_of_zero_le h0;obtain⟨r,rfl⟩:=Int.eq_ofNat_of_zero_le h2;obtain⟨c,rfl⟩:=Int.eq_ofNat_of_zero_le h4;simp only[pw,Int.toNat_natCast] at h3 h5;simp only[] at h1;exact spanOf_nat l r c w om_ (by exact_mod_cast h3) (by exact_mod_cast h5)
def mrg(out:List Sp)(s:Sp):List Sp:=
 match out.getLast? with
 |some t=>if s.1≤t.2 then out.dropLast++[(t.1,max t.2 s.2)] else out++[s]
 |none=>[s]
def mergeS(D:List Sp):List Sp:=D.foldl mrg []
def coverL(L:List Cl):List Sp:=mergeS (sortS (L.map spI))
theorem mergeS_snoc(D:List Sp)(s:Sp):mergeS (D++[s])=mrg (mergeS D) s:=by simp[mergeS]
theorem mrg_length(out:List Sp)(s:Sp):(mrg out s).length≤out.length+1:=by
 unfold mrg;cases h:out.getLast? with
 |none=>simp
 |some t=>
  simp only[];split
  · simp
  · simp
theorem mergeS_length(D:List Sp):(mergeS D).length≤D.length:=by
 have: ∀(D out:List Sp),(D.foldl mrg out).length≤out.length+D.length:=by
  intro D;induction D with
  |nil=>intro out;simp
  |cons x r ih=>
   intro out;have h1:=ih (mrg out x);have h2:=mrg_length out x;simp only[List.foldl_cons,List.length_cons];omega
 simpa [mergeS] using this D []
def SpOk(D:List Sp):Prop:= ∀s∈D,0≤s.1∧s.1<s.2∧s.2≤8589934592
def RetSpans(w:World)(D:List Sp)(e:Ending)(w':World):Prop:=
 ∃v,e=.returned v∧w'.ownsRow w.heap.size 186 2 v D.length (spvs D)∧Below w.heap.size w w'
theorem Tryz.infoSpan:(Tryz.prog.info? 186).map (fun i=>(i.zero,i.size,i.bytes))=some (some (.agg #[vi vk 0,vi vk 0]),2,16):=by kernel_rfl
theorem sreads_new(w:World)(a b:Int)(t:TypeId):Reads (w.alloc (.cells #[vi vk a,vi vk b] t)) (w.heap.size+1) 2 (some ⟨w.heap.size,0,none⟩) 1 (spv (a,b)):=by
 refine⟨rfl,fun _=>⟨_,rfl,by simp,fun j u hu=>?_⟩⟩;match j,hu with
 |0,hu=>simp[spv] at hu;subst hu;simp[Addr.add]
 |1,hu=>simp[spv] at hu;subst hu;simp[Addr.add]
 |j+2,hu=>simp[spv] at hu
theorem map_take_snoc(L:List Cl)(k:Nat)(hk:k<L.length):spvs ((L.take (k+1)).map spI)=spvs ((L.take k).map spI)++spv (spI (gt L k)):=by
 rw[List.take_succ_eq_append_getElem hk,List.map_append,spvs_append];simp[gt,hk,spvs]
theorem SReads.elem{w:World}{B n:Nat}{A:Option Addr}{D:List Sp}(h:Reads w B 2 A n (spvs D)){k:Nat}(hk:k<n):
 ∃b off,A=some ⟨b,off,none⟩∧b<B∧w.cell? ⟨b,off+k*2,none⟩=some (vi vk (gs D k).1)∧w.cell? ⟨b,off+k*2+1,none⟩=some (vi vk (gs D k).2):=by
 have hl:D.length=n:=by have:=h.1;rw[spvs_length] at this;omega
 obtain⟨ad,rfl,hb,hc⟩:=h.2 om_;obtain⟨b,off,spot⟩:=ad;obtain⟨z1,_⟩:=spvs_at D 0 om_;have hspot:spot=none:=by simpa [Addr.add] using World.cell?_spot (hc 0 _ (by simpa using z1))
 subst hspot;obtain⟨y1,y2⟩:=spvs_at D k om_;refine⟨b,off,rfl,hb,?_,?_⟩
 · have:=hc _ _ y1;rw[Go.WideShapes.add_plain] at this;exact this
 · have:=hc _ _ y2;rw[Go.WideShapes.add_plain] at this;exact this
theorem mergeS_take(S:List Sp)(k:Nat)(hk:k<S.length):mergeS (S.take (k+1))=mrg (mergeS (S.take k)) (gs S k):=by
 rw[List.take_succ_eq_append_getElem hk,mergeS_snoc];simp[gs,hk]
theorem mrg_nil(s:Sp):mrg [] s=[s]:=rfl
theorem mrg_in(M:List Sp)(t s:Sp)(h:s.1≤t.2):mrg (M++[t]) s=M++[(t.1,max t.2 s.2)]:=by simp[mrg,h]
theorem mrg_out(M:List Sp)(t s:Sp)(h: ¬s.1≤t.2):mrg (M++[t]) s=(M++[t])++[s]:=by simp[mrg,h]
theorem snoc_cases(M:List Sp):M=[]∨ ∃M' t,M=M'++[t]:=by
 rcases List.eq_nil_or_concat M with h|⟨M',t,h⟩
 · exact .inl h
 · exact .inr ⟨M',t,by simpa using h⟩
theorem spvs_last(M:List Sp)(t:Sp):(spvs (M++[t]))[M.length*2]? =some (vi vk t.1)∧(spvs (M++[t]))[M.length*2+1]? =some (vi vk t.2):=by
 have:=spvs_at (M++[t]) M.length (by simp);simpa [gs] using this
theorem spvs_set(M:List Sp)(t:Sp)(u:Int):(spvs (M++[t])).set (M.length*2+1) (vi vk u)=spvs (M++[(t.1,u)]):=by
 rw[spvs_append,spvs_append,←spvs_length M];rw[List.set_append_right _ _ om_];simp[spvs,spv]
theorem cover_any(A:Option Addr)(n c:Nat)(L:List Cl)(w:World)(hr:Reads w w.heap.size 3 A n (cvs L))(hn:n≤16000)(hv: ∀x∈L,vldB x.1 x.2.1 x.2.2=true):
 Calls Tryz.prog 110 #[.slice A n c] w (RetSpans w (coverL L)):=by
 have HL:=hid hr.len;have HR:=hid hr;have HV:=hid hv;clear hr hv;obtain⟨i0,hi0,hz0,hz1,hzb⟩:=info_parts Tryz.infoSpan;go_enter func110,ntmps110;go_wp2;go_loopw [3,12] (fun v i wr=> ∃k:Nat,k≤n∧i=vi vk k∧wr.ownsRow w.heap.size 186 2 v k (spvs ((L.take k).map spI))∧Below w.heap.size w wr) (fun _ i _=>n-(intOf i).toNat)
 case atStart=>exact⟨0,Nat.zero_le _,rfl,own_nil _ _ _ _,Below.refl _ _⟩
 case round=>
  obtain⟨k,hk,rfl,hown,hbr⟩:=hrel;by_cases hlt:k<n
  · obtain⟨b,off,rfl,hb,x1,x2,x3⟩:=HR.out.elem hlt
    have y1:=(hbr.cell (p:=⟨b,off+k*3,none⟩) hb).trans x1;have y2:=(hbr.cell (p:=⟨b,off+k*3+1,none⟩) hb).trans x2;have y3:=(hbr.cell (p:=⟨b,off+k*3+2,none⟩) hb).trans x3;clear x1 x2 x3;have hms:=hid (map_take_snoc L k (by rw[HL.out];exact hlt));have hs:=hid (fun W=>spanOf_any (gt L k) W (HV.out _ (by simp[gt,show k<L.length by rw[HL.out];exact hlt])));generalize gt L k=x at y1 y2 y3 hms hs;obtain⟨xl,xr,xc⟩:=x;generalize spI (xl,xr,xc)=s at hms hs;obtain⟨sf,st⟩:=s;simp only[] at y1 y2 y3 hms hs;have hz:=hbr.size;go_wp2_with (first|(go_at_call 148;refine(hs.out _).mono ?_;rintro e w1 ⟨rfl,hb1⟩;have hw1:=one_lt hb1;have hbl1:=one_bl hb1;have hown1:=own_bl hown hbl1 (Nat.le_refl _))|(at_builtin;(refine wpList_append_any _ rfl (.tmp 16) (.tmp 19) _ rfl w.heap.size 186 i0 _ 2 16 underlying149 hi0 hz0 hz1 hzb rfl dc_ u3 k (spvs ((L.take k).map spI)) rfl (hown1.alloc _) (w1.heap.size+1) (some ⟨w1.heap.size,0,none⟩) 1 1 (spv (sf,st)) rfl (sreads_new w1 _ _ _) (spv_one _) (by simp only[maxLen];omega) om_ (by simp;omega) ?_);intro v2 w2 hown2 hg2 hat2));go_roundw
    case rel=>exact⟨k+1,om_,by go_num,by rw[hms.out];exact hown2,((hbr.trans (hbl1.mono hz)).alloc om_ _).grown hg2 (by simp;omega) (own_base hown)⟩
    case measure=>simp[intOf];omega
  · have hkn:k=n:=by omega
    subst hkn;rw[List.take_of_length_le (by rw[HL.out];omega)] at hown;have hlen:k=(L.map spI).length:=by simp[HL.out]
    have hC:coverL L=mergeS (sortS (L.map spI)):=rfl;generalize L.map spI=D at hown hlen hC;subst hlen;have HC:=hid hC;clear hC;clear HR HV HL;obtain⟨A3,c3,hu3,-,-⟩:=own_form hown;subst hu3;have hS:=hid (sortSpan_any w.heap.size _ D wr hown om_);have hz:=hbr.size;go_wp2_with (go_at_call 149;refine hS.out.mono ?_;rintro e w2 ⟨rfl,hown2,hg2⟩);have hb2:Below w.heap.size w w2:=hbr.grown hg2 hz (own_base hown);have HS:=hid (Reads.of_own hown2);have hl2:=sortS_length D;clear hS hown hg2 hbr;generalize sortS D=S at hown2 HS hl2 HC;clear hown2;go_loopw [6,26] (fun v i wq=> ∃k:Nat,k≤D.length∧i=vi vk k∧wq.ownsRow w2.heap.size 186 2 v (mergeS (S.take k)).length (spvs (mergeS (S.take k)))∧Below w2.heap.size w2 wq) (fun _ i _=>D.length-(intOf i).toNat)
    case atStart=>exact⟨0,Nat.zero_le _,rfl,own_nil _ _ _ _,Below.refl _ _⟩
    case round=>
     obtain⟨k,hk,rfl,hown,hbr⟩:=hrel;have hz2:=hbr.size;have hzz:=hb2.size;by_cases hlt:k<D.length
     · obtain⟨b,off,rfl,hb,x1,x2⟩:=SReads.elem HS.out hlt
       have y1:=(hbr.cell (p:=⟨b,off+k*2,none⟩) hb).trans x1;have y2:=(hbr.cell (p:=⟨b,off+k*2+1,none⟩) hb).trans x2;clear x1 x2;have hms:=hid (mergeS_take S k om_);have hMl:(mergeS (S.take k)).length≤16000:=by
        have h1:=mergeS_length (S.take k);have h2:(S.take k).length≤k:=List.length_take_le _ _;omega
       generalize gs S k=s at y1 y2 hms;obtain⟨sf,st⟩:=s;simp only[] at y1 y2;generalize mergeS (S.take k)=M at hown hms hMl;rcases snoc_cases M with rfl|⟨M',t,rfl⟩
       · obtain⟨A4,c4,hu4,-,-⟩:=own_form hown
         subst hu4;simp only[List.length_nil] at hown hMl⊢;go_wp2;go_quiet (fail);have hown5:((wr.alloc (.cells #[vi vk sf,vi vk st] 186)).drewN nq).ownsRow w2.heap.size 186 2 (.slice A4 0 c4) 0 []:=hown.alloc _;have hsz5:wr.heap.size<((wr.alloc (.cells #[vi vk sf,vi vk st] 186)).drewN nq).heap.size:=by simp
         have q51:((wr.alloc (.cells #[vi vk sf,vi vk st] 186)).drewN nq).cell? ⟨wr.heap.size,0,none⟩=some (vi vk sf):=by simp
         have q52:((wr.alloc (.cells #[vi vk sf,vi vk st] 186)).drewN nq).cell? ⟨wr.heap.size,1,none⟩=some (vi vk st):=by simp
         have hb5:Below w2.heap.size w2 ((wr.alloc (.cells #[vi vk sf,vi vk st] 186)).drewN nq):=bl_drewN (hbr.alloc hz2 _) _;generalize (wr.alloc (.cells #[vi vk sf,vi vk st] 186)).drewN nq=w5 at hown5 hsz5 q51 q52 hb5⊢;go_wp2_with (at_builtin;(refine wpList_append_any _ rfl (.tmp 59) (.tmp 61) _ rfl w2.heap.size 186 i0 _ 2 16 underlying149 hi0 hz0 hz1 hzb rfl dc_ (.slice A4 0 c4) 0 [] rfl (hown5.alloc _) (w5.heap.size+1) (some ⟨w5.heap.size,0,none⟩) 1 1 (spv (sf,st)) rfl (sreads_new w5 _ _ _) (spv_one _) (by simp only[maxLen];omega) om_ (by simp;omega) ?_);intro v2 w3 hown3 hg3 hat3);go_roundw
         case rel=>exact⟨k+1,om_,by go_num,by rw[hms.out,mrg_nil];exact hown3,(hb5.alloc om_ _).grown hg3 (by simp;omega) (own_base hown5)⟩
         case measure=>simp[intOf];omega
       · obtain⟨g,cap,hu4,hg,hgl⟩:=hown.form (by simp)
         subst hu4;obtain⟨tf,tt⟩:=t;have hle:(M'++[(tf,tt)]).length=M'.length+1:=by simp
         rw[hle] at hown hMl⊢;obtain⟨p1,p2⟩:=spvs_last M' (tf,tt);obtain⟨q1,q1'⟩:=own_cell hown _ _ p1;obtain⟨q2,q2'⟩:=own_cell hown _ _ p2;simp only[] at q1 q2;clear p1 p2;have s1:IntKind.i64.wrap ((M'.length:Int)+1-1)=(M'.length:Int):=by rw[show(M'.length:Int)+1-1=(M'.length:Int) by omega];exact IntWalk.i64_in _ om_
         have s1':IntKind.i64.wrap (M'.length:Int)=(M'.length:Int):=IntWalk.i64_in _ (by clear s1;omega);have s2:(0:Int)<(M'.length:Int)+1:=by clear s1 s1';omega
         have s3:(M'.length:Int)<(M'.length:Int)+1:=by clear s1 s1';omega
         by_cases hst:sf≤tt
         · have hmi:=hid (mrg_in M' (tf,tt) (sf,st) hst)
           go_wp2;go_quiet (fail);have hown5:((wr.alloc (.cells #[vi vk sf,vi vk st] 186)).drewN nq).ownsRow w2.heap.size 186 2 (.slice (some ⟨g,0,none⟩) (M'.length+1) cap) (M'.length+1) (spvs (M'++[(tf,tt)])):=hown.alloc _;have hsz5:wr.heap.size<((wr.alloc (.cells #[vi vk sf,vi vk st] 186)).drewN nq).heap.size:=by simp
           have q51:((wr.alloc (.cells #[vi vk sf,vi vk st] 186)).drewN nq).cell? ⟨wr.heap.size,0,none⟩=some (vi vk sf):=by simp
           have q52:((wr.alloc (.cells #[vi vk sf,vi vk st] 186)).drewN nq).cell? ⟨wr.heap.size,1,none⟩=some (vi vk st):=by simp
           have hb5:Below w2.heap.size w2 ((wr.alloc (.cells #[vi vk sf,vi vk st] 186)).drewN nq):=bl_drewN (hbr.alloc hz2 _) _;generalize (wr.alloc (.cells #[vi vk sf,vi vk st] 186)).drewN nq=w5 at hown5 hsz5 q51 q52 hb5⊢;obtain⟨p1,p2⟩:=spvs_last M' (tf,tt);obtain⟨r1,r1'⟩:=own_cell hown5 _ _ p1;obtain⟨r2,r2'⟩:=own_cell hown5 _ _ p2;simp only[] at r1 r2;clear p1 p2 q1 q1' q2 q2';have hne:wr.heap.size≠g:=by omega
           go_wp2;refine wp_still_tail 14 (by kernel_rfl) (by kernel_rfl) ?_;simp only[List.take_succ_cons,List.take_zero,List.drop_succ_cons,List.drop_zero];repeat still_step
           refine wpStill_nil ?_;go_wp2;go_roundw
           case rel=>
            have hset:=own_set hown5 (M'.length*2+1) (vi vk (max tt st)) om_;rw[spvs_set] at hset;refine⟨k+1,om_,by go_num,?_,(hb5.setCell hg _).drew⟩;rw[hms.out,hmi.out,List.length_append];exact hset
           case measure=>simp[intOf];omega
         · have hmo:=hid (mrg_out M' (tf,tt) (sf,st) hst)
           have hd:=decide_eq_false hst;go_wp2;go_quiet (fail);have hown5:((wr.alloc (.cells #[vi vk sf,vi vk st] 186)).drewN nq).ownsRow w2.heap.size 186 2 (.slice (some ⟨g,0,none⟩) (M'.length+1) cap) (M'.length+1) (spvs (M'++[(tf,tt)])):=hown.alloc _;have hsz5:wr.heap.size<((wr.alloc (.cells #[vi vk sf,vi vk st] 186)).drewN nq).heap.size:=by simp
           have q51:((wr.alloc (.cells #[vi vk sf,vi vk st] 186)).drewN nq).cell? ⟨wr.heap.size,0,none⟩=some (vi vk sf):=by simp
           have q52:((wr.alloc (.cells #[vi vk sf,vi vk st] 186)).drewN nq).cell? ⟨wr.heap.size,1,none⟩=some (vi vk st):=by simp
           have hb5:Below w2.heap.size w2 ((wr.alloc (.cells #[vi vk sf,vi vk st] 186)).drewN nq):=bl_drewN (hbr.alloc hz2 _) _;generalize (wr.alloc (.cells #[vi vk sf,vi vk st] 186)).drewN nq=w5 at hown5 hsz5 q51 q52 hb5⊢;clear q1 q1' q2 q2';go_wp2_with (at_builtin;(refine wpList_append_any _ rfl (.tmp 59) (.tmp 61) _ rfl w2.heap.size 186 i0 _ 2 16 underlying149 hi0 hz0 hz1 hzb rfl dc_ (.slice (some ⟨g,0,none⟩) (M'.length+1) cap) (M'.length+1) (spvs (M'++[(tf,tt)])) rfl (hown5.alloc _) (w5.heap.size+1) (some ⟨w5.heap.size,0,none⟩) 1 1 (spv (sf,st)) rfl (sreads_new w5 _ _ _) (spv_one _) (by simp only[maxLen];omega) om_ (by simp;omega) ?_);intro v2 w3 hown3 hg3 hat3);go_roundw
           case rel=>exact⟨k+1,om_,by go_num,by rw[hms.out,hmo.out];rw[List.length_append,hle,spvs_append];exact hown3,(hb5.alloc om_ _).grown hg3 (by simp;omega) (own_base hown5)⟩
           case measure=>simp[intOf];omega
     · have hkk:k=D.length:=by omega
       rw[hkk,List.take_of_length_le om_] at hown;go_wp2;go_ret;exact⟨_,rfl,by rw[HC.out];exact own_mono hown hzz,hb2.trans (hbr.mono hzz)⟩
end
def lv(f t:Nat):Nat→Nat
 |0=>0
 |l+1=>if f%csz l≠0∨t<f+csz l then l+1 else lv f t l
theorem lv_le(f t:Nat): ∀l,lv f t l≤l
 |0=>Nat.le_refl _
 |l+1=>by
  unfold lv;split
  · exact Nat.le_refl _
  · have:=lv_le f t l;omega
def cellN(n l:Nat):Cl:=((l:Int),((rwTo l n:Nat):Int),((colOf l n:Nat):Int))
def cutFu:Nat→Nat→Nat→List Cl
 |0,_,_=>[]
 |fu+1,f,t=>if f<t then cellN (f/csz (lv f t 16)) (lv f t 16)::cutFu fu (f+csz (lv f t 16)) t else[]
theorem cutFu_more: ∀(a b f t:Nat),t-f≤a→t-f≤b→cutFu a f t=cutFu b f t
 |0,0,_,_,_,_=>rfl
 |0,b+1,f,t,h,_=>by
  have: ¬f<t:=by omega
  simp[cutFu,this]
 |a+1,0,f,t,_,h=>by
  have: ¬f<t:=by omega
  simp[cutFu,this]
 |a+1,b+1,f,t,h1,h2=>by
  unfold cutFu;by_cases h:f<t
  · have hp:=csz_pos (lv f t 16)
    rw[if_pos h,if_pos h,cutFu_more a b _ t om_ om_]
  · rw[if_neg h,if_neg h]
def cut(f t:Nat):List Cl:=cutFu (t-f) f t
theorem cut_no{f t:Nat}(h: ¬f<t):cut f t=[]:=by
 unfold cut;rw[show t-f=0 by omega];rfl
theorem cut_yes{f t:Nat}(h:f<t):cut f t=cellN (f/csz (lv f t 16)) (lv f t 16)::cut (f+csz (lv f t 16)) t:=by
 unfold cut;obtain⟨k,hk⟩: ∃k,t-f=k+1:=⟨t-f-1,om_⟩;have hp:=csz_pos (lv f t 16);rw[hk,cutFu,if_pos h,cutFu_more k (t-(f+csz (lv f t 16))) _ t om_ om_]
def cutS(s:Sp):List Cl:=cut s.1.toNat s.2.toNat
def tidyL(D:List Sp):List Cl:=D.flatMap cutS
theorem tidyL_take(D:List Sp)(k:Nat)(hk:k<D.length):tidyL (D.take (k+1))=tidyL (D.take k)++cutS (gs D k):=by
 rw[List.take_succ_eq_append_getElem hk];unfold tidyL;rw[List.flatMap_append];simp[gs,hk]
theorem lv_pos(f t l:Nat)(h:1≤l):lv f t l=if f%csz (l-1)≠0∨t<f+csz (l-1) then l else lv f t (l-1):=by
 obtain⟨k,rfl⟩: ∃k,l=k+1:=⟨l-1,om_⟩;rfl
theorem csz16:csz 16=1:=rfl
theorem lv_fit'(f t:Nat): ∀l,f+csz l≤t→f+csz (lv f t l)≤t
 |0,h=>h
 |l+1,h=>by
  unfold lv;split
  · exact h
  · rename_i hc
    exact lv_fit' f t l om_
theorem lv_fit{f t:Nat}(h:f<t):f+csz (lv f t 16)≤t:=lv_fit' f t 16 (by rw[csz16];omega)
theorem csz_up(l:Nat)(h1:1≤l)(h2:l≤16):(2:Int)^(2*(16-l+1))=(csz (l-1):Int):=by
 rw[←csz_shift' (l-1)];congr 2
 omega
def RetTidy(w:World)(D:List Sp)(e:Ending)(w':World):Prop:=
 Below w.heap.size w w'∧
 (((tidyL D).length≤4000∧ ∃v,e=.returned (.tuple #[v,.bool true])∧w'.ownsRow w.heap.size 58 3 v (tidyL D).length (cvs (tidyL D)))∨
  (4000<(tidyL D).length∧e=.returned (.tuple #[.slice none 0 0,.bool false])))
def qI(f l:Nat):Int:=(f/csz l:Nat)
theorem qI_eq(f l:Nat)(h:f<8589934592):wrap64 ((f:Int)/(csz l:Int))=qI f l:=by
 have e:(f:Int)/(csz l:Int)=qI f l:=by unfold qI;simp
 have h2:=Nat.div_le_self f (csz l);rw[e];refine IntWalk.wrap64_in _ ?_;unfold qI;generalize f/csz l=z at*;omega
theorem cellOf_q(f l:Nat)(w:World)(h1:l≤16)(h2:f<8589934592):
 Calls Tryz.prog 147 #[vi vk (qI f l),vi vk l] w fun e w'=>e=.returned (.agg #[vi vk (cellN (f/csz l) l).1,vi vk (cellN (f/csz l) l).2.1,vi vk (cellN (f/csz l) l).2.2])∧Below w.heap.size w w':=by
 refine cellOf_nat (f/csz l) l w h1 ?_;rw[Nat.div_lt_iff_lt_mul (csz_pos l),Nat.mul_assoc,csz_mul l h1];exact h2
theorem tidy_any(A:Option Addr)(n c:Nat)(D:List Sp)(w:World)(hr:Reads w w.heap.size 2 A n (spvs D))(hn:n≤1000000)(hok:SpOk D):
 Calls Tryz.prog 109 #[.slice A n c] w (RetTidy w D):=by
 have hl:D.length=n:=by have:=hr.1;rw[spvs_length] at this;omega
 have HL:=hid hl;have HR:=hid hr;have HO:=hid hok;clear hr hok hl;obtain⟨i0,hi0,hz0,hz1,hzb⟩:=info_parts Tryz.infoCell;go_enter func109,ntmps109;go_wp2;go_loopw [4,12] (fun v i wr=> ∃k:Nat,k≤n∧i=vi vk k∧(tidyL (D.take k)).length≤4000∧wr.ownsRow w.heap.size 58 3 v (tidyL (D.take k)).length (cvs (tidyL (D.take k)))∧Below w.heap.size w wr) (fun _ i _=>n-(intOf i).toNat)
 case atStart=>exact⟨0,Nat.zero_le _,rfl,by simp[tidyL],own_nil _ _ _ _,Below.refl _ _⟩
 case round=>
  obtain⟨k,hk,rfl,hln,hown,hbr⟩:=hrel;have hz:=hbr.size;by_cases hlt:k<n
  · obtain⟨b,off,rfl,hb,x1,x2⟩:=SReads.elem HR.out hlt
    have y1:=(hbr.cell (p:=⟨b,off+k*2,none⟩) hb).trans x1;have y2:=(hbr.cell (p:=⟨b,off+k*2+1,none⟩) hb).trans x2;clear x1 x2;have hkl:k<D.length:=by rw[HL.out];exact hlt
    have hos:=HO.out (gs D k) (by simp[gs,hkl]);have hts:=tidyL_take D k hkl;have hpre: ∃R,tidyL D=tidyL (D.take (k+1))++R:=⟨tidyL (D.drop (k+1)),by simp only[tidyL];rw[←List.flatMap_append,List.take_append_drop]⟩;have HP:=hid hpre;clear hpre hkl;generalize gs D k=s at y1 y2 hos hts;obtain⟨sf,st⟩:=s;obtain⟨o1,o2,o3⟩:=hos;simp only[] at y1 y2 o1 o2 o3;obtain⟨f0,rfl⟩:=Int.eq_ofNat_of_zero_le o1;obtain⟨t0,rfl⟩:=Int.eq_ofNat_of_zero_le (show 0≤st by omega);have hcs:cutS ((f0:Int),(t0:Int))=cut f0 t0:=rfl;rw[hcs] at hts;clear hcs;generalize hP1:tidyL (D.take (k+1))=P1 at hts HP;have HP1:=hid hP1;clear hP1;generalize tidyL (D.take k)=P0 at hts hln hown;have HT:=hid hts;clear hts;go_wp2;have hB:=Blk.new wr 186 #[vi vk (f0:Int),vi vk (t0:Int)];have hown4:=hown.alloc (.cells #[vi vk (f0:Int),vi vk (t0:Int)] 186);have hb4:=hbr.alloc hz (.cells #[vi vk (f0:Int),vi vk (t0:Int)] 186);have hz4:w.heap.size≤wr.heap.size:=hz;generalize wr.alloc (.cells #[vi vk (f0:Int),vi vk (t0:Int)] 186)=w4 at hB hown4 hb4⊢;generalize wr.heap.size=bS at hB hz4⊢;clear hown hbr hz y1 y2;go_loopg [4] (t0-f0) (fun gg v wq=> ∃(f:Nat) (M:List Cl),gg=t0-f∧Blk wq bS 186 #[vi vk (f:Int),vi vk (t0:Int)]∧M.length≤4000∧wq.ownsRow w.heap.size 58 3 v M.length (cvs M)∧RowKit.Below w.heap.size w wq∧f≤t0∧M++cut f t0=P1)
    case atStart=>exact⟨f0,P0,rfl,hB,hln,hown4,hb4,om_,HT.out.symm⟩
    case round=>
     clear hown4 hb4 hB HT hln;obtain⟨f,M,hg,hB,hM,hown,hbq,hft,hcut⟩:=hrel;have HC:=hid hcut;have HG:=hid hg;clear hcut hg;have q0:wr.cell? ⟨bS,0,none⟩=some (vi vk (f:Int)):=hB.cell 0;have q1:wr.cell? ⟨bS,1,none⟩=some (vi vk (t0:Int)):=hB.cell 1;have q2:wr.frozen? ⟨bS,0,none⟩=false:=hB.frozen 0;have hzq:=hbq.size;by_cases hlt2:f<t0
     · go_wp2
       have hzc:=fun l=>csz_le l;have HZ:=hid hzc;clear hzc;go_loop [7] (fun v7=> ∃l:Nat,l≤16∧v7=vi vk l∧lv f t0 16=lv f t0 l) (fun v7=>(intOf v7).toNat)
       case atStart=>exact⟨16,om_,rfl,rfl⟩
       case round=>
        obtain⟨l,hl16,rfl,hlv⟩:=hrel;have HLV:=hid hlv;clear hlv;have hzl:=HZ.out (l-1);have hzl':=HZ.out l;by_cases hc:1≤l∧f%csz (l-1)=0∧f+csz (l-1)≤t0
        · obtain⟨c1,c2,c3⟩:=hc
          have hlv2:=lv_pos f t0 l c1;rw[if_neg om_] at hlv2;have HLV2:=hid hlv2;clear hlv2;have hl0:0<l:=c1;have hcp:=csz_pos (l-1);have hc0: ¬csz (l-1)=0:=by omega
          have c4:(f:Int)+(csz (l-1):Int)≤(t0:Int):=by omega
          have e1:wrap64 ((2:Int)^(2*(16-l+1)))=(csz (l-1):Int):=by rw[csz_up l c1 hl16];exact IntWalk.wrap64_in _ om_
          have E1:=hid e1;clear e1;go_upto_region 9 with fail
          rw[E1.out];clear E1;have e2:((f:Int)%(csz (l-1):Int) != 0)=false:=by
           rw[bne_eq_false_iff_eq];exact_mod_cast c2
          clear c2 c3;go_wp2;clear e2;go_round
          case rel=>exact⟨l-1,om_,by congr 1;omega,by rw[HLV.out,HLV2.out]⟩
          case measure=>simp[intOf];omega
        · have hL:lv f t0 16=l:=by
           rw[HLV.out];rcases Nat.eq_zero_or_pos l with h|h
           · subst h;rfl
           · rw[lv_pos f t0 l h,if_pos]
             by_cases h2:f%csz (l-1)=0
             · exact .inr (by
                have: ¬f+csz (l-1)≤t0:=fun h3=>hc ⟨h,h2,h3⟩;omega)
             · exact .inl h2
          have hfit:=lv_fit hlt2;have hcy:=cut_yes hlt2;rw[hL] at hfit hcy;have hcy:=hid hcy;have hcell:=hid (fun W=>cellOf_q f l W hl16 om_);have hzl2:=csz_pos l;generalize cellN (f/csz l) l=x at hcy hcell;obtain⟨xa,xb,xc⟩:=x;simp only[] at hcell;have hcz: ¬csz l=0:=by omega
          have E2:=hid (show wrap64 ((2:Int)^(2*(16-l)))=(csz l:Int) from by rw[csz_shift' l];exact IntWalk.wrap64_in _ om_);clear hL HLV;have hways:(¬0<l)∨(1≤l∧ ¬f%csz (l-1)=0)∨(1≤l∧f%csz (l-1)=0∧t0<f+csz (l-1)):=by
           rcases Nat.eq_zero_or_pos l with h|h
           · exact .inl om_
           · by_cases h2:f%csz (l-1)=0
             · exact .inr (.inr ⟨h,h2,by
                have: ¬f+csz (l-1)≤t0:=fun h3=>hc ⟨h,h2,h3⟩;omega⟩)
             · exact .inr (.inl ⟨h,h2⟩)
          rcases hways with hl0|⟨c1,c2⟩|⟨c1,c2,c3⟩
          · skip
            go_upto_region 12 with fail
            rw[E2.out];have F1:=hid (qI_eq f l om_);clear hc E2;go_wp2_with fail;rw[F1.out];with_reducible refine(hcell.out _).mono ?_
            rintro e w5 ⟨rfl,hb5⟩
            have hown5:=own_bl hown hb5 (Nat.le_refl _);have hz5:=hb5.size;have hB5:=hB.below hb5 hB.lt;by_cases hov:M.length+1≤4000
            · have hov':M.length≤3999:=by omega
              go_wp2_with ((at_builtin;(refine wpList_append_any _ rfl (.tmp 48) (.tmp 55) _ rfl w.heap.size 58 i0 _ 3 24 underlying22 hi0 hz0 hz1 hzb rfl dc_ u4 M.length (cvs M) rfl (hown5.alloc _) (w5.heap.size+1) (some ⟨w5.heap.size,0,none⟩) 1 1 (cv (xa,xb,xc)) rfl (reads_new w5 _ _ _ _) (cv_one _) (by simp only[maxLen];omega) om_ (by simp;omega) ?_);intro v2 w6 hown6 hg6 hat6;have hB6:=(hB5.alloc (.cells #[vi vk xa,vi vk xb,vi vk xc] 58)).grown hg6 (fun e=>own_blk_ne hown5 hB5 dc_ e.symm);have r0:w6.cell? ⟨bS,0,none⟩=some (vi vk (f:Int)):=hB6.cell 0;have r2:=hB6.frozen 0;obtain⟨A6,c6,rfl,-,-⟩:=own_form hown6));go_roundg (t0-(f+csz l))
              case measure=>have:=HG.out;omega
              case rel=>
               refine⟨f+csz l,M++[(xa,xb,xc)],rfl,?_,by simp;omega,?_,?_,om_,?_⟩
               · have:=hB6.set_ 0 (vi vk ((f:Int)+(csz l:Int)))
                 simpa using this
               · rw[cvs_append,List.length_append]
                 exact ownsRow_far hown6 hB6 dc_
               · exact(((hbq.trans (hb5.mono hzq)).alloc om_ _).grown hg6 (by simp;omega) (own_base hown)).setCell hz4 _
               · rw[←HC.out,hcy.out]
                 simp
            · have hov':4000≤M.length:=by omega
              have hov2: ¬M.length≤3999:=by omega
              go_wp2_with ((at_builtin;(refine wpList_append_any _ rfl (.tmp 48) (.tmp 55) _ rfl w.heap.size 58 i0 _ 3 24 underlying22 hi0 hz0 hz1 hzb rfl dc_ u4 M.length (cvs M) rfl (hown5.alloc _) (w5.heap.size+1) (some ⟨w5.heap.size,0,none⟩) 1 1 (cv (xa,xb,xc)) rfl (reads_new w5 _ _ _ _) (cv_one _) (by simp only[maxLen];omega) om_ (by simp;omega) ?_);intro v2 w6 hown6 hg6 hat6;obtain⟨A6,c6,rfl,-,-⟩:=own_form hown6));go_ret2
              refine⟨((hbq.trans (hb5.mono hzq)).alloc om_ _).grown hg6 (by simp;omega) (own_base hown),.inr ⟨?_,rfl⟩⟩;obtain⟨R,hR⟩:=HP.out;rw[hR,←HC.out,hcy.out];simp;omega
          · skip
            have e1:wrap64 ((2:Int)^(2*(16-l+1)))=(csz (l-1):Int):=by rw[csz_up l c1 hl16];exact IntWalk.wrap64_in _ om_
            have E1:=hid e1;clear e1;have hl0:0<l:=c1;have hcp:=csz_pos (l-1);have hc0: ¬csz (l-1)=0:=by omega
            go_upto_region 9 with fail
            rw[E1.out];clear E1;have e2:((f:Int)%(csz (l-1):Int) != 0)=true:=by
             rw[bne_iff_ne];exact_mod_cast c2
            clear c2;go_upto_region 12 with fail
            clear e2;rw[E2.out];have F1:=hid (qI_eq f l om_);clear hc E2;go_wp2_with fail;rw[F1.out];with_reducible refine(hcell.out _).mono ?_
            rintro e w5 ⟨rfl,hb5⟩
            have hown5:=own_bl hown hb5 (Nat.le_refl _);have hz5:=hb5.size;have hB5:=hB.below hb5 hB.lt;by_cases hov:M.length+1≤4000
            · have hov':M.length≤3999:=by omega
              go_wp2_with ((at_builtin;(refine wpList_append_any _ rfl (.tmp 48) (.tmp 55) _ rfl w.heap.size 58 i0 _ 3 24 underlying22 hi0 hz0 hz1 hzb rfl dc_ u4 M.length (cvs M) rfl (hown5.alloc _) (w5.heap.size+1) (some ⟨w5.heap.size,0,none⟩) 1 1 (cv (xa,xb,xc)) rfl (reads_new w5 _ _ _ _) (cv_one _) (by simp only[maxLen];omega) om_ (by simp;omega) ?_);intro v2 w6 hown6 hg6 hat6;have hB6:=(hB5.alloc (.cells #[vi vk xa,vi vk xb,vi vk xc] 58)).grown hg6 (fun e=>own_blk_ne hown5 hB5 dc_ e.symm);have r0:w6.cell? ⟨bS,0,none⟩=some (vi vk (f:Int)):=hB6.cell 0;have r2:=hB6.frozen 0;obtain⟨A6,c6,rfl,-,-⟩:=own_form hown6));go_roundg (t0-(f+csz l))
              case measure=>have:=HG.out;omega
              case rel=>
               refine⟨f+csz l,M++[(xa,xb,xc)],rfl,?_,by simp;omega,?_,?_,om_,?_⟩
               · have:=hB6.set_ 0 (vi vk ((f:Int)+(csz l:Int)))
                 simpa using this
               · rw[cvs_append,List.length_append]
                 exact ownsRow_far hown6 hB6 dc_
               · exact(((hbq.trans (hb5.mono hzq)).alloc om_ _).grown hg6 (by simp;omega) (own_base hown)).setCell hz4 _
               · rw[←HC.out,hcy.out]
                 simp
            · have hov':4000≤M.length:=by omega
              have hov2: ¬M.length≤3999:=by omega
              go_wp2_with ((at_builtin;(refine wpList_append_any _ rfl (.tmp 48) (.tmp 55) _ rfl w.heap.size 58 i0 _ 3 24 underlying22 hi0 hz0 hz1 hzb rfl dc_ u4 M.length (cvs M) rfl (hown5.alloc _) (w5.heap.size+1) (some ⟨w5.heap.size,0,none⟩) 1 1 (cv (xa,xb,xc)) rfl (reads_new w5 _ _ _ _) (cv_one _) (by simp only[maxLen];omega) om_ (by simp;omega) ?_);intro v2 w6 hown6 hg6 hat6;obtain⟨A6,c6,rfl,-,-⟩:=own_form hown6));go_ret2
              refine⟨((hbq.trans (hb5.mono hzq)).alloc om_ _).grown hg6 (by simp;omega) (own_base hown),.inr ⟨?_,rfl⟩⟩;obtain⟨R,hR⟩:=HP.out;rw[hR,←HC.out,hcy.out];simp;omega
          · skip
            have e1:wrap64 ((2:Int)^(2*(16-l+1)))=(csz (l-1):Int):=by rw[csz_up l c1 hl16];exact IntWalk.wrap64_in _ om_
            have E1:=hid e1;clear e1;have hl0:0<l:=c1;have hcp:=csz_pos (l-1);have hc0: ¬csz (l-1)=0:=by omega
            go_upto_region 9 with fail
            rw[E1.out];clear E1;have e2:((f:Int)%(csz (l-1):Int) != 0)=false:=by
             rw[bne_eq_false_iff_eq];exact_mod_cast c2
            have c4:(t0:Int)<(f:Int)+(csz (l-1):Int):=by clear e2;omega
            clear c2 c3;go_upto_region 12 with fail
            clear e2;rw[E2.out];have F1:=hid (qI_eq f l om_);clear hc E2;go_wp2_with fail;rw[F1.out];with_reducible refine(hcell.out _).mono ?_
            rintro e w5 ⟨rfl,hb5⟩
            have hown5:=own_bl hown hb5 (Nat.le_refl _);have hz5:=hb5.size;have hB5:=hB.below hb5 hB.lt;by_cases hov:M.length+1≤4000
            · have hov':M.length≤3999:=by omega
              go_wp2_with ((at_builtin;(refine wpList_append_any _ rfl (.tmp 48) (.tmp 55) _ rfl w.heap.size 58 i0 _ 3 24 underlying22 hi0 hz0 hz1 hzb rfl dc_ u4 M.length (cvs M) rfl (hown5.alloc _) (w5.heap.size+1) (some ⟨w5.heap.size,0,none⟩) 1 1 (cv (xa,xb,xc)) rfl (reads_new w5 _ _ _ _) (cv_one _) (by simp only[maxLen];omega) om_ (by simp;omega) ?_);intro v2 w6 hown6 hg6 hat6;have hB6:=(hB5.alloc (.cells #[vi vk xa,vi vk xb,vi vk xc] 58)).grown hg6 (fun e=>own_blk_ne hown5 hB5 dc_ e.symm);have r0:w6.cell? ⟨bS,0,none⟩=some (vi vk (f:Int)):=hB6.cell 0;have r2:=hB6.frozen 0;obtain⟨A6,c6,rfl,-,-⟩:=own_form hown6));go_roundg (t0-(f+csz l))
              case measure=>have:=HG.out;omega
              case rel=>
               refine⟨f+csz l,M++[(xa,xb,xc)],rfl,?_,by simp;omega,?_,?_,om_,?_⟩
               · have:=hB6.set_ 0 (vi vk ((f:Int)+(csz l:Int)))
                 simpa using this
               · rw[cvs_append,List.length_append]
                 exact ownsRow_far hown6 hB6 dc_
               · exact(((hbq.trans (hb5.mono hzq)).alloc om_ _).grown hg6 (by simp;omega) (own_base hown)).setCell hz4 _
               · rw[←HC.out,hcy.out]
                 simp
            · have hov':4000≤M.length:=by omega
              have hov2: ¬M.length≤3999:=by omega
              go_wp2_with ((at_builtin;(refine wpList_append_any _ rfl (.tmp 48) (.tmp 55) _ rfl w.heap.size 58 i0 _ 3 24 underlying22 hi0 hz0 hz1 hzb rfl dc_ u4 M.length (cvs M) rfl (hown5.alloc _) (w5.heap.size+1) (some ⟨w5.heap.size,0,none⟩) 1 1 (cv (xa,xb,xc)) rfl (reads_new w5 _ _ _ _) (cv_one _) (by simp only[maxLen];omega) om_ (by simp;omega) ?_);intro v2 w6 hown6 hg6 hat6;obtain⟨A6,c6,rfl,-,-⟩:=own_form hown6));go_ret2
              refine⟨((hbq.trans (hb5.mono hzq)).alloc om_ _).grown hg6 (by simp;omega) (own_base hown),.inr ⟨?_,rfl⟩⟩;obtain⟨R,hR⟩:=HP.out;rw[hR,←HC.out,hcy.out];simp;omega
     · have hcn:=hid (cut_no hlt2)
       go_wp2;go_roundw
       case rel=>
        have h1:=HC.out;rw[hcn.out,List.append_nil] at h1;rw[←HP1.out] at h1;exact⟨k+1,om_,by go_num,by rw[←h1];exact hM,by rw[←h1];exact hown,hbq⟩
       case measure=>simp[intOf];omega
  · have hkk:k=n:=by omega
    subst hkk;rw[List.take_of_length_le (by rw[HL.out];omega)] at hown hln;go_wp2;go_ret2
    exact⟨hbr,.inl ⟨hln,_,rfl,hown⟩⟩
theorem spOk_spI(x:Cl)(hv:vldB x.1 x.2.1 x.2.2=true):0≤(spI x).1∧(spI x).1<(spI x).2∧(spI x).2≤8589934592:=by
 obtain⟨h0,h1,h2,h3,h4,h5⟩:=vldB_true.1 hv;obtain⟨l,r,c⟩:=x;obtain⟨l,rfl⟩:=Int.eq_ofNat_of_zero_le h0;obtain⟨r,rfl⟩:=Int.eq_ofNat_of_zero_le h2;obtain⟨c,rfl⟩:=Int.eq_ofNat_of_zero_le h4;simp only[pw,Int.toNat_natCast] at h3 h5;have h5':c<2*2^l:=by exact_mod_cast h5
 have hb:=sp_bd l r c (by simp only[] at h1;omega) h5';have hp:=csz_pos l;have h6:(mort l r c+1)*csz l=mort l r c*csz l+csz l:=by rw[Nat.add_mul];simp
 simp only[spI,spF,spT,mortI,Int.toNat_natCast];omega
theorem spOk_mrg(M:List Sp)(s:Sp)(hM:SpOk M)(hs:0≤s.1∧s.1<s.2∧s.2≤8589934592):SpOk (mrg M s):=by
 rcases snoc_cases M with rfl|⟨M',t,rfl⟩
 · rw[mrg_nil]
   intro x hx;simp at hx;subst hx;exact hs
 · have ht:=hM t (by simp)
   by_cases h:s.1≤t.2
   · rw[mrg_in _ _ _ h]
     intro x hx;simp at hx;rcases hx with hx|rfl
     · exact hM x (by simp[hx])
     · simp only[]
       omega
   · rw[mrg_out _ _ _ h]
     intro x hx;simp only[List.mem_append,List.mem_singleton] at hx;rcases hx with hx|rfl
     · exact hM x (by simpa using hx)
     · exact hs
theorem spOk_merge(D:List Sp)(hD:SpOk D):SpOk (mergeS D):=by
 have: ∀(D M:List Sp),SpOk D→SpOk M→SpOk (D.foldl mrg M):=by
  intro D;induction D with
  |nil=>intro M _ hM;exact hM
  |cons x r ih=>
   intro M hD hM;exact ih _ (fun y hy=>hD y (by simp[hy])) (spOk_mrg M x hM (hD x (by simp)))
 exact this D [] hD (fun _ h=>by simp at h)
theorem spOk_cover(L:List Cl)(hv: ∀x∈L,vldB x.1 x.2.1 x.2.2=true):SpOk (coverL L):=by
 refine spOk_merge _ fun s hs=>?_;have h:=(List.mem_mergeSort).1 hs;simp only[List.mem_map] at h;obtain⟨x,hx,rfl⟩:=h;exact spOk_spI x (hv x hx)
def badL(L:List Cl):Bool:=L.any fun x=> !(vldB x.1 x.2.1 x.2.2)
theorem badL_false{L:List Cl}(h:badL L=false): ∀x∈L,vldB x.1 x.2.1 x.2.2=true:=by
 intro x hx;unfold badL at h;rw[List.any_eq_false] at h;simpa using h x hx
theorem coverL_length(L:List Cl):(coverL L).length≤L.length:=by
 have h1:=mergeS_length (sortS (L.map spI));rw[sortS_length,List.length_map] at h1;exact h1
end Go.Proofs.YtdeiofgddhbdaaaGreatDoor
