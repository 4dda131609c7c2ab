/- Walks of the reference's has, holds, below. -/
import Derived.Deep.Cut
import Derived.Test.YtdeiofgddhbdaaaGreatHShelf
import Derived.Test.YtdeiofgddhbdaaaGreatHCanon
set_option linter.unusedSimpArgs false
set_option linter.unusedVariables false
set_option maxHeartbeats 4000000
set_option maxRecDepth 100000
open Go.RowKit
open Go.Lib (hid)
open Go.Proofs.Tryz
open Go.Value renaming int→vi
open Go.IntKind renaming i64→vk
namespace Go.Proofs.YtdeiofgddhbdaaaGreat
def lv(f t:Nat):Nat→Nat
 |0=>0
 |l+1=>if f%csz l≠0∨t<f+csz l then l+1 else lv f t l
theorem lv_le(f t:Nat): ∀l,lv f t l≤l
 |0=>Nat.le_refl _
 |l+1=>by
  unfold lv;split
  · exact Nat.le_refl _
  · have:=lv_le f t l;omega
def cellN(n l:Nat):Cl:=((l:Int),((rwTo l n:Nat):Int),((colOf l n:Nat):Int))
def cutFu:Nat→Nat→Nat→List Cl
 |0,_,_=>[]
 |fu+1,f,t=>if f<t then cellN (f/csz (lv f t 16)) (lv f t 16)::cutFu fu (f+csz (lv f t 16)) t else[]
theorem cutFu_more: ∀(a b f t:Nat),t-f≤a→t-f≤b→cutFu a f t=cutFu b f t
 |0,0,_,_,_,_=>rfl
 |0,b+1,f,t,h,_=>by
  have: ¬f<t:=by omega
  simp[cutFu,this]
 |a+1,0,f,t,_,h=>by
  have: ¬f<t:=by omega
  simp[cutFu,this]
 |a+1,b+1,f,t,h1,h2=>by
  unfold cutFu;by_cases h:f<t
  · have hp:=csz_pos (lv f t 16)
    rw[if_pos h,if_pos h,cutFu_more a b _ t om_ om_]
  · rw[if_neg h,if_neg h]
def cut(f t:Nat):List Cl:=cutFu (t-f) f t
theorem cut_no{f t:Nat}(h: ¬f<t):cut f t=[]:=by
 unfold cut;rw[show t-f=0 by omega];rfl
theorem cut_yes{f t:Nat}(h:f<t):cut f t=cellN (f/csz (lv f t 16)) (lv f t 16)::cut (f+csz (lv f t 16)) t:=by
 unfold cut;obtain⟨k,hk⟩: ∃k,t-f=k+1:=⟨t-f-1,om_⟩;have hp:=csz_pos (lv f t 16);rw[hk,cutFu,if_pos h,cutFu_more k (t-(f+csz (lv f t 16))) _ t om_ om_]
def cutS(s:Sp):List Cl:=cut s.1.toNat s.2.toNat
def tidyL(D:List Sp):List Cl:=D.flatMap cutS
theorem tidyL_take(D:List Sp)(k:Nat)(hk:k<D.length):tidyL (D.take (k+1))=tidyL (D.take k)++cutS (gs D k):=by
 rw[List.take_succ_eq_append_getElem hk];unfold tidyL;rw[List.flatMap_append];simp[gs,hk]
theorem lv_pos(f t l:Nat)(h:1≤l):lv f t l=if f%csz (l-1)≠0∨t<f+csz (l-1) then l else lv f t (l-1):=by
 obtain⟨k,rfl⟩: ∃k,l=k+1:=⟨l-1,om_⟩;rfl
theorem csz16:csz 16=1:=rfl
theorem lv_fit'(f t:Nat): ∀l,f+csz l≤t→f+csz (lv f t l)≤t
 |0,h=>h
 |l+1,h=>by
  unfold lv;split
  · exact h
  · rename_i hc
    exact lv_fit' f t l om_
theorem lv_fit{f t:Nat}(h:f<t):f+csz (lv f t 16)≤t:=lv_fit' f t 16 (by rw[csz16];omega)
theorem csz_up(l:Nat)(h1:1≤l)(h2:l≤16):(2:Int)^(2*(16-l+1))=(csz (l-1):Int):=by
 rw[←csz_shift' (l-1)];congr 2
 omega
def RetTidy(w:World)(D:List Sp)(e:Ending)(w':World):Prop:=
 Below w.heap.size w w'∧
 (((tidyL D).length≤4000∧ ∃v,e=.returned (.tuple #[v,.bool true])∧w'.ownsRow w.heap.size 55 3 v (tidyL D).length (cvs (tidyL D)))∨
  (4000<(tidyL D).length∧e=.returned (.tuple #[.slice none 0 0,.bool false])))
def qI(f l:Nat):Int:=(f/csz l:Nat)
theorem qI_eq(f l:Nat)(h:f<8589934592):wrap64 ((f:Int)/(csz l:Int))=qI f l:=by
 have e:(f:Int)/(csz l:Int)=qI f l:=by unfold qI;simp
 have h2:=Nat.div_le_self f (csz l);rw[e];refine IntWalk.wrap64_in _ ?_;unfold qI;generalize f/csz l=z at*;omega
theorem cellOf_q(f l:Nat)(w:World)(h1:l≤16)(h2:f<8589934592):
 Calls Tryz.prog 108 #[vi vk (qI f l),vi vk l] w fun e w'=>e=.returned (.agg #[vi vk (cellN (f/csz l) l).1,vi vk (cellN (f/csz l) l).2.1,vi vk (cellN (f/csz l) l).2.2])∧Below w.heap.size w w':=by
 refine cellOf_nat (f/csz l) l w h1 ?_;rw[Nat.div_lt_iff_lt_mul (csz_pos l),Nat.mul_assoc,csz_mul l h1];exact h2
theorem tidy_any(A:Option Addr)(n c:Nat)(D:List Sp)(w:World)(hr:Reads w w.heap.size 2 A n (spvs D))(hn:n≤1000000)(hok:SpOk D):
 Calls Tryz.prog 62 #[.slice A n c] w (RetTidy w D):=by
 have hl:D.length=n:=by have:=hr.1;rw[spvs_length] at this;omega
 have HL:=hid hl;have HR:=hid hr;have HO:=hid hok;clear hr hok hl;obtain⟨i0,hi0,hz0,hz1,hzb⟩:=info_parts Tryz.infoCell;go_enter func62,ntmps62;go_wp2;go_loopw [4,12] (fun v i wr=> ∃k:Nat,k≤n∧i=vi vk k∧(tidyL (D.take k)).length≤4000∧wr.ownsRow w.heap.size 55 3 v (tidyL (D.take k)).length (cvs (tidyL (D.take k)))∧Below w.heap.size w wr) (fun _ i _=>n-(intOf i).toNat)
 case atStart=>exact⟨0,Nat.zero_le _,rfl,by simp[tidyL],own_nil _ _ _ _,Below.refl _ _⟩
 case round=>
  obtain⟨k,hk,rfl,hln,hown,hbr⟩:=hrel;have hz:=hbr.size;by_cases hlt:k<n
  · obtain⟨b,off,rfl,hb,x1,x2⟩:=SReads.elem HR.out hlt
    have y1:=(hbr.cell (p:=⟨b,off+k*2,none⟩) hb).trans x1;have y2:=(hbr.cell (p:=⟨b,off+k*2+1,none⟩) hb).trans x2;clear x1 x2;have hkl:k<D.length:=by rw[HL.out];exact hlt
    have hos:=HO.out (gs D k) (by simp[gs,hkl]);have hts:=tidyL_take D k hkl;have hpre: ∃R,tidyL D=tidyL (D.take (k+1))++R:=⟨tidyL (D.drop (k+1)),by simp only[tidyL];rw[←List.flatMap_append,List.take_append_drop]⟩;have HP:=hid hpre;clear hpre hkl;generalize gs D k=s at y1 y2 hos hts;obtain⟨sf,st⟩:=s;obtain⟨o1,o2,o3⟩:=hos;simp only[] at y1 y2 o1 o2 o3;obtain⟨f0,rfl⟩:=Int.eq_ofNat_of_zero_le o1;obtain⟨t0,rfl⟩:=Int.eq_ofNat_of_zero_le (show 0≤st by omega);have hcs:cutS ((f0:Int),(t0:Int))=cut f0 t0:=rfl;rw[hcs] at hts;clear hcs;generalize hP1:tidyL (D.take (k+1))=P1 at hts HP;have HP1:=hid hP1;clear hP1;generalize tidyL (D.take k)=P0 at hts hln hown;have HT:=hid hts;clear hts;go_wp2;have hB:=Blk.new wr 115 #[vi vk (f0:Int),vi vk (t0:Int)];have hown4:=hown.alloc (.cells #[vi vk (f0:Int),vi vk (t0:Int)] 115);have hb4:=hbr.alloc hz (.cells #[vi vk (f0:Int),vi vk (t0:Int)] 115);have hz4:w.heap.size≤wr.heap.size:=hz;generalize wr.alloc (.cells #[vi vk (f0:Int),vi vk (t0:Int)] 115)=w4 at hB hown4 hb4⊢;generalize wr.heap.size=bS at hB hz4⊢;clear hown hbr hz y1 y2;go_loopg [4] (t0-f0) (fun gg v wq=> ∃(f:Nat) (M:List Cl),gg=t0-f∧Blk wq bS 115 #[vi vk (f:Int),vi vk (t0:Int)]∧M.length≤4000∧wq.ownsRow w.heap.size 55 3 v M.length (cvs M)∧RowKit.Below w.heap.size w wq∧f≤t0∧M++cut f t0=P1)
    case atStart=>exact⟨f0,P0,rfl,hB,hln,hown4,hb4,om_,HT.out.symm⟩
    case round=>
     clear hown4 hb4 hB HT hln;obtain⟨f,M,hg,hB,hM,hown,hbq,hft,hcut⟩:=hrel;have HC:=hid hcut;have HG:=hid hg;clear hcut hg;have q0:wr.cell? ⟨bS,0,none⟩=some (vi vk (f:Int)):=hB.cell 0;have q1:wr.cell? ⟨bS,1,none⟩=some (vi vk (t0:Int)):=hB.cell 1;have q2:wr.frozen? ⟨bS,0,none⟩=false:=hB.frozen 0;have hzq:=hbq.size;by_cases hlt2:f<t0
     · go_wp2
       have hzc:=fun l=>csz_le l;have HZ:=hid hzc;clear hzc;go_loop [7] (fun v7=> ∃l:Nat,l≤16∧v7=vi vk l∧lv f t0 16=lv f t0 l) (fun v7=>(intOf v7).toNat)
       case atStart=>exact⟨16,om_,rfl,rfl⟩
       case round=>
        obtain⟨l,hl16,rfl,hlv⟩:=hrel;have HLV:=hid hlv;clear hlv;have hzl:=HZ.out (l-1);have hzl':=HZ.out l;by_cases hc:1≤l∧f%csz (l-1)=0∧f+csz (l-1)≤t0
        · obtain⟨c1,c2,c3⟩:=hc
          have hlv2:=lv_pos f t0 l c1;rw[if_neg om_] at hlv2;have HLV2:=hid hlv2;clear hlv2;have hl0:0<l:=c1;have hcp:=csz_pos (l-1);have hc0: ¬csz (l-1)=0:=by omega
          have c4:(f:Int)+(csz (l-1):Int)≤(t0:Int):=by omega
          have e1:wrap64 ((2:Int)^(2*(16-l+1)))=(csz (l-1):Int):=by rw[csz_up l c1 hl16];exact IntWalk.wrap64_in _ om_
          have E1:=hid e1;clear e1;go_upto_region 9 with fail
          rw[E1.out];clear E1;have e2:((f:Int)%(csz (l-1):Int) != 0)=false:=by
           rw[bne_eq_false_iff_eq];exact_mod_cast c2
          clear c2 c3;go_wp2;clear e2;go_round
          case rel=>exact⟨l-1,om_,by congr 1;omega,by rw[HLV.out,HLV2.out]⟩
          case measure=>simp[intOf];omega
        · have hL:lv f t0 16=l:=by
           rw[HLV.out];rcases Nat.eq_zero_or_pos l with h|h
           · subst h;rfl
           · rw[lv_pos f t0 l h,if_pos]
             by_cases h2:f%csz (l-1)=0
             · exact .inr (by
                have: ¬f+csz (l-1)≤t0:=fun h3=>hc ⟨h,h2,h3⟩;omega)
             · exact .inl h2
          have hfit:=lv_fit hlt2;have hcy:=cut_yes hlt2;rw[hL] at hfit hcy;have hcy:=hid hcy;have hcell:=hid (fun W=>cellOf_q f l W hl16 om_);have hzl2:=csz_pos l;generalize cellN (f/csz l) l=x at hcy hcell;obtain⟨xa,xb,xc⟩:=x;simp only[] at hcell;have hcz: ¬csz l=0:=by omega
          have E2:=hid (show wrap64 ((2:Int)^(2*(16-l)))=(csz l:Int) from by rw[csz_shift' l];exact IntWalk.wrap64_in _ om_);clear hL HLV;have hways:(¬0<l)∨(1≤l∧ ¬f%csz (l-1)=0)∨(1≤l∧f%csz (l-1)=0∧t0<f+csz (l-1)):=by
           rcases Nat.eq_zero_or_pos l with h|h
           · exact .inl om_
           · by_cases h2:f%csz (l-1)=0
             · exact .inr (.inr ⟨h,h2,by
                have: ¬f+csz (l-1)≤t0:=fun h3=>hc ⟨h,h2,h3⟩;omega⟩)
             · exact .inr (.inl ⟨h,h2⟩)
          rcases hways with hl0|⟨c1,c2⟩|⟨c1,c2,c3⟩
          · skip
            go_upto_region 12 with fail
            rw[E2.out];have F1:=hid (qI_eq f l om_);clear hc E2;go_wp2_with fail;rw[F1.out];with_reducible refine(hcell.out _).mono ?_
            rintro e w5 ⟨rfl,hb5⟩
            have hown5:=own_bl hown hb5 (Nat.le_refl _);have hz5:=hb5.size;have hB5:=hB.below hb5 hB.lt;by_cases hov:M.length+1≤4000
            · have hov':M.length≤3999:=by omega
              go_wp2_with ((at_builtin;(refine wpList_append_any _ rfl (.tmp 48) (.tmp 55) _ rfl w.heap.size 55 i0 _ 3 24 underlying44 hi0 hz0 hz1 hzb rfl dc_ u4 M.length (cvs M) rfl (hown5.alloc _) (w5.heap.size+1) (some ⟨w5.heap.size,0,none⟩) 1 1 (cv (xa,xb,xc)) rfl (reads_new w5 _ _ _ _) (cv_one _) (by simp only[maxLen];omega) om_ (by simp;omega) ?_);intro v2 w6 hown6 hg6 hat6;have hB6:=(hB5.alloc (.cells #[vi vk xa,vi vk xb,vi vk xc] 55)).grown hg6 (fun e=>own_blk_ne hown5 hB5 dc_ e.symm);have r0:w6.cell? ⟨bS,0,none⟩=some (vi vk (f:Int)):=hB6.cell 0;have r2:=hB6.frozen 0;obtain⟨A6,c6,rfl,-,-⟩:=own_form hown6));go_roundg (t0-(f+csz l))
              case measure=>have:=HG.out;omega
              case rel=>
               refine⟨f+csz l,M++[(xa,xb,xc)],rfl,?_,by simp;omega,?_,?_,om_,?_⟩
               · have:=hB6.set_ 0 (vi vk ((f:Int)+(csz l:Int)))
                 simpa using this
               · rw[cvs_append,List.length_append]
                 exact ownsRow_far hown6 hB6 dc_
               · exact(((hbq.trans (hb5.mono hzq)).alloc om_ _).grown hg6 (by simp;omega) (own_base hown)).setCell hz4 _
               · rw[←HC.out,hcy.out]
                 simp
            · have hov':4000≤M.length:=by omega
              have hov2: ¬M.length≤3999:=by omega
              go_wp2_with ((at_builtin;(refine wpList_append_any _ rfl (.tmp 48) (.tmp 55) _ rfl w.heap.size 55 i0 _ 3 24 underlying44 hi0 hz0 hz1 hzb rfl dc_ u4 M.length (cvs M) rfl (hown5.alloc _) (w5.heap.size+1) (some ⟨w5.heap.size,0,none⟩) 1 1 (cv (xa,xb,xc)) rfl (reads_new w5 _ _ _ _) (cv_one _) (by simp only[maxLen];omega) om_ (by simp;omega) ?_);intro v2 w6 hown6 hg6 hat6;obtain⟨A6,c6,rfl,-,-⟩:=own_form hown6));go_ret2
              refine⟨((hbq.trans (hb5.mono hzq)).alloc om_ _).grown hg6 (by simp;omega) (own_base hown),.inr ⟨?_,rfl⟩⟩;obtain⟨R,hR⟩:=HP.out;rw[hR,←HC.out,hcy.out];simp;omega
          · skip
            have e1:wrap64 ((2:Int)^(2*(16-l+1)))=(csz (l-1):Int):=by rw[csz_up l c1 hl16];exact IntWalk.wrap64_in _ om_
            have E1:=hid e1;clear e1;have hl0:0<l:=c1;have hcp:=csz_pos (l-1);have hc0: ¬csz (l-1)=0:=by omega
            go_upto_region 9 with fail
            rw[E1.out];clear E1;have e2:((f:Int)%(csz (l-1):Int) != 0)=true:=by
             rw[bne_iff_ne];exact_mod_cast c2
            clear c2;go_upto_region 12 with fail
            clear e2;rw[E2.out];have F1:=hid (qI_eq f l om_);clear hc E2;go_wp2_with fail;rw[F1.out];with_reducible refine(hcell.out _).mono ?_
            rintro e w5 ⟨rfl,hb5⟩
            have hown5:=own_bl hown hb5 (Nat.le_refl _);have hz5:=hb5.size;have hB5:=hB.below hb5 hB.lt;by_cases hov:M.length+1≤4000
            · have hov':M.length≤3999:=by omega
              go_wp2_with ((at_builtin;(refine wpList_append_any _ rfl (.tmp 48) (.tmp 55) _ rfl w.heap.size 55 i0 _ 3 24 underlying44 hi0 hz0 hz1 hzb rfl dc_ u4 M.length (cvs M) rfl (hown5.alloc _) (w5.heap.size+1) (some ⟨w5.heap.size,0,none⟩) 1 1 (cv (xa,xb,xc)) rfl (reads_new w5 _ _ _ _) (cv_one _) (by simp only[maxLen];omega) om_ (by simp;omega) ?_);intro v2 w6 hown6 hg6 hat6;have hB6:=(hB5.alloc (.cells #[vi vk xa,vi vk xb,vi vk xc] 55)).grown hg6 (fun e=>own_blk_ne hown5 hB5 dc_ e.symm);have r0:w6.cell? ⟨bS,0,none⟩=some (vi vk (f:Int)):=hB6.cell 0;have r2:=hB6.frozen 0;obtain⟨A6,c6,rfl,-,-⟩:=own_form hown6));go_roundg (t0-(f+csz l))
              case measure=>have:=HG.out;omega
              case rel=>
               refine⟨f+csz l,M++[(xa,xb,xc)],rfl,?_,by simp;omega,?_,?_,om_,?_⟩
               · have:=hB6.set_ 0 (vi vk ((f:Int)+(csz l:Int)))
                 simpa using this
               · rw[cvs_append,List.length_append]
                 exact ownsRow_far hown6 hB6 dc_
               · exact(((hbq.trans (hb5.mono hzq)).alloc om_ _).grown hg6 (by simp;omega) (own_base hown)).setCell hz4 _
               · rw[←HC.out,hcy.out]
                 simp
            · have hov':4000≤M.length:=by omega
              have hov2: ¬M.length≤3999:=by omega
              go_wp2_with ((at_builtin;(refine wpList_append_any _ rfl (.tmp 48) (.tmp 55) _ rfl w.heap.size 55 i0 _ 3 24 underlying44 hi0 hz0 hz1 hzb rfl dc_ u4 M.length (cvs M) rfl (hown5.alloc _) (w5.heap.size+1) (some ⟨w5.heap.size,0,none⟩) 1 1 (cv (xa,xb,xc)) rfl (reads_new w5 _ _ _ _) (cv_one _) (by simp only[maxLen];omega) om_ (by simp;omega) ?_);intro v2 w6 hown6 hg6 hat6;obtain⟨A6,c6,rfl,-,-⟩:=own_form hown6));go_ret2
              refine⟨((hbq.trans (hb5.mono hzq)).alloc om_ _).grown hg6 (by simp;omega) (own_base hown),.inr ⟨?_,rfl⟩⟩;obtain⟨R,hR⟩:=HP.out;rw[hR,←HC.out,hcy.out];simp;omega
          · skip
            have e1:wrap64 ((2:Int)^(2*(16-l+1)))=(csz (l-1):Int):=by rw[csz_up l c1 hl16];exact IntWalk.wrap64_in _ om_
            have E1:=hid e1;clear e1;have hl0:0<l:=c1;have hcp:=csz_pos (l-1);have hc0: ¬csz (l-1)=0:=by omega
            go_upto_region 9 with fail
            rw[E1.out];clear E1;have e2:((f:Int)%(csz (l-1):Int) != 0)=false:=by
             rw[bne_eq_false_iff_eq];exact_mod_cast c2
            have c4:(t0:Int)<(f:Int)+(csz (l-1):Int):=by clear e2;omega
            clear c2 c3;go_upto_region 12 with fail
            clear e2;rw[E2.out];have F1:=hid (qI_eq f l om_);clear hc E2;go_wp2_with fail;rw[F1.out];with_reducible refine(hcell.out _).mono ?_
            rintro e w5 ⟨rfl,hb5⟩
            have hown5:=own_bl hown hb5 (Nat.le_refl _);have hz5:=hb5.size;have hB5:=hB.below hb5 hB.lt;by_cases hov:M.length+1≤4000
            · have hov':M.length≤3999:=by omega
              go_wp2_with ((at_builtin;(refine wpList_append_any _ rfl (.tmp 48) (.tmp 55) _ rfl w.heap.size 55 i0 _ 3 24 underlying44 hi0 hz0 hz1 hzb rfl dc_ u4 M.length (cvs M) rfl (hown5.alloc _) (w5.heap.size+1) (some ⟨w5.heap.size,0,none⟩) 1 1 (cv (xa,xb,xc)) rfl (reads_new w5 _ _ _ _) (cv_one _) (by simp only[maxLen];omega) om_ (by simp;omega) ?_);intro v2 w6 hown6 hg6 hat6;have hB6:=(hB5.alloc (.cells #[vi vk xa,vi vk xb,vi vk xc] 55)).grown hg6 (fun e=>own_blk_ne hown5 hB5 dc_ e.symm);have r0:w6.cell? ⟨bS,0,none⟩=some (vi vk (f:Int)):=hB6.cell 0;have r2:=hB6.frozen 0;obtain⟨A6,c6,rfl,-,-⟩:=own_form hown6));go_roundg (t0-(f+csz l))
              case measure=>have:=HG.out;omega
              case rel=>
               refine⟨f+csz l,M++[(xa,xb,xc)],rfl,?_,by simp;omega,?_,?_,om_,?_⟩
               · have:=hB6.set_ 0 (vi vk ((f:Int)+(csz l:Int)))
                 simpa using this
               · rw[cvs_append,List.length_append]
                 exact ownsRow_far hown6 hB6 dc_
               · exact(((hbq.trans (hb5.mono hzq)).alloc om_ _).grown hg6 (by simp;omega) (own_base hown)).setCell hz4 _
               · rw[←HC.out,hcy.out]
                 simp
            · have hov':4000≤M.length:=by omega
              have hov2: ¬M.length≤3999:=by omega
              go_wp2_with ((at_builtin;(refine wpList_append_any _ rfl (.tmp 48) (.tmp 55) _ rfl w.heap.size 55 i0 _ 3 24 underlying44 hi0 hz0 hz1 hzb rfl dc_ u4 M.length (cvs M) rfl (hown5.alloc _) (w5.heap.size+1) (some ⟨w5.heap.size,0,none⟩) 1 1 (cv (xa,xb,xc)) rfl (reads_new w5 _ _ _ _) (cv_one _) (by simp only[maxLen];omega) om_ (by simp;omega) ?_);intro v2 w6 hown6 hg6 hat6;obtain⟨A6,c6,rfl,-,-⟩:=own_form hown6));go_ret2
              refine⟨((hbq.trans (hb5.mono hzq)).alloc om_ _).grown hg6 (by simp;omega) (own_base hown),.inr ⟨?_,rfl⟩⟩;obtain⟨R,hR⟩:=HP.out;rw[hR,←HC.out,hcy.out];simp;omega
     · have hcn:=hid (cut_no hlt2)
       go_wp2;go_roundw
       case rel=>
        have h1:=HC.out;rw[hcn.out,List.append_nil] at h1;rw[←HP1.out] at h1;exact⟨k+1,om_,by go_num,by rw[←h1];exact hM,by rw[←h1];exact hown,hbq⟩
       case measure=>simp[intOf];omega
  · have hkk:k=n:=by omega
    subst hkk;rw[List.take_of_length_le (by rw[HL.out];omega)] at hown hln;go_wp2;go_ret2
    exact⟨hbr,.inl ⟨hln,_,rfl,hown⟩⟩
theorem spOk_spI(x:Cl)(hv:vldB x.1 x.2.1 x.2.2=true):0≤(spI x).1∧(spI x).1<(spI x).2∧(spI x).2≤8589934592:=by
 obtain⟨h0,h1,h2,h3,h4,h5⟩:=vldB_true.1 hv;obtain⟨l,r,c⟩:=x;obtain⟨l,rfl⟩:=Int.eq_ofNat_of_zero_le h0;obtain⟨r,rfl⟩:=Int.eq_ofNat_of_zero_le h2;obtain⟨c,rfl⟩:=Int.eq_ofNat_of_zero_le h4;simp only[pw,Int.toNat_natCast] at h3 h5;have h5':c<2*2^l:=by exact_mod_cast h5
 have hb:=sp_bd l r c (by simp only[] at h1;omega) h5';have hp:=csz_pos l;have h6:(mort l r c+1)*csz l=mort l r c*csz l+csz l:=by rw[Nat.add_mul];simp
 simp only[spI,spF,spT,mortI,Int.toNat_natCast];omega
theorem spOk_mrg(M:List Sp)(s:Sp)(hM:SpOk M)(hs:0≤s.1∧s.1<s.2∧s.2≤8589934592):SpOk (mrg M s):=by
 rcases snoc_cases M with rfl|⟨M',t,rfl⟩
 · rw[mrg_nil]
   intro x hx;simp at hx;subst hx;exact hs
 · have ht:=hM t (by simp)
   by_cases h:s.1≤t.2
   · rw[mrg_in _ _ _ h]
     intro x hx;simp at hx;rcases hx with hx|rfl
     · exact hM x (by simp[hx])
     · simp only[]
       omega
   · rw[mrg_out _ _ _ h]
     intro x hx;simp only[List.mem_append,List.mem_singleton] at hx;rcases hx with hx|rfl
     · exact hM x (by simpa using hx)
     · exact hs
theorem spOk_merge(D:List Sp)(hD:SpOk D):SpOk (mergeS D):=by
 have: ∀(D M:List Sp),SpOk D→SpOk M→SpOk (D.foldl mrg M):=by
  intro D;induction D with
  |nil=>intro M _ hM;exact hM
  |cons x r ih=>
   intro M hD hM;exact ih _ (fun y hy=>hD y (by simp[hy])) (spOk_mrg M x hM (hD x (by simp)))
 exact this D [] hD (fun _ h=>by simp at h)
theorem spOk_cover(L:List Cl)(hv: ∀x∈L,vldB x.1 x.2.1 x.2.2=true):SpOk (coverL L):=by
 refine spOk_merge _ fun s hs=>?_;have h:=(List.mem_mergeSort).1 hs;simp only[List.mem_map] at h;obtain⟨x,hx,rfl⟩:=h;exact spOk_spI x (hv x hx)
def badL(L:List Cl):Bool:=L.any fun x=> !(vldB x.1 x.2.1 x.2.2)
theorem badL_false{L:List Cl}(h:badL L=false): ∀x∈L,vldB x.1 x.2.1 x.2.2=true:=by
 intro x hx;unfold badL at h;rw[List.any_eq_false] at h;simpa using h x hx
theorem coverL_length(L:List Cl):(coverL L).length≤L.length:=by
 have h1:=mergeS_length (sortS (L.map spI));rw[sortS_length,List.length_map] at h1;exact h1
section
open Canon
def ApartI(D:List Sp):Prop:=D.Pairwise (fun s t=>s.2<t.1)∧ ∀s∈D,s.1<s.2
def inI(D:List Sp)(q:Int):Prop:= ∃s∈D,s.1≤q∧q<s.2
theorem mrg_good(M:List Sp)(s:Sp)(hM:ApartI M)(hs:s.1<s.2)(hle: ∀m∈M,m.1≤s.1):
 ApartI (mrg M s)∧(∀m∈mrg M s,m.1≤s.1)∧ ∀q,inI (mrg M s) q↔(inI M q∨(s.1≤q∧q<s.2)):=by
 rcases snoc_cases M with rfl|⟨M',t,rfl⟩
 · rw[mrg_nil]
   refine⟨⟨by simp,by simpa using hs⟩,by simp,fun q=>by simp[inI]⟩
 · obtain⟨hp,hne⟩:=hM
   rw[List.pairwise_append] at hp;obtain⟨hp1,_,hp2⟩:=hp;have ht:=hne t (by simp);have hts:=hle t (by simp);by_cases h:s.1≤t.2
   · rw[mrg_in M' t s h]
     refine⟨⟨?_,?_⟩,?_,?_⟩
     · rw[List.pairwise_append]
       refine⟨hp1,by simp,fun a ha b hb=>?_⟩;simp only[List.mem_singleton] at hb;subst hb;exact hp2 a ha t (by simp)
     · intro m hm
       simp only[List.mem_append,List.mem_singleton] at hm;rcases hm with hm|rfl
       · exact hne m (by simp[hm])
       · simp only[];omega
     · intro m hm
       simp only[List.mem_append,List.mem_singleton] at hm;rcases hm with hm|rfl
       · exact hle m (by simp[hm])
       · exact hts
     · intro q
       simp only[inI,List.mem_append,List.mem_singleton];constructor
       · rintro⟨m,hm|rfl,h1,h2⟩
         · exact .inl ⟨m,.inl hm,h1,h2⟩
         · simp only[] at h1 h2
           by_cases hq:q<t.2
           · exact .inl ⟨t,.inr rfl,h1,hq⟩
           · exact .inr ⟨om_,om_⟩
       · rintro(⟨m,hm|rfl,h1,h2⟩|⟨h1,h2⟩)
         · exact⟨m,.inl hm,h1,h2⟩
         · exact⟨_,.inr rfl,h1,so_⟩
         · exact⟨_,.inr rfl,so_,so_⟩
   · rw[mrg_out M' t s h]
     refine⟨⟨?_,?_⟩,?_,?_⟩
     · rw[List.pairwise_append]
       refine⟨List.pairwise_append.2 ⟨hp1,by simp,hp2⟩,by simp,fun a ha b hb=>?_⟩;simp only[List.mem_singleton] at hb;subst hb;simp only[List.mem_append,List.mem_singleton] at ha;rcases ha with ha|rfl
       · have:=hp2 a ha t (by simp);omega
       · omega
     · intro m hm
       rw[List.mem_append,List.mem_singleton] at hm;rcases hm with hm|rfl
       · exact hne m hm
       · exact hs
     · intro m hm
       rw[List.mem_append,List.mem_singleton] at hm;rcases hm with hm|rfl
       · exact hle m hm
       · exact Int.le_refl _
     · intro q
       unfold inI;constructor
       · rintro⟨m,hm,h1,h2⟩
         rw[List.mem_append,List.mem_singleton] at hm;rcases hm with hm|rfl
         · exact .inl ⟨m,hm,h1,h2⟩
         · exact .inr ⟨h1,h2⟩
       · rintro(⟨m,hm,h1,h2⟩|⟨h1,h2⟩)
         · exact⟨m,by rw[List.mem_append];exact .inl hm,h1,h2⟩
         · exact⟨s,by simp,h1,h2⟩
theorem fold_good: ∀(D M:List Sp),ApartI M→(∀s∈D,s.1<s.2)→D.Pairwise (fun s t=>s.1≤t.1)→(∀m∈M,∀s∈D,m.1≤s.1)→
 ApartI (D.foldl mrg M)∧ ∀q,inI (D.foldl mrg M) q↔(inI M q∨inI D q)
 | [],M,hM,_,_,_=>⟨hM,fun q=>by simp[inI]⟩
 |d::D,M,hM,hne,hp,hle=>by
  rw[List.pairwise_cons] at hp;obtain⟨g1,g2,g3⟩:=mrg_good M d hM (hne d (by simp)) (fun m hm=>hle m hm d (by simp));obtain⟨k1,k2⟩:=fold_good D (mrg M d) g1 (fun s hs=>hne s (by simp[hs])) hp.2 (fun m hm s hs=>by have:=g2 m hm;have:=hp.1 s hs;omega);refine⟨k1,fun q=>?_⟩;rw[List.foldl_cons,k2,g3];constructor
  · rintro((h|h)|⟨s,hs,h⟩)
    · exact .inl h
    · exact .inr ⟨d,by simp,h⟩
    · exact .inr ⟨s,by simp[hs],h⟩
  · rintro(h|⟨s,hs,h⟩)
    · exact .inl (.inl h)
    · rw[List.mem_cons] at hs
      rcases hs with rfl|hs
      · exact .inl (.inr h)
      · exact .inr ⟨s,hs,h⟩
theorem sortS_sorted(D:List Sp):(sortS D).Pairwise (fun s t=>s.1≤t.1):=by
 have h:=List.pairwise_mergeSort (le:=fun x y=> !(ltOf cmpS) y x) (by
  intro a b c h1 h2;simp only[Bool.not_eq_true',ltOf_cmpS,decide_eq_false_iff_not] at*;omega) (by
  intro a b;simp only[Bool.or_eq_true,Bool.not_eq_true',ltOf_cmpS,decide_eq_false_iff_not];omega) D
 refine pairs_less ?_ h;intro a b h;simp only[Bool.not_eq_true',ltOf_cmpS,decide_eq_false_iff_not] at h;omega
theorem cover_good(L:List Cl)(hv: ∀x∈L,vldB x.1 x.2.1 x.2.2=true):ApartI (coverL L)∧ ∀q,inI (coverL L) q↔ ∃x∈L,(spF x:Int)≤q∧q<(spT x:Int):=by
 have hm: ∀s,s∈sortS (L.map spI)↔ ∃x∈L,spI x=s:=fun s=>by
  unfold sortS;rw[List.mem_mergeSort,List.mem_map]
 obtain⟨h1,h2⟩:=fold_good (sortS (L.map spI)) [] ⟨by simp,by simp⟩ (fun s hs=>by
  obtain⟨x,hx,rfl⟩:=(hm s).1 hs;exact(spOk_spI x (hv x hx)).2.1) (sortS_sorted _) (by simp)
 refine⟨h1,fun q=>?_⟩;have:=h2 q;show inI ((sortS (L.map spI)).foldl mrg []) q↔_
 rw[this];constructor
 · rintro(⟨s,hs,_⟩|⟨s,hs,h⟩)
   · simp at hs
   · obtain⟨x,hx,rfl⟩:=(hm s).1 hs
     exact⟨x,hx,h⟩
 · rintro⟨x,hx,h⟩
   exact .inr ⟨spI x,(hm _).2 ⟨x,hx,rfl⟩,h⟩
def blkOf(x:Cl):Blk2:=(16-x.1.toNat,mortI x)
def cellB(b:Blk2):Cl:=cellN b.2 (16-b.1)
theorem blkOf_cellB(b:Blk2)(h:b.1≤16):blkOf (cellB b)=b:=by
 obtain⟨k,n⟩:=b;simp only[] at h;have e:mortI (cellN n (16-k))=n:=by
  unfold mortI cellN;simp only[Int.toNat_natCast];exact mort_of _ n
 unfold blkOf cellB;rw[e];have:((cellN n (16-k)).1).toNat=16-k:=by simp[cellN]
 simp only[this];exact Prod.ext so_ rfl
structure Vl(x:Cl):Prop where
 l0:0≤x.1
 l1:x.1≤16
 r0:0≤x.2.1
 r1:x.2.1.toNat<2^x.1.toNat
 c0:0≤x.2.2
 c1:x.2.2.toNat<2*2^x.1.toNat
theorem vl_iff(x:Cl):vldB x.1 x.2.1 x.2.2=true↔Vl x:=by
 have e: ∀l:Int,pw l=((2^l.toNat:Nat):Int):=fun l=>by unfold pw;simp
 rw[vldB_true,e];generalize hp:2^x.1.toNat=p;constructor
 · rintro⟨h0,h1,h2,h3,h4,h5⟩
   exact⟨h0,h1,h2,by rw[hp];omega,h4,by rw[hp];omega⟩
 · rintro⟨h0,h1,h2,h3,h4,h5⟩
   rw[hp] at h3 h5;exact⟨h0,h1,h2,om_,h4,om_⟩
theorem blkOf_inj{x y:Cl}(hx:Vl x)(hy:Vl y)(h:blkOf x=blkOf y):x=y:=by
 obtain⟨l,r,c⟩:=x;obtain⟨l',r',c'⟩:=y;obtain⟨a0,a1,a2,a3,a4,a5⟩:=hx;obtain⟨b0,b1,b2,b3,b4,b5⟩:=hy;simp only[blkOf,mortI,Prod.mk.injEq] at*;obtain⟨h1,h2⟩:=h;have hl:l.toNat=l'.toNat:=by omega
 rw[←hl] at h2 b3;obtain⟨e1,e2⟩:=mort_inj _ _ _ _ _ a3 b3 h2;exact⟨om_,om_,om_⟩
theorem cellB_vl(b:Blk2)(h:b.1≤16)(hn:b.2<2*4^(16-b.1)):Vl (cellB b):=by
 obtain⟨k,n⟩:=b;simp only[] at h hn;have e1:=rwTo_lt (16-k) n;have e2:=colOf_lt (16-k) n hn;refine⟨?_,?_,?_,?_,?_,?_⟩<;>simp only[cellB,cellN,Int.toNat_natCast]<;>omega
theorem blk_lt(x:Cl)(hx:Vl x):(blkOf x).1≤16∧(blkOf x).2<2*4^(16-(blkOf x).1):=by
 have:=mort_lt x.1.toNat x.2.1.toNat x.2.2.toNat hx.c1;have h1:=hx.l1;have h0:=hx.l0;refine⟨by simp[blkOf],?_⟩;have e:16-(blkOf x).1=x.1.toNat:=by simp only[blkOf];omega
 rw[e];exact this
theorem cellB_blkOf(x:Cl)(hx:Vl x):cellB (blkOf x)=x:=by
 obtain⟨h1,h2⟩:=blk_lt x hx;exact blkOf_inj (cellB_vl _ h1 h2) hx (blkOf_cellB _ h1)
theorem spF_blk(x:Cl):spF x=(blkOf x).2*4^(blkOf x).1:=rfl
theorem spT_blk(x:Cl):spT x=((blkOf x).2+1)*4^(blkOf x).1:=rfl
theorem covB_map(L:List Cl)(q:Nat):covB (L.map blkOf) q=true↔ ∃x∈L,spF x≤q∧q<spT x:=by
 rw[covS];simp only[List.mem_map];constructor
 · rintro⟨b,⟨x,hx,rfl⟩,h⟩;exact⟨x,hx,h⟩
 · rintro⟨x,hx,h⟩;exact⟨_,⟨x,hx,rfl⟩,h⟩
theorem lvH_lv(f t:Nat): ∀l,l≤16→lvH f t l=16-lv f t l
 |0,_=>rfl
 |l+1,h=>by
  unfold lvH lv csz;have ih:=lvH_lv f t l om_;split
  · rfl
  · exact ih
theorem cutFu_map: ∀(fu f t:Nat),cutFu fu f t=(cutBu fu f t).map cellB
 |0,_,_=>rfl
 |fu+1,f,t=>by
  unfold cutFu cutBu;have e:=lvH_lv f t 16 (Nat.le_refl _);have hl:=lv_le f t 16;have e2:csz (lv f t 16)=4^lvH f t 16:=by rw[e];rfl
  split
  · rw[List.map_cons,cutFu_map fu,e2]
    congr 1
    unfold cellB;simp only[e];rw[show 16-(16-lv f t 16)=lv f t 16 by omega]
  · rfl
def natS(s:Sp):Nat×Nat:=(s.1.toNat,s.2.toNat)
theorem tidyL_map(D:List Sp):tidyL D=(tidyB (D.map natS)).map cellB:=by
 unfold tidyL tidyB;rw[List.map_flatMap,List.flatMap_map];congr 1
 funext s
 exact cutFu_map _ _ _
theorem apart_nat{D:List Sp}(h:ApartI D)(hk:SpOk D):Apart (D.map natS):=by
 refine⟨?_,?_⟩
 · rw[List.pairwise_map]
   refine(List.pairwise_iff_forall_sublist.2 ?_:D.Pairwise _);intro a b hab;have hs:=hab.subset;have ha:=hk a (hs (by simp));have hb:=hk b (hs (by simp));have:=(List.pairwise_iff_forall_sublist.1 h.1) hab;simp only[natS];omega
 · intro s hs
   obtain⟨x,hx,rfl⟩:=List.mem_map.1 hs;have:=hk x hx;simp only[natS];omega
theorem inD_nat{D:List Sp}(hk:SpOk D)(q:Nat):inD (D.map natS) q↔inI D q:=by
 unfold inD inI;constructor
 · rintro⟨s,hs,h1,h2⟩
   obtain⟨x,hx,rfl⟩:=List.mem_map.1 hs;have:=hk x hx;simp only[natS] at h1 h2;exact⟨x,hx,om_,om_⟩
 · rintro⟨x,hx,h1,h2⟩
   have:=hk x hx;exact⟨natS x,List.mem_map.2 ⟨x,hx,rfl⟩,by simp only[natS];omega,by simp only[natS];omega⟩
noncomputable def canonC (S:Nat→Prop):List Cl:=(canon S 16 0++canon S 16 1).map cellB
theorem canonC_congr{S T:Nat→Prop}(h: ∀q,S q↔T q):canonC S=canonC T:=by
 have:S=T:=funext fun q=>propext (h q);rw[this]
theorem tidyL_canon{D:List Sp}(h:ApartI D)(hk:SpOk D):tidyL D=canonC (fun q=>inI D q):=by
 rw[tidyL_map,tidyB_canon (apart_nat h hk) (fun s hs=>by
  obtain⟨x,hx,rfl⟩:=List.mem_map.1 hs;have:=hk x hx;simp only[natS];omega)]
 exact canonC_congr (inD_nat hk)
def covL(L:List Cl)(q:Nat):Prop:= ∃x∈L,spF x≤q∧q<spT x
theorem tidy_cover(L:List Cl)(hv: ∀x∈L,vldB x.1 x.2.1 x.2.2=true):tidyL (coverL L)=canonC (covL L):=by
 obtain⟨h1,h2⟩:=cover_good L hv;rw[tidyL_canon h1 (spOk_cover L hv)];refine canonC_congr fun q=>(h2 q).trans ?_;unfold covL;constructor
 · rintro⟨x,hx,a,b⟩;exact⟨x,hx,om_,om_⟩
 · rintro⟨x,hx,a,b⟩;exact⟨x,hx,om_,om_⟩
end
def wiB(x y:Cl):Bool:=decide (y.1≤x.1∧x.2.1/2^(x.1-y.1).toNat=y.2.1∧x.2.2/2^(x.1-y.1).toNat=y.2.2)
theorem Within_any(l r c l' r' c':Int)(w:World)(h0:0≤l)(h1:l≤16)(h2:0≤l')(h3:l'≤16):
 Calls Tryz.prog 91 #[.agg #[vi vk l,vi vk r,vi vk c],.agg #[vi vk l',vi vk r',vi vk c']] w fun e w'=>e=.returned (.bool (wiB (l,r,c) (l',r',c')))∧Below w.heap.size w w':=by
 have s0:IntKind.i64.wrap (l-l')=l-l':=IntWalk.i64_in _ om_;by_cases g0:l'≤l
 · have g0':0≤l-l':=by clear s0;omega
   have g1':l-l'≤64:=by clear s0;omega
   by_cases g1:r/2^(l-l').toNat=r'
   · have e1:(r/2^(l-l').toNat==r')=true:=by simp[g1]
     by_cases g2:c/2^(l-l').toNat=c'
     · have e2:(c/2^(l-l').toNat==c')=true:=by simp[g2]
       have hv:wiB (l,r,c) (l',r',c')=true:=by simp[wiB,g0,g1,g2]
       rw[hv];clear hv g1 g2;go_enter func91,ntmps91;go_wp2;go_quiet (fail);go_wp2;go_ret;refine⟨rfl,?_⟩;clear s0 e1 e2;exact bl_
     · have e2:(c/2^(l-l').toNat==c')=false:=by simp[g2]
       have hv:wiB (l,r,c) (l',r',c')=false:=by simp[wiB,g0,g1,g2]
       rw[hv];clear hv g1 g2;go_enter func91,ntmps91;go_wp2;go_quiet (fail);go_wp2;go_ret;refine⟨rfl,?_⟩;clear s0 e1 e2;exact bl_
   · have e1:(r/2^(l-l').toNat==r')=false:=by simp[g1]
     have hv:wiB (l,r,c) (l',r',c')=false:=by simp[wiB,g0,g1]
     rw[hv];clear hv g1;go_enter func91,ntmps91;go_wp2;go_quiet (fail);go_wp2;go_ret;refine⟨rfl,?_⟩;clear s0 e1;exact bl_
 · have hd:=decide_eq_false g0
   have hd2:decide (0≤l-l')=false:=decide_eq_false (by clear s0;omega);have hv:wiB (l,r,c) (l',r',c')=false:=by simp[wiB,g0]
   rw[hv];clear hv;go_enter func91,ntmps91;go_wp2;go_quiet (fail);go_wp2;go_ret;refine⟨rfl,?_⟩;clear s0;exact bl_
def hasB(L:List Cl)(x:Cl):Bool:=L.any fun y=>ceq y x
theorem hasB_succ(L:List Cl)(x:Cl)(k:Nat)(hk:k<L.length)(h:hasB (L.take k) x=false)(hp:ceq (gt L k) x=false):hasB (L.take (k+1)) x=false:=any_take_succ L _ k hk h hp
theorem has_any(A:Option Addr)(n ca:Nat)(L:List Cl)(l r c:Int)(w:World)(hr:Reads w w.heap.size 3 A n (cvs L))(hn:n≤maxLen):
 Calls Tryz.prog 130 #[.slice A n ca,.agg #[vi vk l,vi vk r,vi vk c]] w fun e w'=>e=.returned (.bool (hasB L (l,r,c)))∧Below w.heap.size w w':=by
 have HL:=hid hr.len;have HR:=hid hr;clear hr;unfold maxLen at hn;have hq:=eqlCell;go_enter func130,ntmps130;go_wp2;go_loopw [5] (fun i wr=> ∃k q:Nat,k≤n∧i=vi vk k∧hasB (L.take k) (l,r,c)=false∧wr=(w.alloc (.cells #[vi vk l,vi vk r,vi vk c] 55)).drewN q) (fun i _=>n-(intOf i).toNat)
 case atStart=>exact⟨0,0,Nat.zero_le _,rfl,rfl,rfl⟩
 case round=>
  obtain⟨k,q,hk,rfl,hh,rfl⟩:=hrel;have HH:=hid hh;clear hh;by_cases hlt:k<n
  · obtain⟨b,off,rfl,hb,x1,x2,x3⟩:=HR.out.elem hlt
    have hkl:k<L.length:=by rw[HL.out];exact hlt
    have h1:=hid (hasB_succ L (l,r,c) k hkl HH.out);have h2:=hid (any_of_gt L (fun y=>ceq y (l,r,c)) k hkl);generalize gt L k=y at x1 x2 x3 h1 h2;obtain⟨ya,yb,yc⟩:=y;simp only[] at x1 x2 x3;cases hc:ceq (ya,yb,yc) (l,r,c) with
    |true=>
     have h3:=hid (h2.out hc);clear h1 h2;go_wp2;go_quiet (fail);go_wp2;go_ret;refine⟨ret_bool h3.out.symm,?_⟩;exact bl_
    |false=>
     have h3:=hid (h1.out hc);clear h1 h2;go_wp2;go_quiet (fail);go_wp2;go_roundw
     case rel=>exact⟨k+1,q+nq,om_,by go_num,h3.out,rfl⟩
     case measure=>simp[intOf];omega
  · go_wp2
    go_ret;have h:=HH.out;rw[List.take_of_length_le (by rw[HL.out];omega)] at h;refine⟨ret_bool h.symm,?_⟩;exact bl_
def opB(op:Int)(x y:Bool):Bool:=if op=1 then x||y else if op=2 then x&&y else x&& !y
theorem holds_any(op:Int)(x y:Bool)(w:World)(h:op=1∨op=2∨op=3):
 Calls Tryz.prog 132 #[vi vk op,.bool x,.bool y] w fun e w'=>e=.returned (.bool (opB op x y))∧w'=w:=by
 rcases h with rfl|rfl|rfl
 all_goals
  cases x<;>cases y
  all_goals
   go_enter func132,ntmps132;go_wp2;go_ret;exact⟨rfl,rfl⟩
end Go.Proofs.YtdeiofgddhbdaaaGreat
