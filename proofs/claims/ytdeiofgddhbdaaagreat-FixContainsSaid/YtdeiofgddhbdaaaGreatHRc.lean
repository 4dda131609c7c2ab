/- The walk of ValidRegion, of law38's valid. -/
import Derived.Test.YtdeiofgddhbdaaaGreatHWn
set_option linter.unusedSimpArgs false
set_option linter.unusedVariables false
set_option maxHeartbeats 4000000
set_option maxRecDepth 100000
open Go.RowKit
open Go.Lib (hid)
open Go.Proofs.Tryz
open Go.Value renaming int→vi
open Go.IntKind renaming i64→vk
namespace Go.Proofs.YtdeiofgddhbdaaaGreat
def anc(r l:Int)(k:Nat):Int:=r/2^(l.toNat-k)
def befF(x y:Cl):Nat→Nat→Bool
 |0,_=>false
 |f+1,k=>
  if anc x.2.1 x.1 k=anc y.2.1 y.1 k then
   if anc x.2.2 x.1 k=anc y.2.2 y.1 k then befF x y f (k+1) else decide (anc x.2.2 x.1 k<anc y.2.2 y.1 k)
  else decide (anc x.2.1 x.1 k<anc y.2.1 y.1 k)
def befB(x y:Cl):Bool:=befF x y ((min x.1 y.1).toNat+1) 0
theorem before_any(l r c l' r' c':Int)(w:World)(h0:0≤l)(h1:l≤16)(h2:0≤l')(h3:l'≤16):
 Calls Tryz.prog 92 #[.agg #[vi vk l,vi vk r,vi vk c],.agg #[vi vk l',vi vk r',vi vk c']] w fun e w'=>e=.returned (.bool (befB (l,r,c) (l',r',c')))∧Below w.heap.size w w':=by
 go_enter func92,ntmps92;go_wp2;go_loopw [5] (fun i wr=> ∃k q:Nat,k≤(min l l').toNat+1∧i=vi vk k∧befF (l,r,c) (l',r',c') ((min l l').toNat+1-k) k=befB (l,r,c) (l',r',c')∧wr=((w.alloc (.cells #[vi vk l,vi vk r,vi vk c] 55)).alloc (.cells #[vi vk l',vi vk r',vi vk c'] 55)).drewN q) (fun i _=>20-(intOf i).toNat)
 case atStart=>exact⟨0,0,Nat.zero_le _,rfl,rfl,rfl⟩
 case round=>
  obtain⟨k,q,hk,rfl,hh,rfl⟩:=hrel;by_cases g1:(k:Int)≤l
  · by_cases g2:(k:Int)≤l'
    · have hf:(min l l').toNat+1-k=((min l l').toNat+1-(k+1))+1:=by omega
      rw[hf] at hh;unfold befF at hh;simp only[] at hh;have hk2:k+1≤(min l l').toNat+1:=by omega
      have HK:=hid hk2;clear hk hf hk2;have s1:IntKind.i64.wrap (l-k)=l-k:=IntWalk.i64_in _ om_;have s2:IntKind.i64.wrap (l'-k)=l'-k:=IntWalk.i64_in _ om_;have p1:0≤l-(k:Int):=by clear s1 s2;omega
      have p2:0≤l'-(k:Int):=by clear s1 s2;omega
      have p3:l-(k:Int)≤64:=by clear s1 s2;omega
      have p4:l'-(k:Int)≤64:=by clear s1 s2;omega
      have d1:anc r l k=r/2^(l.toNat-k):=rfl;have d2:anc r' l' k=r'/2^(l'.toNat-k):=rfl;have d3:anc c l k=c/2^(l.toNat-k):=rfl;have d4:anc c' l' k=c'/2^(l'.toNat-k):=rfl;have D:=hid (And.intro d1 (And.intro d2 (And.intro d3 d4)));clear d1 d2 d3 d4;by_cases g3:anc r l k=anc r' l' k
      · rw[if_pos g3] at hh
        have e3:(r/2^(l.toNat-k) != r'/2^(l'.toNat-k))=false:=by rw[←D.out.1,←D.out.2.1];simp[g3]
        by_cases g4:anc c l k=anc c' l' k
        · rw[if_pos g4] at hh
          have HH:=hid hh;clear hh;have e4:(c/2^(l.toNat-k) != c'/2^(l'.toNat-k))=false:=by rw[←D.out.2.2.1,←D.out.2.2.2];simp[g4]
          clear g3 g4;go_wp2;go_quiet (fail);go_wp2;go_quiet (fail);go_wp2;go_roundw
          case rel=>exact⟨k+1,_,HK.out,by go_num,HH.out,rfl⟩
          case measure=>clear s1 s2 p1 p2 p3 p4;simp[intOf];omega
        · rw[if_neg g4] at hh
          have e4:(c/2^(l.toNat-k) != c'/2^(l'.toNat-k))=true:=by rw[←D.out.2.2.1,←D.out.2.2.2];simp[g4]
          rw[D.out.2.2.1,D.out.2.2.2] at hh;have HH:=hid hh;clear hh g3 g4;go_wp2;go_quiet (fail);go_wp2;go_quiet (fail);go_wp2;go_ret;refine⟨ret_bool HH.out,?_⟩;clear s1 s2;exact bl_
      · rw[if_neg g3] at hh
        have e3:(r/2^(l.toNat-k) != r'/2^(l'.toNat-k))=true:=by rw[←D.out.1,←D.out.2.1];simp[g3]
        rw[D.out.1,D.out.2.1] at hh;have HH:=hid hh;clear hh g3;go_wp2;go_quiet (fail);go_wp2;go_quiet (fail);go_wp2;go_ret;refine⟨ret_bool HH.out,?_⟩;clear s1 s2;exact bl_
    · have hf:(min l l').toNat+1-k=0:=by omega
      rw[hf] at hh;have HH:=hid hh;clear hh hf;have d2:=decide_eq_false g2;go_wp2;go_ret;refine⟨ret_bool HH.out,?_⟩;exact bl_
  · have hf:(min l l').toNat+1-k=0:=by omega
    rw[hf] at hh;have HH:=hid hh;clear hh hf;have d2:=decide_eq_false g1;go_wp2;go_ret;refine⟨ret_bool HH.out,?_⟩;exact bl_
theorem take_gt(L:List Cl)(k:Nat)(hk:k<L.length):L.take (k+1)=L.take k++[gt L k]:=by
 rw[List.take_succ_eq_append_getElem hk];simp[gt,hk]
theorem gt_mem(L:List Cl)(k:Nat)(hk:k<L.length):gt L k∈L:=by
 simp[gt,hk]
def belL(L:List Cl)(x:Cl):List Cl:=L.filter fun y=> !ceq y x&&wiB y x
theorem belL_yes(L:List Cl)(x:Cl)(k:Nat)(hk:k<L.length)(h:ceq (gt L k) x=false)(h2:wiB (gt L k) x=true):belL (L.take (k+1)) x=belL (L.take k) x++[gt L k]:=by
 have e:L.take (k+1)=L.take k++[gt L k]:=take_gt L k hk;rw[e,belL,List.filter_append];simp[belL,h,h2]
theorem belL_no(L:List Cl)(x:Cl)(k:Nat)(hk:k<L.length)(h:(!ceq (gt L k) x&&wiB (gt L k) x)=false):belL (L.take (k+1)) x=belL (L.take k) x:=by
 have e:L.take (k+1)=L.take k++[gt L k]:=take_gt L k hk;rw[e,belL,List.filter_append];simp only[List.filter_cons,h,List.filter_nil];simp[belL]
theorem belL_len(L:List Cl)(x:Cl)(k:Nat):(belL (L.take k) x).length≤k:=by
 have:=List.length_filter_le (fun y=> !ceq y x&&wiB y x) (L.take k);have h2:=List.length_take_le k L;unfold belL;omega
theorem below_any(A:Option Addr)(n ca:Nat)(L:List Cl)(l r c:Int)(w:World)(hr:Reads w w.heap.size 3 A n (cvs L))(hn:n≤1000000)(hl: ∀y∈L,0≤y.1∧y.1≤16)(h0:0≤l)(h1:l≤16):
 Calls Tryz.prog 131 #[.slice A n ca,.agg #[vi vk l,vi vk r,vi vk c]] w (RetCells1 w (belL L (l,r,c))):=by
 have HL:=hid hr.len;have HR:=hid hr;have HV:=hid hl;clear hr hl;have hq:=neqCell;obtain⟨i0,hi0,hz0,hz1,hz2⟩:=info_parts Tryz.infoCell;go_enter func131,ntmps131;go_wp2;go_loopw [5,6] (fun v i wr=> ∃k:Nat,k≤n∧i=vi vk k∧wr.ownsRow (w.heap.size+1) 55 3 v (belL (L.take k) (l,r,c)).length (cvs (belL (L.take k) (l,r,c)))∧Below (w.heap.size+1) (w.alloc (.cells #[vi vk l,vi vk r,vi vk c] 55)) wr) (fun _ i _=>n-(intOf i).toNat)
 case atStart=>exact⟨0,Nat.zero_le _,rfl,own_nil _ _ _ _,Below.refl _ _⟩
 case round=>
  obtain⟨k,hk,rfl,hown,hbr⟩:=hrel;have hz:=hbr.size;simp at hz;have q0:wr.cell? ⟨w.heap.size,0,none⟩=some (vi vk l):=(hbr.cell (p:=⟨w.heap.size,0,none⟩) (by simp)).trans (by simp);have q1:wr.cell? ⟨w.heap.size,1,none⟩=some (vi vk r):=(hbr.cell (p:=⟨w.heap.size,1,none⟩) (by simp)).trans (by simp);have q2:wr.cell? ⟨w.heap.size,2,none⟩=some (vi vk c):=(hbr.cell (p:=⟨w.heap.size,2,none⟩) (by simp)).trans (by simp);by_cases hlt:k<n
  · have hR2:Reads wr w.heap.size 3 A n (cvs L):=(HR.out.alloc (Nat.le_refl _) _).below (hbr.mono om_)
    obtain⟨b,off,rfl,hb,x1,x2,x3⟩:=hR2.elem hlt;clear hR2;have hkl:k<L.length:=by rw[HL.out];exact hlt
    have y1:=hid (belL_yes L (l,r,c) k hkl);have y2:=hid (belL_no L (l,r,c) k hkl);have hlv:=HV.out _ (gt_mem L k hkl);generalize gt L k=y at x1 x2 x3 y1 y2 hlv;obtain⟨ya,yb,yc⟩:=y;simp only[] at x1 x2 x3 hlv;have W:=hid (fun w=>Within_any ya yb yc l r c w hlv.1 hlv.2 h0 h1);cases hc:ceq (ya,yb,yc) (l,r,c) with
    |true=>
     have h3:=hid (y2.out (by simp[hc]));clear y1 y2;go_wp2;go_quiet (fail);go_wp2;go_roundw
     case rel=>exact⟨k+1,om_,by go_num,by rw[h3.out];exact own_bl hown (bl_drewN (Below.refl _ _) _) (Nat.le_refl _),bl_drewN hbr _⟩
     case measure=>simp[intOf];omega
    |false=>
     have blt:b<wr.heap.size:=by omega
     have clt:w.heap.size<wr.heap.size:=by omega
     have hlen:=belL_len L (l,r,c) k;go_upto_region 5 with (fail)
     go_region_held3 (fun w'=>w'.cell? ⟨b,off+k*3,none⟩=some (vi vk ya)∧w'.cell? ⟨b,off+k*3+1,none⟩=some (vi vk yb)∧w'.cell? ⟨b,off+k*3+2,none⟩=some (vi vk yc)∧w'.cell? ⟨w.heap.size,0,none⟩=some (vi vk l)∧w'.cell? ⟨w.heap.size,1,none⟩=some (vi vk r)∧w'.cell? ⟨w.heap.size,2,none⟩=some (vi vk c)) (first|exact⟨x1,x2,x3,q0,q1,q2⟩|exact⟨s1,s2,s3,t0,t1,t2⟩) (first|(go_at_call 91;refine(W.out _).mono ?_;rintro e w9 ⟨rfl,hb9⟩;have s1:=(hb9.cell (p:=⟨b,off+k*3,none⟩) blt).trans x1;have s2:=(hb9.cell (p:=⟨b,off+k*3+1,none⟩) blt).trans x2;have s3:=(hb9.cell (p:=⟨b,off+k*3+2,none⟩) blt).trans x3;have t0:=(hb9.cell (p:=⟨w.heap.size,0,none⟩) clt).trans q0;have t1:=(hb9.cell (p:=⟨w.heap.size,1,none⟩) clt).trans q1;have t2:=(hb9.cell (p:=⟨w.heap.size,2,none⟩) clt).trans q2))
     clear x1 x2 x3 q0 q1 q2 W;have hown9:=own_bl (own_bl hown (bl_drew (Below.refl _ _)) (Nat.le_refl _)) hb9 (Nat.le_refl _);have hbr9:Below (w.heap.size+1) (w.alloc (.cells #[vi vk l,vi vk r,vi vk c] 55)) w9:=(bl_drew hbr).trans (hb9.mono (by simp;omega));have hz9:=hbr9.size;simp at hz9;clear hown hbr hb9;cases hw:wiB (ya,yb,yc) (l,r,c) with
     |true=>
      have h3:=hid (y1.out hc hw);clear y1 y2;go_wp2_with (at_builtin;(refine wpList_append_any _ rfl (.tmp 27) (.tmp 32) _ rfl (w.heap.size+1) 55 i0 _ 3 24 underlying44 hi0 hz0 hz1 hz2 rfl dc_ u5 _ _ rfl (hown9.alloc _) (w9.heap.size+1) (some ⟨w9.heap.size,0,none⟩) 1 1 (cv (ya,yb,yc)) rfl (reads_new w9 _ _ _ _) (cv_one _) (by simp only[maxLen];omega) om_ (by simp;omega) ?_);intro v2 w2 hown2 hg2 hat2);go_roundw
      case rel=>exact⟨k+1,om_,by go_num,by rw[h3.out,cvs_append,List.length_append];exact hown2,(hbr9.alloc hz9 _).grown hg2 (by simp;omega) (own_base hown9)⟩
      case measure=>simp[intOf];omega
     |false=>
      have h3:=hid (y2.out (by simp[hw]));clear y1 y2;go_wp2;go_roundw
      case rel=>exact⟨k+1,om_,by go_num,by rw[h3.out];exact hown9,hbr9⟩
      case measure=>simp[intOf];omega
  · go_wp2
    go_ret;rw[List.take_of_length_le (by rw[HL.out];omega)] at hown;exact⟨_,rfl,own_mono hown om_,((bl_alloc w _).trans (hbr.mono om_))⟩
def kidsC(c:Cl):List Cl:=kids c.1 c.2.1 c.2.2
def wthS(op:Int)(a b:List Cl)(c:Cl)(x y:Bool)(out:List Cl):List Cl:=
 if a.length=0∧b.length=0 then(if opB op x y=true then[c] else[]) else if out=kidsC c then[c] else out
def leftL(x:Bool)(a:List Cl)(c:Cl):List Cl:=belL (if x=true then[] else a) c
def wthL(op:Int):Nat→List Cl→List Cl→Cl→Bool→Bool→List Cl
 |0,_,_,_,_,_=>[]
 |f+1,a,b,c,x,y=>
  wthS op (leftL (x||hasB a c) a c) (leftL (y||hasB b c) b c) c (x||hasB a c) (y||hasB b c)
   ((kidsC c).flatMap fun d=>wthL op f (leftL (x||hasB a c) a c) (leftL (y||hasB b c) b c) d (x||hasB a c) (y||hasB b c))
theorem wthS_length(op:Int)(a b:List Cl)(c:Cl)(x y:Bool)(out:List Cl)(n:Nat)(h1:1≤n)(h:out.length≤n):(wthS op a b c x y out).length≤n:=by
 unfold wthS;repeat' split
 all_goals first|exact h|(simp;try omega)
theorem wthL_length(op:Int)(f:Nat)(a b:List Cl)(c:Cl)(x y:Bool):(wthL op f a b c x y).length≤4^f:=by
 induction f generalizing a b c x y with
 |zero=>simp[wthL]
 |succ f ih=>
  have h4:1≤4^f:=Nat.pow_pos om_;unfold wthL;generalize leftL (x||hasB a c) a c=a';generalize leftL (y||hasB b c) b c=b';generalize (x||hasB a c)=x';generalize (y||hasB b c)=y';refine wthS_length _ _ _ _ _ _ _ _ (by rw[Nat.pow_succ];omega) ?_;simp only[kidsC,kids,List.flatMap_cons,List.flatMap_nil,List.length_append,List.length_nil];have h1:=fun d=>ih a' b' d x' y';have e1:=h1 (c.1+1,2*c.2.1,2*c.2.2);have e2:=h1 (c.1+1,2*c.2.1,2*c.2.2+1);have e3:=h1 (c.1+1,2*c.2.1+1,2*c.2.2);have e4:=h1 (c.1+1,2*c.2.1+1,2*c.2.2+1);rw[Nat.pow_succ];omega
section
open Canon
theorem mort_anc(d:Nat): ∀l r c:Nat,d≤l→mort l r c/4^d=mort (l-d) (r/2^d) (c/2^d):=by
 induction d with
 |zero=>intro l r c _;simp
 |succ d ih=>
  intro l r c h;rw[Nat.pow_succ,←Nat.div_div_eq_div_mul,ih l r c om_];obtain⟨m,hm⟩: ∃m,l-d=m+1:=⟨l-d-1,om_⟩;have e:l-(d+1)=m:=by omega
  rw[hm,e,mort_step];omega
theorem wiB_ins{x y:Cl}(hx:Vl x)(hy:Vl y):wiB x y=insB (blkOf x) (blkOf y).1 (blkOf y).2:=by
 obtain⟨l,r,c⟩:=x;obtain⟨l',r',c'⟩:=y;obtain⟨a0,a1,a2,a3,a4,a5⟩:=hx;obtain⟨b0,b1,b2,b3,b4,b5⟩:=hy;simp only[] at*;obtain⟨l,rfl⟩:=Int.eq_ofNat_of_zero_le a0;obtain⟨r,rfl⟩:=Int.eq_ofNat_of_zero_le a2;obtain⟨c,rfl⟩:=Int.eq_ofNat_of_zero_le a4;obtain⟨l',rfl⟩:=Int.eq_ofNat_of_zero_le b0;obtain⟨r',rfl⟩:=Int.eq_ofNat_of_zero_le b2;obtain⟨c',rfl⟩:=Int.eq_ofNat_of_zero_le b4;simp only[Int.toNat_natCast] at*;rw[Bool.eq_iff_iff];unfold wiB insB;rw[decide_eq_true_eq,decide_eq_true_eq];simp only[blkOf,mortI,Int.toNat_natCast];by_cases hl:l'≤l
 · have ed:((l:Int)-(l':Int)).toNat=l-l':=by omega
   rw[ed];have e2:16-l'-(16-l)=l-l':=by omega
   rw[e2,mort_anc (l-l') l r c om_,show l-(l-l')=l' by omega];have q1:(r:Int)/2^(l-l')=((r/2^(l-l'):Nat):Int):=by simp
   have q2:(c:Int)/2^(l-l')=((c/2^(l-l'):Nat):Int):=by simp
   rw[q1,q2];have hr:r/2^(l-l')<2^l':=by
    rw[Nat.div_lt_iff_lt_mul (Nat.pow_pos om_),←Nat.pow_add,show l'+(l-l')=l by omega];exact a3
   constructor
   · rintro⟨_,h2,h3⟩
     have h2':r/2^(l-l')=r':=by exact_mod_cast h2
     have h3':c/2^(l-l')=c':=by exact_mod_cast h3
     exact⟨om_,by rw[h2',h3']⟩
   · rintro⟨_,h2⟩
     obtain⟨e1,e2⟩:=mort_inj l' _ _ _ _ hr b3 h2;exact⟨om_,by rw[e1],by rw[e2]⟩
 · constructor
   · rintro⟨h,_⟩;omega
   · rintro⟨h,_⟩;omega
theorem ceq_blk{x y:Cl}(hx:Vl x)(hy:Vl y):ceq x y=decide (blkOf x=blkOf y):=by
 rw[Bool.eq_iff_iff,ceq_true,decide_eq_true_eq];exact⟨fun h=>by rw[h],blkOf_inj hx hy⟩
def AllV(L:List Cl):Prop:= ∀x∈L,Vl x
theorem hasB_blk{L:List Cl}{c:Cl}(hL:AllV L)(hc:Vl c):hasB L c=(L.map blkOf).contains (blkOf c):=by
 induction L with
 |nil=>rfl
 |cons x L ih=>
  have ih:=ih (fun y hy=>hL y (by simp[hy]));simp only[hasB,List.any_cons,List.map_cons,List.contains_cons] at ih⊢;rw[ih,ceq_blk (hL x (by simp)) hc];congr 1
  rw[Bool.eq_iff_iff,decide_eq_true_eq,beq_iff_eq];exact eq_comm
theorem belL_blk{L:List Cl}{c:Cl}(hL:AllV L)(hc:Vl c):(belL L c).map blkOf=belB (L.map blkOf) (blkOf c).1 (blkOf c).2:=by
 induction L with
 |nil=>rfl
 |cons x L ih=>
  have ih:=ih (fun y hy=>hL y (by simp[hy]));have hx:=hL x (by simp);have e:(!ceq x c&&wiB x c)=(decide (blkOf x≠((blkOf c).1,(blkOf c).2))&&insB (blkOf x) (blkOf c).1 (blkOf c).2):=by
   rw[ceq_blk hx hc,wiB_ins hx hc];simp
  simp only[belL,belB,List.map_cons,List.filter_cons,e] at ih⊢;split
  · rw[List.map_cons,ih]
  · exact ih
theorem belL_v{L:List Cl}{c:Cl}(hL:AllV L):AllV (belL L c):=fun x hx=>hL x (List.mem_filter.1 hx).1
theorem if_v{L:List Cl}(b:Bool)(hL:AllV L):AllV (if b=true then[] else L):=by
 cases b
 · exact hL
 · exact fun x hx=>by simp at hx
theorem leftL_blk{L:List Cl}{c:Cl}(b:Bool)(hL:AllV L)(hc:Vl c):(leftL b L c).map blkOf=belB (if b=true then[] else L.map blkOf) (blkOf c).1 (blkOf c).2:=by
 unfold leftL;rw[belL_blk (if_v b hL) hc];cases b<;>rfl
theorem leftL_v{L:List Cl}{c:Cl}(b:Bool)(hL:AllV L):AllV (leftL b L c):=belL_v (if_v b hL)
theorem kids_vl{c:Cl}(hc:Vl c)(h:c.1<16):AllV (kidsC c):=by
 obtain⟨l,r,c⟩:=c;obtain⟨a0,a1,a2,a3,a4,a5⟩:=hc;simp only[] at*;have e:(l+1).toNat=l.toNat+1:=by omega
 intro x hx;simp only[kidsC,kids,List.mem_cons,List.not_mem_nil,or_false] at hx;rcases hx with rfl|rfl|rfl|rfl<;>(constructor<;>simp only[e,Nat.pow_succ]<;>omega)
theorem kids_blk{c:Cl}(hc:Vl c)(h:c.1<16):(kidsC c).map blkOf=kidsB ((blkOf c).1-1) (blkOf c).2:=by
 obtain⟨l,r,c⟩:=c;obtain⟨a0,a1,a2,a3,a4,a5⟩:=hc;simp only[] at*;obtain⟨l,rfl⟩:=Int.eq_ofNat_of_zero_le a0;obtain⟨r,rfl⟩:=Int.eq_ofNat_of_zero_le a2;obtain⟨c,rfl⟩:=Int.eq_ofNat_of_zero_le a4;have e:((l:Int)+1).toNat=l+1:=by omega
 have e1:(2*(r:Int)).toNat=2*r:=by omega
 have e2:(2*(r:Int)+1).toNat=2*r+1:=by omega
 have e3:(2*(c:Int)).toNat=2*c:=by omega
 have e4:(2*(c:Int)+1).toNat=2*c+1:=by omega
 have e5:16-(l+1)=16-l-1:=by omega
 have f1:2*r/2=r:=by omega
 have f2:(2*r+1)/2=r:=by omega
 have f3:2*c/2=c:=by omega
 have f4:(2*c+1)/2=c:=by omega
 have f5:2*r%2=0:=by omega
 have f6:(2*r+1)%2=1:=by omega
 have f7:2*c%2=0:=by omega
 have f8:(2*c+1)%2=1:=by omega
 simp only[kidsC,kids,kidsB,blkOf,mortI,List.map_cons,List.map_nil,e,e1,e2,e3,e4,Int.toNat_natCast,mort,f1,f2,f3,f4,f5,f6,f7,f8,e5,Nat.mul_zero,Nat.mul_one,Nat.add_zero,Nat.add_assoc]
theorem map_cell_inj: ∀{A B:List Blk2},(∀b∈A,b.1≤16)→(∀b∈B,b.1≤16)→A.map cellB=B.map cellB→A=B:=by
 intro A B hA hB h;have h2:=congrArg (List.map blkOf) h;have e: ∀{A:List Blk2},(∀b∈A,b.1≤16)→(A.map cellB).map blkOf=A:=by
  intro A hA;rw[List.map_map];conv=>rhs;rw[←List.map_id A]
  exact List.map_congr_left fun b hb=>blkOf_cellB b (hA b hb)
 rwa [e hA,e hB] at h2
theorem map_blk_back{L:List Cl}(hL:AllV L):(L.map blkOf).map cellB=L:=by
 rw[List.map_map];conv=>rhs;rw[←List.map_id L]
 exact List.map_congr_left fun b hb=>cellB_blkOf b (hL b hb)
theorem canon_h16{S:Nat→Prop}{h n:Nat}(hh:h≤16): ∀b∈canon S h n,b.1≤16:=by
 rintro⟨k,m⟩ hb
 have:=((mem_canon S h n k m).1 hb).1;simp only[];omega
theorem map_le{L:List Cl}{h:Nat}(hl: ∀z∈L,(blkOf z).1≤h): ∀b∈L.map blkOf,b.1≤h:=by
 intro b hb;obtain⟨x,hx,rfl⟩:=List.mem_map.1 hb;exact hl x hx
theorem wthL_canon(op:Int): ∀(h:Nat) (a b:List Cl) (c:Cl) (x y:Bool),h≤16→Vl c→(blkOf c).1=h→AllV a→AllV b→(∀z∈a,(blkOf z).1≤h)→(∀z∈b,(blkOf z).1≤h)→
 wthL op (h+1) a b c x y=(canon (fun q=>opB op (x||covB (a.map blkOf) q) (y||covB (b.map blkOf) q)=true) h (blkOf c).2).map cellB:=by
 intro h;induction h with
 |zero=>
  intro a b c x y hh hc hk ha hb la lb;have key:=wthB_canon (opB op) 0 (blkOf c).2 (a.map blkOf) (b.map blkOf) x y (map_le la) (map_le lb);rw[←key];have ec:((0:Nat),(blkOf c).2)=blkOf c:=by rw[←hk]
  have pa:=leftL_blk (x||hasB a c) ha hc;have pb:=leftL_blk (y||hasB b c) hb hc;rw[hasB_blk ha hc] at pa;rw[hasB_blk hb hc] at pb;unfold wthL wthB wthS;simp only[ec];rw[hasB_blk ha hc,hasB_blk hb hc];rw[hk] at pa pb;rw[←pa,←pb];have na:leftL (x||(a.map blkOf).contains (blkOf c)) a c=[]:=by
   have:(leftL (x||(a.map blkOf).contains (blkOf c)) a c).map blkOf=[]:=by
    rw[pa,List.eq_nil_iff_forall_not_mem];intro z hz;have:=bel_lt hz;omega
   simpa using this
  have nb:leftL (y||(b.map blkOf).contains (blkOf c)) b c=[]:=by
   have:(leftL (y||(b.map blkOf).contains (blkOf c)) b c).map blkOf=[]:=by
    rw[pb,List.eq_nil_iff_forall_not_mem];intro z hz;have:=bel_lt hz;omega
   simpa using this
  rw[na,nb];simp only[List.length_nil,and_self,if_true,List.map_nil];split
  · simp[cellB_blkOf c hc]
  · rfl
 |succ h ih=>
  intro a b c x y hh hc hk ha hb la lb;have key:=wthB_canon (opB op) (h+1) (blkOf c).2 (a.map blkOf) (b.map blkOf) x y (map_le la) (map_le lb);rw[←key];have ec:(h+1,(blkOf c).2)=blkOf c:=by rw[←hk]
  have hl:c.1<16:=by have:=hc.l0;have:=hc.l1;simp only[blkOf] at hk;omega
  have pa:=leftL_blk (x||hasB a c) ha hc;have pb:=leftL_blk (y||hasB b c) hb hc;have va:=leftL_v (c:=c) (x||hasB a c) ha;have vb:=leftL_v (c:=c) (y||hasB b c) hb;rw[hk] at pa pb;have ga: ∀z∈leftL (x||hasB a c) a c,(blkOf z).1≤h:=fun z hz=>by
   have:blkOf z∈(leftL (x||hasB a c) a c).map blkOf:=List.mem_map.2 ⟨z,hz,rfl⟩;rw[pa] at this;have:=bel_lt this;omega
  have gb: ∀z∈leftL (y||hasB b c) b c,(blkOf z).1≤h:=fun z hz=>by
   have:blkOf z∈(leftL (y||hasB b c) b c).map blkOf:=List.mem_map.2 ⟨z,hz,rfl⟩;rw[pb] at this;have:=bel_lt this;omega
  have kv:=kids_vl hc hl;have kb:=kids_blk hc hl;rw[hk] at kb;have kf: ∀d∈kidsC c,(blkOf d).1=h:=fun d hd=>by
   have:blkOf d∈(kidsC c).map blkOf:=List.mem_map.2 ⟨d,hd,rfl⟩;rw[kb] at this;simp only[kidsB,List.mem_cons,List.not_mem_nil,or_false] at this;rcases this with e|e|e|e<;>simp[e]
  have ihk:=fun d (hd:d∈kidsC c)=>ih (leftL (x||hasB a c) a c) (leftL (y||hasB b c) b c) d (x||hasB a c) (y||hasB b c) om_ (kv d hd) (kf d hd) va vb ga gb;unfold wthL wthB wthS;simp only[ec];rw[hasB_blk ha hc,hasB_blk hb hc] at*;generalize (x||(a.map blkOf).contains (blkOf c))=x' at*;generalize (y||(b.map blkOf).contains (blkOf c))=y' at*;rw[←pa,←pb];have wa:=wthB_canon (opB op) h;generalize leftL x' a c=a' at*;generalize leftL y' b c=b' at*;have hout:(kidsC c).flatMap (fun d=>wthL op (h+1) a' b' d x' y')=
   (wthB (opB op) h (4*(blkOf c).2) (a'.map blkOf) (b'.map blkOf) x' y'++(wthB (opB op) h (4*(blkOf c).2+1) (a'.map blkOf) (b'.map blkOf) x' y'++(wthB (opB op) h (4*(blkOf c).2+2) (a'.map blkOf) (b'.map blkOf) x' y'++wthB (opB op) h (4*(blkOf c).2+3) (a'.map blkOf) (b'.map blkOf) x' y'))).map cellB:=by
   have e1:(kidsC c).flatMap (fun d=>wthL op (h+1) a' b' d x' y')=(((kidsC c).map blkOf).flatMap fun d=>(wthB (opB op) h d.2 (a'.map blkOf) (b'.map blkOf) x' y').map cellB):=by
    rw[List.flatMap_map];rw[List.flatMap_def,List.flatMap_def];congr 1
    exact List.map_congr_left fun d hd=>by rw[ihk d hd,wa _ _ _ _ _ (map_le ga) (map_le gb)]
   rw[e1,kb];simp[kidsB]
  rw[hout];have hlen: ∀b∈(wthB (opB op) h (4*(blkOf c).2) (a'.map blkOf) (b'.map blkOf) x' y'++(wthB (opB op) h (4*(blkOf c).2+1) (a'.map blkOf) (b'.map blkOf) x' y'++(wthB (opB op) h (4*(blkOf c).2+2) (a'.map blkOf) (b'.map blkOf) x' y'++wthB (opB op) h (4*(blkOf c).2+3) (a'.map blkOf) (b'.map blkOf) x' y'))),b.1≤16:=by
   intro b hb;simp only[List.mem_append,wa _ _ _ _ _ (map_le ga) (map_le gb)] at hb;rcases hb with hb|hb|hb|hb<;>exact canon_h16 om_ b hb
  generalize (wthB (opB op) h (4*(blkOf c).2) (a'.map blkOf) (b'.map blkOf) x' y'++(wthB (opB op) h (4*(blkOf c).2+1) (a'.map blkOf) (b'.map blkOf) x' y'++(wthB (opB op) h (4*(blkOf c).2+2) (a'.map blkOf) (b'.map blkOf) x' y'++wthB (opB op) h (4*(blkOf c).2+3) (a'.map blkOf) (b'.map blkOf) x' y')))=out at*;simp only[List.length_eq_zero_iff,List.map_eq_nil_iff];have hkk:(out.map cellB=kidsC c)↔out=kidsB h (blkOf c).2:=by
   rw[←map_blk_back kv,kb];constructor
   · intro e
     refine map_cell_inj hlen ?_ e;intro b hb;simp only[kidsB,List.mem_cons,List.not_mem_nil,or_false] at hb;rcases hb with rfl|rfl|rfl|rfl<;>simp only[]<;>omega
   · intro e
     rw[e];rfl
  split
  · split
    · simp[cellB_blkOf c hc]
    · rfl
  · by_cases hx:out=kidsB h (blkOf c).2
    · rw[if_pos hx,if_pos (hkk.2 hx)]
      simp[cellB_blkOf c hc]
    · rw[if_neg hx,if_neg (fun e=>hx (hkk.1 e))]
def madeL(op:Int)(a b:List Cl):List Cl:=wthL op 17 a b (0,0,0) false false++wthL op 17 a b (0,0,1) false false
theorem madeL_canon(op:Int)(a b:List Cl)(ha:AllV a)(hb:AllV b):madeL op a b=canonC (fun q=>opB op (covB (a.map blkOf) q) (covB (b.map blkOf) q)=true):=by
 have v0:Vl (0,0,0):=by constructor<;>simp
 have v1:Vl (0,0,1):=by constructor<;>simp
 have h1:=wthL_canon op 16 a b (0,0,0) false false (Nat.le_refl _) v0 (by rfl) ha hb (fun z hz=>(blk_lt z (ha z hz)).1) (fun z hz=>(blk_lt z (hb z hz)).1);have h2:=wthL_canon op 16 a b (0,0,1) false false (Nat.le_refl _) v1 (by rfl) ha hb (fun z hz=>(blk_lt z (ha z hz)).1) (fun z hz=>(blk_lt z (hb z hz)).1);unfold madeL canonC;rw[List.map_append,h1,h2];rfl
theorem made_or(L:List Cl)(hL:AllV L):madeL 1 L []=canonC (covL L):=by
 rw[madeL_canon 1 L [] hL (fun x hx=>by simp at hx)];refine canonC_congr fun q=>?_;refine Iff.trans ?_ (covB_map L q);have e:covB (([]:List Cl).map blkOf) q=false:=rfl;rw[e];simp[opB]
theorem canon_len(A:List Blk2): ∀(h n:Nat),h≤16→(∀b∈A,¬(h<b.1∧insB (h,n) b.1 b.2=true))→(canon (fun q=>covB A q=true) h n).length≤(A.filter fun b=>insB b h n).length
 |h,n,hh,hn=>by
  by_cases hf:full (fun q=>covB A q=true) h n
  · rw[canon_full hf]
    have hp:=blk_pos (h,n);simp only[] at hp;obtain⟨b,hb,c1,c2⟩:=covS.1 (hf _ (Nat.le_refl _) hp);have hle:b.1≤h:=by
     rcases Nat.lt_or_ge h b.1 with g|g
     · exact absurd ⟨g,meet_in (a:=(h,n)) (b:=b) so_ (Nat.le_refl _) hp c1 c2⟩ (hn b hb)
     · exact g
    have hin:=meet_in (a:=b) (b:=(h,n)) hle c1 c2 (Nat.le_refl _) hp;have:b∈A.filter fun b=>insB b h n:=List.mem_filter.2 ⟨hb,hin⟩;exact List.length_pos_of_mem this
  · match h,hh,hn,hf with
    |0,_,_,hf=>
     rw[canon_none (fun q q1 q2 hq=>hf (by
      intro p p1 p2;simp at p1 p2 q1 q2;have:p=q:=by omega
      rw[this];exact hq))]
     simp
    |h+1,hh,hn,hf=>
     have hk: ∀i,i<4→ ∀b∈A,¬(h<b.1∧insB (h,4*n+i) b.1 b.2=true):=by
      intro i hi b hb ⟨g1,g2⟩;apply hf;have hin:insB (h+1,n) b.1 b.2=true:=by
       simp only[insB,decide_eq_true_eq] at g2⊢;refine⟨om_,?_⟩;rw[←g2.2,show b.1-h=1+(b.1-(h+1)) by omega,Nat.pow_add,←Nat.div_div_eq_div_mul];congr 1
       omega
      have hb2:=(ins_iff (b:=(h+1,n)) so_).1 hin;simp only[] at hb2;intro q q1 q2;exact covS.2 ⟨b,hb,om_,om_⟩
     have r0:=canon_len A h (4*n) om_ (hk 0 om_);have r1:=canon_len A h (4*n+1) om_ (hk 1 om_);have r2:=canon_len A h (4*n+2) om_ (hk 2 om_);have r3:=canon_len A h (4*n+3) om_ (hk 3 om_);simp only[canon,hf,if_false,List.length_append];have hsum: ∀A:List Blk2,(A.filter fun b=>insB b h (4*n)).length+(A.filter fun b=>insB b h (4*n+1)).length+(A.filter fun b=>insB b h (4*n+2)).length+(A.filter fun b=>insB b h (4*n+3)).length≤(A.filter fun b=>insB b (h+1) n).length:=by
      intro A;induction A with
      |nil=>simp
      |cons b A ih=>
       have e: ∀m,insB b h m=true→insB b (h+1) (m/4)=true:=by
        intro m hm;simp only[insB,decide_eq_true_eq] at hm⊢;refine⟨om_,?_⟩;rw[←hm.2,show h+1-b.1=(h-b.1)+1 by omega,Nat.pow_succ,←Nat.div_div_eq_div_mul]
       have d: ∀m m',insB b h m=true→insB b h m'=true→m=m':=by
        intro m m' h1 h2;simp only[insB,decide_eq_true_eq] at h1 h2;omega
       have e0:=e (4*n);have e1:=e (4*n+1);have e2:=e (4*n+2);have e3:=e (4*n+3);rw[show 4*n/4=n by omega] at e0;rw[show(4*n+1)/4=n by omega] at e1;rw[show(4*n+2)/4=n by omega] at e2;rw[show(4*n+3)/4=n by omega] at e3;have d01:=d (4*n) (4*n+1);have d02:=d (4*n) (4*n+2);have d03:=d (4*n) (4*n+3);have d12:=d (4*n+1) (4*n+2);have d13:=d (4*n+1) (4*n+3);have d23:=d (4*n+2) (4*n+3);clear e d;simp only[List.filter_cons];generalize insB b h (4*n)=g0 at*;generalize insB b h (4*n+1)=g1 at*;generalize insB b h (4*n+2)=g2 at*;generalize insB b h (4*n+3)=g3 at*;generalize insB b (h+1) n=g at*;have k01: ¬(g0=true∧g1=true):=fun⟨a,b⟩=>by have:=d01 a b;omega
       have k02: ¬(g0=true∧g2=true):=fun⟨a,b⟩=>by have:=d02 a b;omega
       have k03: ¬(g0=true∧g3=true):=fun⟨a,b⟩=>by have:=d03 a b;omega
       have k12: ¬(g1=true∧g2=true):=fun⟨a,b⟩=>by have:=d12 a b;omega
       have k13: ¬(g1=true∧g3=true):=fun⟨a,b⟩=>by have:=d13 a b;omega
       have k23: ¬(g2=true∧g3=true):=fun⟨a,b⟩=>by have:=d23 a b;omega
       clear d01 d02 d03 d12 d13 d23 r0 r1 r2 r3 hk hf hn;cases g0<;>cases g1<;>cases g2<;>cases g3<;>cases g<;>simp at* <;>omega
     have:=hsum A;omega
theorem canonC_len(L:List Cl)(hL:AllV L):(canonC (covL L)).length≤L.length:=by
 have e:canonC (covL L)=canonC (fun q=>covB (L.map blkOf) q=true):=canonC_congr fun q=>(covB_map L q).symm;rw[e];unfold canonC;rw[List.length_map,List.length_append];have hno: ∀n,∀b∈L.map blkOf,¬(16<b.1∧insB (16,n) b.1 b.2=true):=by
  intro n b hb;obtain⟨x,hx,rfl⟩:=List.mem_map.1 hb;have:=(blk_lt x (hL x hx)).1;omega
 have h0:=canon_len (L.map blkOf) 16 0 (Nat.le_refl _) (hno 0);have h1:=canon_len (L.map blkOf) 16 1 (Nat.le_refl _) (hno 1);have hs: ∀A:List Blk2,(A.filter fun b=>insB b 16 0).length+(A.filter fun b=>insB b 16 1).length≤A.length:=by
  intro A;induction A with
  |nil=>simp
  |cons b A ih=>
   have d:insB b 16 0=true→insB b 16 1=true→False:=by
    intro h1 h2;simp only[insB,decide_eq_true_eq] at h1 h2;omega
   simp only[List.filter_cons];generalize insB b 16 0=g0 at*;generalize insB b 16 1=g1 at*;clear h0 h1 hno e;cases g0<;>cases g1<;>simp at* <;>omega
 have:=hs (L.map blkOf);rw[List.length_map] at this;omega
end
def broB(x y z u:Cl):Bool:=if x.1=0 then false else
 let k:=kids (x.1-1) (x.2.1/2) (x.2.2/2)
 ceq x (gt k 0)&&ceq y (gt k 1)&&ceq z (gt k 2)&&ceq u (gt k 3)
theorem elem4{w:World}{B:Nat}{A:Option Addr}{x y z u:Cl}(h:Reads w B 3 A 4 (cvs [x,y,z,u])): ∃b off,A=some ⟨b,off,none⟩∧b<B∧
 (w.cell? ⟨b,off,none⟩=some (vi vk x.1)∧w.cell? ⟨b,off+1,none⟩=some (vi vk x.2.1)∧w.cell? ⟨b,off+2,none⟩=some (vi vk x.2.2))∧
 (w.cell? ⟨b,off+3,none⟩=some (vi vk y.1)∧w.cell? ⟨b,off+3+1,none⟩=some (vi vk y.2.1)∧w.cell? ⟨b,off+3+2,none⟩=some (vi vk y.2.2))∧
 (w.cell? ⟨b,off+6,none⟩=some (vi vk z.1)∧w.cell? ⟨b,off+6+1,none⟩=some (vi vk z.2.1)∧w.cell? ⟨b,off+6+2,none⟩=some (vi vk z.2.2))∧
 (w.cell? ⟨b,off+9,none⟩=some (vi vk u.1)∧w.cell? ⟨b,off+9+1,none⟩=some (vi vk u.2.1)∧w.cell? ⟨b,off+9+2,none⟩=some (vi vk u.2.2)):=by
 obtain⟨b,off,rfl,hb,a0⟩:=h.elem (k:=0) om_;obtain⟨b',off',e,_,a1⟩:=h.elem (k:=1) om_;cases e
 obtain⟨b',off',e,_,a2⟩:=h.elem (k:=2) om_;cases e
 obtain⟨b',off',e,_,a3⟩:=h.elem (k:=3) om_;cases e
 exact⟨b,off,rfl,hb,a0,a1,a2,a3⟩
theorem brothers_any(A:Option Addr)(ca:Nat)(l r c:Int)(y z u:Cl)(w:World)(hr:Reads w w.heap.size 3 A 4 (cvs [(l,r,c),y,z,u]))(h0:0≤l)(h1:l≤16)(h2:0≤r)(r1:r≤131072)(h4:0≤c)(c1:c≤131072):
 Calls Tryz.prog 93 #[.slice A 4 ca] w fun e w'=>e=.returned (.bool (broB (l,r,c) y z u))∧Below w.heap.size w w':=by
 have HR:=hid hr;obtain⟨b,off,rfl,hb,⟨x1,x2,x3⟩,_,_,_⟩:=elem4 hr;clear hr;simp only[] at x1 x2 x3;by_cases hz:l=0
 · subst hz
   go_enter func93,ntmps93;go_wp2;go_ret;exact⟨ret_bool (by simp[broB]),Below.refl _ _⟩
 · have hd:(l==0)=false:=by simp[hz]
   have P:=hid (fun w=>refParent_any l r c w om_ h1 h2 r1 h4 c1);have K:Hid (∀w,Calls Tryz.prog 88 #[.agg #[vi vk (l-1),vi vk (r/2),vi vk (c/2)]] w fun e w'=> ∃v,e=.returned v∧w'.ownsRow w.heap.size 55 3 v 4 (cvs (kids (l-1) (r/2) (c/2)))∧Below w.heap.size w w'):=hid (fun w=>refChildren_any (l-1) (r/2) (c/2) w om_ om_ om_ om_ om_ om_);go_enter func93,ntmps93;go_wp2_with (first|(go_at_call 133;refine(P.out _).mono ?_;rintro e w1 ⟨rfl,hb1⟩)|(go_at_call 88;refine(K.out _).mono ?_;rintro e w2 ⟨v,rfl,hown,hb2⟩;obtain⟨A',ca',rfl,hR',hle,_⟩:=own_form hown));have hb3:Below w.heap.size w w2:=hb1.trans (hb2.mono hb1.size);have hq:=eqlCell;have hR2:=HR.out.below hb3;obtain⟨_,_,e,_,⟨x1,x2,x3⟩,⟨y1,y2,y3⟩,⟨z1,z2,z3⟩,⟨u1,u2,u3⟩⟩:=elem4 hR2;cases e
   obtain⟨b',off',rfl,hb',⟨p1,p2,p3⟩,⟨q1,q2,q3⟩,⟨s1,s2,s3⟩,⟨t1,t2,t3⟩⟩:=elem4 hR';have E:broB (l,r,c) y z u=(ceq (l,r,c) (gt (kids (l-1) (r/2) (c/2)) 0)&&ceq y (gt (kids (l-1) (r/2) (c/2)) 1)&&ceq z (gt (kids (l-1) (r/2) (c/2)) 2)&&ceq u (gt (kids (l-1) (r/2) (c/2)) 3)):=by simp[broB,hz]
   simp only[kids,gt,List.getD_cons_zero,List.getD_cons_succ] at E;obtain⟨ya,yb,yc⟩:=y;obtain⟨za,zb,zc⟩:=z;obtain⟨ua,ub,uc⟩:=u;simp only[] at x1 x2 x3 y1 y2 y3 z1 z2 z3 u1 u2 u3 p1 p2 p3 q1 q2 q3 s1 s2 s3 t1 t2 t3;have hl1:l-1+1=l:=by omega
   simp only[hl1] at E p1 q1 s1 t1;clear hl1;have E2:=hid E;clear E;clear hR2 hR' hown HR P K hd;cases e1:ceq (l,r,c) (l,2*(r/2),2*(c/2)) with
   |false=>
    go_quiet (fail);go_wp2;go_ret;exact⟨ret_bool (by rw[E2.out];simp[e1]),bl_drewN hb3 _⟩
   |true=>
    cases e2:ceq (ya,yb,yc) (l,2*(r/2),2*(c/2)+1) with
    |false=>
     go_quiet (fail);go_wp2;go_ret;exact⟨ret_bool (by rw[E2.out];simp[e1,e2]),bl_drewN hb3 _⟩
    |true=>
     cases e3:ceq (za,zb,zc) (l,2*(r/2)+1,2*(c/2)) with
     |false=>
      go_quiet (fail);go_wp2;go_ret;exact⟨ret_bool (by rw[E2.out];simp[e1,e2,e3]),bl_drewN hb3 _⟩
     |true=>
      go_quiet (fail);go_wp2;go_ret;exact⟨ret_bool (by rw[E2.out];simp[e1,e2,e3]),bl_drewN hb3 _⟩
theorem Equal_any(A B:Option Addr)(n m ca cb:Nat)(L M:List Cl)(w:World)(B1 B2:Nat)(ha:Reads w B1 3 A n (cvs L))(hb:Reads w B2 3 B m (cvs M))(hn:n≤maxLen)(hm:m≤maxLen):
 Calls Tryz.prog 63 #[.slice A n ca,.slice B m cb] w fun e w'=>e=.returned (.bool (decide (L=M)))∧ ∃q,w'=w.drewN q:=by
 have hl:=ha.len;have hk:=hb.len;unfold maxLen at hn hm;by_cases hnm:n=m
 · subst hnm
   have hnn:((n:Int) != (n:Int))=false:=by simp
   have R1:=hid ha;have R2:=hid hb;have Hl:=hid hl;have Hk:=hid hk;clear ha hb hl hk;have hq:=neqCell;go_enter func63,ntmps63;go_wp2;go_loopw [13] (fun i wr=> ∃k q:Nat,k≤n∧i=vi vk k∧L.take k=M.take k∧wr=w.drewN q) (fun i _=>n-(intOf i).toNat)
   case atStart=>exact⟨0,0,Nat.zero_le _,rfl,by simp,rfl⟩
   case round=>
    obtain⟨k,q,hkn,rfl,ht,rfl⟩:=hrel;have HT:=hid ht;clear ht;by_cases hlt:k<n
    · obtain⟨b1,o1,rfl,hb1,x1,x2,x3⟩:=R1.out.elem hlt
      obtain⟨b2,o2,rfl,hb2,y1,y2,y3⟩:=R2.out.elem hlt;by_cases he:gt L k=gt M k
      · have hc:=ceq_true.2 he
        clear he;go_wp2;go_quiet (fail);go_wp2;go_roundw
        case rel=>exact⟨k+1,_,om_,by go_num,take_eq_succ HT.out (by rw[Hl.out];exact hlt) (by rw[Hk.out];exact hlt) (ceq_true.1 hc),rfl⟩
        case measure=>simp[intOf];omega
      · have hc:=ceq_false.2 he
        clear he;have hne:=hid (ne_of_gt (ceq_false.1 hc));go_wp2;go_quiet (fail);go_wp2;go_ret;exact⟨ret_bool (by simp[hne.out]),_,World.drewN_drewN _ _ _⟩
    · go_wp2
      go_ret;have hkk:k=n:=by omega
      subst hkk;have:=HT.out;rw[List.take_of_length_le (by rw[Hl.out];omega),List.take_of_length_le (by rw[Hk.out];omega)] at this;exact⟨ret_bool (by simp[this]),_,rfl⟩
 · have hnn:((n:Int) != (m:Int))=true:=by rw[bne_iff_ne];omega
   have hne:L≠M:=fun h=>hnm (by rw[←hl,←hk,h]);have hne:=hid hne;clear ha hb hl hk hnm;go_enter func63,ntmps63;go_wp2;go_ret;exact⟨ret_bool (by simp[hne.out]),0,rfl⟩
def vrB(L:List Cl):Bool:=decide (L.length≤4000)&& !badL L&&decide (tidyL (coverL L)=L)
theorem ValidRegion_any(A:Option Addr)(n c:Nat)(L:List Cl)(w:World)(hr:Reads w w.heap.size 3 A n (cvs L))(hn:n≤maxLen):
 Calls Tryz.prog 33 #[.slice A n c] w fun e w'=>e=.returned (.bool (vrB L))∧Below w.heap.size w w':=by
 have hl:=hr.len;have hbad:=allValid_any A n c L w hr hn;change Calls _ _ _ _ fun e w'=>e=.returned (.bool (badL L))∧_ at hbad
 have hn2:n≤maxLen:=hn;unfold maxLen at hn;by_cases hbig:4000<n
 · have e1:vrB L=false:=by simp[vrB,hl];omega
   rw[e1];clear e1 hl hr hbad hn2;go_enter func33,ntmps33;go_wp2;go_ret;exact⟨rfl,Below.refl _ _⟩
 · cases hb:badL L with
   |true=>
    have e1:vrB L=false:=by simp[vrB,hb]
    rw[e1];rw[hb] at hbad;have hbad:=hid hbad;clear hb e1 hl hr hn2;go_enter func33,ntmps33;go_wp2_with (go_at_call 60;refine hbad.out.mono ?_;rintro e w1 ⟨rfl,hb1⟩);go_ret;exact⟨rfl,hb1⟩
   |false=>
    have hv:=badL_false hb;rw[hb] at hbad;have hbad:=hid hbad;have hok:=spOk_cover L hv;have hcl:=coverL_length L;rw[hl] at hcl;have HR:=hid hr;have HV:=hid hv;have HO:=hid hok;have HN:=hid hn2;have e1:vrB L=decide (tidyL (coverL L)=L):=by simp[vrB,hb,hl];omega
    rw[e1];have HL:=hid hl;clear hb e1 hl hr hv hok hn2;go_enter func33,ntmps33;go_wp2_with fail;refine hbad.out.mono ?_;rintro e w1 ⟨rfl,hb1⟩
    go_wp2_with fail;(with_reducible refine(cover_any A n c L w1 ((HR.out.below hb1).more hb1.size) om_ HV.out).mono ?_)
    rintro e w2 ⟨v,rfl,hown,hb2⟩
    obtain⟨A2,c2,hv2,hr2,-⟩:=own_form hown;subst hv2;have hb12:=hb1.trans (hb2.mono hb1.size);go_wp2_with fail;(with_reducible refine(tidy_any A2 (coverL L).length c2 (coverL L) w2 hr2 om_ HO.out).mono ?_)
    rintro e w3 ⟨hb3,hcase⟩
    have hb13:=hb12.trans (hb3.mono hb12.size);rcases hcase with ⟨hT,v3,rfl,hown3⟩|⟨hx,rfl⟩
    · obtain⟨A4,c4,hv4,hr4,hc4,hc5⟩:=own_form hown3
      subst hv4;go_wp2_with fail;(with_reducible refine(Equal_any A4 A _ n c4 c (tidyL (coverL L)) L w3 _ _ hr4 (HR.out.below hb13) (by unfold maxLen;omega) HN.out).mono ?_)
      rintro e w4 ⟨rfl,q,rfl⟩
      go_wp2;go_ret;exact⟨rfl,bl_drewN hb13 _⟩
    · have hne:decide (tidyL (coverL L)=L)=false:=decide_eq_false (fun h=>by have:=HL.out;rw[←h] at this;omega)
      have HE:=hid hne;clear hne;go_wp2;go_ret;exact⟨ret_bool HE.out.symm,hb13⟩
end Go.Proofs.YtdeiofgddhbdaaaGreat
