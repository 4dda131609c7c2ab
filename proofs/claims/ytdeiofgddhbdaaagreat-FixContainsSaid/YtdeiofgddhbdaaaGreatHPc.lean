/- slices.SortFunc and slices.SortedFunc at arcs, by their beginnings. -/
import Derived.RangeFuncNested
import Derived.RangeFuncBound
import Derived.RangeFuncCalls
import Derived.RangeFuncLeaves
import Derived.Shelf.RegionOpen
import Derived.OwnWalkIn
import Derived.TacticsInMore
import Derived.LoopNIn
import Derived.LoopIn
import Derived.Test.YtdeiofgddhbdaaaGreatHSd
set_option linter.unusedSimpArgs false
set_option linter.unusedVariables false
set_option maxHeartbeats 4000000
set_option maxRecDepth 100000
open Go.ChangeShapes Go.WideShapes Go.ChangeAt Go.RowKit Go.Joins Go.Deep
open Go.Lib (hid)
open Go.Proofs.Tryz
open Go.Value renaming int→vi
open Go.IntKind renaming i64→vk
namespace Go.Proofs.YtdeiofgddhbdaaaGreat
theorem boxOk_of{x:Cl}(hx:Vl x):BoxOk (edg x.2.1 x.1-5400000) (edg (x.2.1+1) x.1-5400000) (edg x.2.2 x.1-10800000) (edg (x.2.2+1) x.1-10800000):=by
 obtain⟨h1,h2,h3,h4,h5,h6,h7,h8⟩:=box_nums hx;constructor<;>omega
theorem cellContains(x:Cl)(a b:Int)(W:World)(hx:Vl x)(hp:vptB a b=true):
 Calls Tryz.prog 14 #[boxV x.1 x.2.1 x.2.2,.agg #[vi vk a,vi vk b]] W fun e w'=>e=.returned (.tuple #[.bool (ptB x a b),vi vk 0])∧Below W.heap.size W w':=
 placeContains_any _ _ _ _ a b W (boxOk_of hx) hp
theorem con_take(L:List Cl)(a b:Int)(k:Nat)(hk:k<L.length)(h:((L.take k).any fun x=>ptB x a b)=false):((L.take (k+1)).any fun x=>ptB x a b)=ptB (gt L k) a b:=by
 rw[List.take_succ_eq_append_getElem hk,List.any_append,h];simp[gt,hk]
theorem con_of(L:List Cl)(a b:Int)(k:Nat)(hk:k<L.length)(h:ptB (gt L k) a b=true):conB L a b=true:=by
 unfold conB;rw[List.any_eq_true];simp[gt,hk] at h;exact⟨L[k],List.getElem_mem hk,h⟩
theorem Contains_any(A:Option Addr)(n c:Nat)(L:List Cl)(a b:Int)(w:World)(hr:Reads w w.heap.size 3 A n (cvs L))(hn:n≤maxLen)(hv:vrB L=true)(hp:vptB a b=true):
 Calls Tryz.prog 13 #[.slice A n c,.agg #[vi vk a,vi vk b]] w fun e w'=>e=.returned (.tuple #[.bool (conB L a b),vi vk 0])∧Below w.heap.size w w':=by
 obtain⟨R,hR⟩: ∃R,R=conB L a b:=⟨_,rfl⟩;rw[←hR];have HR:=hid hR;have HL:=hid hr.len;have RD:Hid (∀W,Below w.heap.size w W→Reads W W.heap.size 3 A n (cvs L)):=hid (fun W hW=>(hr.below hW).more hW.size);have K1:=hid (fun W hW=>vr_yes A n c L true hv W (RD.out W hW) hn);have K2:=hid (vpt_yes a b hp);have AV:=hid (vr_parts hv).2.2;have HP:=hid hp;have hlen:=(vr_parts hv).1;rw[hr.len] at hlen;clear hR hr hv hp hn;go_enter func13,ntmps13;go_wp2_with fail;have b0:=bl_alloc w (.cells #[vi vk a,vi vk b] 23);(with_reducible refine(K1.out _ b0).mono ?_)
 rintro e w1 ⟨rfl,hb1⟩
 have hb1':=b0.trans (hb1.mono (by simp));have hz1:=one_lt hb1;have y0:=(hb1.cell (p:=⟨w.heap.size,0,none⟩) (by simp)).trans (show _=some (vi vk a) by simp);have y1:=(hb1.cell (p:=⟨w.heap.size,1,none⟩) (by simp)).trans (show _=some (vi vk b) by simp);clear hb1 b0;go_wp2_with fail;(with_reducible refine(K2.out _).mono ?_)
 rintro e w2 ⟨rfl,hb2⟩
 have hb2':=hb1'.trans (hb2.mono hb1'.size);have y0:=(hb2.cell (p:=⟨w.heap.size,0,none⟩) hz1).trans y0;have y1:=(hb2.cell (p:=⟨w.heap.size,1,none⟩) hz1).trans y1;have hz2:w.heap.size<w2.heap.size:=Nat.lt_of_lt_of_le hz1 hb2.size;clear hb2 hb1' K1 K2 hz1;go_wp2_with fail;go_loopw [20] (fun i wr=> ∃k:Nat,k≤n∧i=vi vk k∧((L.take k).any fun x=>ptB x a b)=false∧Below w2.heap.size w2 wr) (fun i _=>n-(intOf i).toNat)
 case atStart=>exact⟨0,Nat.zero_le _,rfl,rfl,Below.refl _ _⟩
 case round=>
  obtain⟨k,hk,rfl,hno,hbr⟩:=hrel;have hzr:=hbr.size;by_cases hlt:k<n
  · have hbw:=hb2'.trans (hbr.mono hb2'.size)
    obtain⟨bk,off,rfl,hbk,x1,x2,x3⟩:=(RD.out wr hbw).elem hlt;have hkl:k<L.length:=by rw[HL.out];exact hlt
    have hx:=AV.out (gt L k) (by simp[gt,hkl]);have KB:=hid (fun W=>box_any (gt L k).1 (gt L k).2.1 (gt L k).2.2 W ((vl_iff _).2 hx));have KC:=hid (fun W=>cellContains (gt L k) a b W hx HP.out);have h1:=hid (con_take L a b k hkl hno);have h2:=hid (con_of L a b k hkl);generalize gt L k=x at x1 x2 x3 KB KC h1 h2;obtain⟨xl,xr,xc⟩:=x;simp only[] at x1 x2 x3 KB KC;generalize ptB (xl,xr,xc) a b=z at KC h1 h2;clear hx hno;go_upto_region 6 with fail
    generalize hW5:wr.alloc (.cells #[vi vk xl,vi vk xr,vi vk xc] 55)=w5;have hz5:wr.heap.size<w5.heap.size:=by rw[←hW5];simp
    have hb5:Below w2.heap.size w2 w5:=by rw[←hW5];exact hbr.alloc hzr _
    have c0: ∀s:BV w5,s.w.cell? ⟨wr.heap.size,0,none⟩=some (vi vk xl):=fun s=>(s.hb.cell (p:=⟨wr.heap.size,0,none⟩) hz5).trans (by rw[←hW5];simp);have c1: ∀s:BV w5,s.w.cell? ⟨wr.heap.size,1,none⟩=some (vi vk xr):=fun s=>(s.hb.cell (p:=⟨wr.heap.size,1,none⟩) hz5).trans (by rw[←hW5];simp);have c2: ∀s:BV w5,s.w.cell? ⟨wr.heap.size,2,none⟩=some (vi vk xc):=fun s=>(s.hb.cell (p:=⟨wr.heap.size,2,none⟩) hz5).trans (by rw[←hW5];simp);have c3: ∀s:BV w5,s.w.cell? ⟨w.heap.size,0,none⟩=some (vi vk a):=fun s=>(s.hb.cell (p:=⟨w.heap.size,0,none⟩) so_).trans ((hb5.cell (p:=⟨w.heap.size,0,none⟩) hz2).trans y0);have c4: ∀s:BV w5,s.w.cell? ⟨w.heap.size,1,none⟩=some (vi vk b):=fun s=>(s.hb.cell (p:=⟨w.heap.size,1,none⟩) so_).trans ((hb5.cell (p:=⟨w.heap.size,1,none⟩) hz2).trans y1);clear hW5 x1 x2 x3;refine wp_region_bv w5 (by kernel_rfl) (by kernel_rfl) (Below.refl _ _) ?_;(repeat (go_big_quiet_step (first|(go_at_call 34;with_reducible exact quiet_bv (KB.out _))|(go_at_call 14;with_reducible exact quiet_bv (KC.out _))|fail)))
    refine wpQuiet_nil ?_;intro w9 hb9;have hb9':Below w2.heap.size w2 w9:=hb5.trans (hb9.mono hb5.size);clear c0 c1 c2 c3 c4 KB KC;cases z with
    |true=>
     have hE:Hid (R=true):=hid (by rw[HR.out];exact h2.out rfl);go_wp2;go_ret2
     exact⟨by rw[hE.out];rfl,hb2'.trans (hb9'.mono hb2'.size)⟩
    |false=>
     go_wp2;go_roundw
     case rel=>exact⟨k+1,om_,by go_num,h1.out,hb9'⟩
     case measure=>simp[intOf];omega
  · have hkn:k=n:=by omega
    have hE:Hid (R=false):=hid (by rw[HR.out];unfold conB;rw[List.take_of_length_le (by rw[HL.out];omega)] at hno;exact hno);clear hno;go_wp2;go_ret2
    exact⟨by rw[hE.out];rfl,hb2'.trans (hbr.mono hb2'.size)⟩
section
abbrev Pn:=Int×Int
def pnl(x:Pn):List Value:=[vi vk x.1,vi vk x.2]
def pnls(L:List Pn):List Value:=L.flatMap pnl
def gpn(L:List Pn)(k:Nat):Pn:=L.getD k (0,0)
theorem pnls_length(L:List Pn):(pnls L).length=L.length*2:=by
 induction L with
 |nil=>rfl
 |cons x r ih=>simp[pnls,pnl] at ih⊢;omega
theorem pnls_at: ∀(L:List Pn) (k:Nat),k<L.length→ ∀j,j<2→(pnls L)[k*2+j]? =(pnl (gpn L k))[j]?
 | [],k,hk=>by simp at hk
 |x::r,0,hk=>fun j hj=>by
  have hc:pnls (x::r)=pnl x++pnls r:=rfl;rw[hc,Nat.zero_mul,Nat.zero_add,List.getElem?_append_left (by simp[pnl];omega)];rfl
 |x::r,k+1,hk=>fun j hj=>by
  have hc:pnls (x::r)=pnl x++pnls r:=rfl;have hl:(pnl x).length=2:=rfl;have e1:(k+1)*2+j-2=k*2+j:=by omega
  rw[hc,List.getElem?_append_right (by rw[hl];omega),hl,e1,pnls_at r k (by simpa using hk) j hj];rfl
theorem Reads.lenP{w:World}{B n:Nat}{A:Option Addr}{L:List Pn}(h:Reads w B 2 A n (pnls L)):L.length=n:=by
 have:=h.1;rw[pnls_length] at this;omega
theorem Reads.elemP{w:World}{B n:Nat}{A:Option Addr}{L:List Pn}(h:Reads w B 2 A n (pnls L)){k:Nat}(hk:k<n):
 ∃b off,A=some ⟨b,off,none⟩∧b<B∧w.cell? ⟨b,off+k*2,none⟩=some (vi vk (gpn L k).1)∧w.cell? ⟨b,off+k*2+1,none⟩=some (vi vk (gpn L k).2):=by
 have hl:=h.lenP;obtain⟨ad,rfl,hb,hc⟩:=h.2 om_;obtain⟨b,off,spot⟩:=ad;have z1:=pnls_at L 0 om_ 0 om_;have hspot:spot=none:=by simpa [Addr.add] using World.cell?_spot (hc 0 _ (by simpa [pnl] using z1))
 subst hspot;have y:=pnls_at L k om_;have c: ∀j u,j<2→(pnl (gpn L k))[j]? =some u→w.cell? ⟨b,off+(k*2+j),none⟩=some u:=by
  intro j u hj hu;have:=hc (k*2+j) u ((y j hj).trans hu);rw[Go.WideShapes.add_plain] at this;exact this
 exact⟨b,off,rfl,hb,c 0 _ om_ rfl,c 1 _ om_ rfl⟩
theorem list2{α:Type}{l:List α}(h:l.length=2): ∃a b,l=[a,b]:=by
 match l,h with
 | [a,b],_=>exact⟨a,b,rfl⟩
theorem Tryz.cellsPn9:Tryz.prog.cellsOf 23=2:=by kernel_rfl
section
variable {H:Type} {enc:TypeId×Value→H} {P:Program} {w:World} {base:Nat} {spare:Nat→Bool} {held:Bool}
theorem point_ints{n:Nat}{c0 c1:Value}{y:DataW H×List MemPlace}(h:DataW.trod enc Tryz.prog w base spare held n 23 [c0,c1]=some y): ∃k:Pn,[c0,c1]=pnl k:=by
 obtain⟨y0,y1,m,h0,h1⟩:=open_pair underlying23 (by kernel_rfl) h;obtain⟨a,e0,-,-⟩:=DataW.trod_int underlying3 h0;obtain⟨b,e1,-,-⟩:=DataW.trod_int underlying3 h1;cases e0
 cases e1
 exact⟨(a,b),rfl⟩
end
theorem pnls_map(f:Nat→Pn)(n j:Nat):(pnls ((List.range n).map f))[j]? =if j<n*2 then(pnl (f (j/2)))[j%2]? else none:=by
 have hl:((List.range n).map f).length=n:=by simp
 by_cases h:j<n*2
 · rw[if_pos h]
   have hk:j/2<((List.range n).map f).length:=by rw[hl];omega
   have:=pnls_at ((List.range n).map f) (j/2) hk (j%2) (Nat.mod_lt _ om_);rw[show j/2*2+j%2=j by omega] at this;rw[this];have hg:gpn ((List.range n).map f) (j/2)=f (j/2):=by
    unfold gpn;rw[List.getD_eq_getElem?_getD,List.getElem?_eq_getElem hk];simp
   rw[hg]
 · rw[if_neg h]
   have:=pnls_length ((List.range n).map f);rw[hl] at this;exact List.getElem?_eq_none om_
theorem open_points{H:Type}{enc:TypeId×Value→H}{W:World}{v:Value}{d:DataW H}{ps:List MemPlace}{r:Reach}{b0:Nat}(hv:Value.okWide Tryz.prog W r b0 24 v)
 (h:DataW.Trod enc Tryz.prog W 0 (fun _=>true) true 24 v d ps):
 ∃A n ca L,v=.slice A n ca∧Reads W W.heap.size 2 A n (pnls L)∧n≤ca∧ca≤maxLen:=by
 obtain⟨a,len,cap,rfl⟩:=okWide_slice underlying24 hv;obtain⟨fu,hf⟩:=h;have hf':DataW.trod enc Tryz.prog W 0 (fun _=>true) true fu 24 [.slice a len cap]=some (d,ps):=by simpa [Value.cells] using hf
 rcases open_slice underlying24 hf' with ⟨h0,-⟩|⟨a',len',cap',m,n,D,Pl,hcs,hb,hl,hm,hmm,hx,hi⟩
 · cases h0
   exact⟨none,0,0,[],rfl,Reads.none_,Nat.le_refl _,by simp[maxLen]⟩
 · cases hcs
   simp only[if_true] at hmm;subst hmm;have one: ∀i,i<len→ ∃x:Pn,∀j,j<2→W.cell? (a'.add (i*2+j))=(pnl x)[j]? :=by
    intro i hil;obtain⟨cs,hc,ht⟩:=hi i om_;rw[Tryz.cellsPn9] at hc;obtain⟨_,hcl,hat⟩:=World.cells?_some hc;obtain⟨c0,c1,rfl⟩:=list2 hcl;obtain⟨k,hk⟩:=point_ints ht;refine⟨k,fun j hj=>?_⟩;rw[←Go.Deep.add_add,hat j hj,hk]
   obtain⟨f,hf2⟩:=choose_lt one;refine⟨some a',len,_,(List.range len).map f,rfl,⟨by simp[pnls_length],fun h0=>⟨a',rfl,?_,?_⟩⟩,hl,hm⟩
   · have h1:=hf2 0 h0 0 om_
     have h2:=World.block_lt_of_cell? W _ h1;exact h2
   · intro j u hu
     rw[pnls_map] at hu;by_cases hj:j<len*2
     · rw[if_pos hj] at hu
       have h1:=hf2 (j/2) om_ (j%2) (Nat.mod_lt _ om_);rw[show j/2*2+j%2=j by omega] at h1;rw[h1,hu]
     · rw[if_neg hj] at hu
       cases hu
theorem Tryz.readPoints:Tryz.prog.readableRec 24=true:=by kernel_rfl
theorem Tryz.rowPoints:24<Tryz.prog.types.size:=of_decide_eq_true (by kernel_rfl)
theorem points_stay{H:Type}{enc:TypeId×Value→H}{W W':World}{sp:Nat→Bool}{v:Value}{d:DataW H}{ps:List MemPlace}(h:DataW.Trod enc Tryz.prog W 0 (fun _=>true) true 24 v d ps)(hb:Below W.heap.size W W')(hlt: ∀x∈ps,x.block<W.heap.size)(hsp: ∀p∈ps,sp p.block=true):DataW.Trod enc Tryz.prog W' 0 sp true 24 v d ps:=
 WideElems.Trod_stays Tryz.laidOutB Tryz.readPoints Tryz.rowPoints h (fun x hx=>hb.same (hlt x hx)) hsp
def IdxPostP(w:World)(b:Bool)(e:Ending)(w':World):Prop:= ∃k:Int,e=.returned (vi vk k)∧decide (0≤k)=b∧Below w.heap.size w w'
theorem anyP_take(L:List Pn)(p:Pn→Bool)(k:Nat)(hk:k<L.length)(h:(L.take k).any p=false)(hp:p (gpn L k)=false):(L.take (k+1)).any p=false:=by
 rw[List.take_succ_eq_append_getElem hk,List.any_append,h];simp[gpn,hk] at hp;simp[hp]
theorem anyP_of(L:List Pn)(p:Pn→Bool)(k:Nat)(hk:k<L.length)(hp:p (gpn L k)=true):L.any p=true:=by
 rw[List.any_eq_true];simp[gpn,hk] at hp;exact⟨L[k],List.getElem_mem hk,hp⟩
theorem idxPn_any(g:Nat)(lb:Array Value)(p:Pn→Bool)(eg: ∀args w,(callFunc g args).run Tryz.prog w=.ok (.enter g args) w)(A:Option Addr)(n c:Nat)(L:List Pn)(w:World)
 (hr:Reads w w.heap.size 2 A n (pnls L)) (hn:n≤maxLen) (hp: ∀(W:World) (x:Pn),Below w.heap.size w W→Calls Tryz.prog g (#[(.agg #[vi vk x.1,vi vk x.2])]++lb) W fun e w'=>e=.returned (.bool (p x))∧Below W.heap.size W w'):
 Calls Tryz.prog 18 #[.slice A n c,.func (.func g) #[] lb] w (IdxPostP w (L.any p)):=by
 have HL:=hid hr.lenP;have HR:=hid hr;have HP:=hid hp;clear hr hp;unfold maxLen at hn;go_enter func18,ntmps18;go_wp2;go_loopg [8] n (fun gg s8 wr=> ∃kk:Nat,kk≤n∧n-kk≤gg∧s8=vi vk kk∧Below w.heap.size w wr∧(L.take kk).any p=false)
 case atStart=>exact⟨0,Nat.zero_le _,om_,rfl,Below.refl _ w,rfl⟩
 case round=>
  obtain⟨kk,hkk,hg,rfl,BW,HA⟩:=hrel;have HA:=hid HA;by_cases hlt:kk<n
  · obtain⟨b,off,rfl,hb,x1,x2⟩:=HR.out.elemP hlt
    have y1:=(BW.cell (p:=⟨b,off+kk*2,none⟩) hb).trans x1;have y2:=(BW.cell (p:=⟨b,off+kk*2+1,none⟩) hb).trans x2;clear x1 x2;have hcall:=HP.out wr (gpn L kk) BW;have h1:=hid (anyP_take L p kk (by rw[HL.out];exact hlt) HA.out);have h2:=hid (anyP_of L p kk (by rw[HL.out];exact hlt));cases hq:p (gpn L kk) with
    |true=>
     have h3:=hid (h2.out hq);rw[hq] at hcall;have hcall:=hid hcall;clear hq h1 h2;go_wp2_with (go_at_fn g;refine hcall.out.mono ?_;rintro e w' ⟨rfl,hb'⟩);go_ret;exact⟨kk,rfl,by rw[h3.out];simp,BW.trans (hb'.mono BW.size)⟩
    |false=>
     have h3:=hid (h1.out hq);rw[hq] at hcall;have hcall:=hid hcall;clear hq h1 h2;go_wp2_with (go_at_fn g;refine hcall.out.mono ?_;rintro e w' ⟨rfl,hb'⟩);go_roundg (n-(kk+1))
     case measure=>omega
     case rel=>exact⟨kk+1,om_,om_,by go_num,BW.trans (hb'.mono BW.size),h3.out⟩
  · go_wp2
    go_ret;have h:=HA.out;rw[List.take_of_length_le (by rw[HL.out];omega)] at h;exact⟨-1,rfl,by rw[h];rfl,BW⟩
theorem contPn_any(g:Nat)(lb:Array Value)(p:Pn→Bool)(eg: ∀args w,(callFunc g args).run Tryz.prog w=.ok (.enter g args) w)(A:Option Addr)(n c:Nat)(L:List Pn)(w:World)
 (hr:Reads w w.heap.size 2 A n (pnls L)) (hn:n≤maxLen) (hp: ∀(W:World) (x:Pn),Below w.heap.size w W→Calls Tryz.prog g (#[(.agg #[vi vk x.1,vi vk x.2])]++lb) W fun e w'=>e=.returned (.bool (p x))∧Below W.heap.size W w'):
 Calls Tryz.prog 6 #[.slice A n c,.func (.func g) #[] lb] w fun e w'=>e=.returned (.bool (L.any p))∧Below w.heap.size w w':=by
 have H:=hid (idxPn_any g lb p eg A n c L w hr hn hp);clear hp hr hn eg;go_enter func6,ntmps6;go_wp2_with (go_at_call 18;refine H.out.mono ?_;rintro e w1 ⟨k,rfl,hk,hb⟩;have HK:=hid hk;clear hk);go_ret;exact⟨ret_bool HK.out,hb⟩
theorem badPn_any(x:Pn)(w:World):Calls Tryz.prog 7 #[.agg #[vi vk x.1,vi vk x.2]] w fun e w'=>e=.returned (.bool (!(vptB x.1 x.2)))∧Below w.heap.size w w':=by
 obtain⟨a,b⟩:=x;have V:=hid (fun w=>vpt_any a b w);simp only[];generalize vptB a b=v at V⊢;go_enter func7,ntmps7;go_wp2_with (go_at_call 5;refine(V.out _).mono ?_;rintro e w1 ⟨rfl,hb⟩);go_ret;exact⟨rfl,one_bl hb⟩
theorem noBadPn_any(A:Option Addr)(n c:Nat)(L:List Pn)(w:World)(hr:Reads w w.heap.size 2 A n (pnls L))(hn:n≤maxLen):
 Calls Tryz.prog 6 #[.slice A n c,.func (.func 7) #[] #[]] w fun e w'=>e=.returned (.bool (L.any fun x=> !(vptB x.1 x.2)))∧Below w.heap.size w w':=
 contPn_any _ _ _ (enters_of func7 (by kernel_rfl) rfl) A n c L w hr hn fun W x _=>badPn_any x W
end
section
open Go.Shelf
theorem take_gs(D:List Sp){k:Nat}(h:k<D.length):D.take (k+1)=D.take k++[gs D k]:=by
 rw[List.take_succ_eq_append_getElem h];simp[gs,h]
theorem arc_cells(W:World)(x:Sp)(t:TypeId): ∀(j:Nat) (u:Value),[vi vk x.1,vi vk x.2][j]? =some u→(W.alloc (.cells #[vi vk x.1,vi vk x.2] t)).cell? ((⟨W.heap.size,0,none⟩:Addr).add j)=some u:=fun j u hu=>by
 match j,hu with
 |0,hu=>simp at hu;subst hu;simp[Addr.add]
 |1,hu=>simp at hu;subst hu;simp[Addr.add]
 |j+2,hu=>simp at hu
theorem values1_in(F:Fence)(n:Nat)(h7:F.fn 165)(hro:F.round=none)(hn:1≤n)(l Bs n₀ b off len cap:Nat)(D:List Sp)(hlen:D.length=len)(hreach:len*16≤140737488351232)(hb:b<n₀)(J Jx:List Sp→World→Prop)
 (hY: ∀pre x W,J pre W→pre.length<len→YieldAt F (n-1) Tryz.prog l #[.agg #[vi vk x.1,vi vk x.2]] W fun e W'=>
   (e=.returned (.bool true)∧J (pre++[x]) W'∧Below n₀ W W')∨(e=.returned (.bool false)∧Jx (pre++[x]) W'))
 (W:World) (hJ:AbidesFrom W.heap.size J) (hn₀:n₀≤W.heap.size) (hBs:W.cell? ⟨Bs,0,none⟩=some (.slice (some ⟨b,off,none⟩) len cap)) (hc: ∀j,j<len→W.cell? ⟨b,off+j*2,none⟩=some (vi vk (gs D j).1)∧W.cell? ⟨b,off+j*2+1,none⟩=some (vi vk (gs D j).2)) (h0:J [] W):
 CallsIn F n Tryz.prog 165 #[.func (.yield l) #[] #[],.pointer (some ⟨Bs,0,none⟩)] W fun e W'=>(∃v,e=.returned v)∧
  ((∃ys,ys=D∧J ys W')∨(∃pre,pre <+: D∧Jx pre W')):=by
 have hsa:= @Oper.semAt_some;refine callsIn_of_wp func165 rfl h7 ?_ hro;simp only[ntmps165,List.size_toArray,List.length_cons,List.length_nil,Nat.reduceAdd,Nat.reduceSub,Array.replicate_succ,Array.replicate_zero,List.push_toArray,List.append_toArray,List.nil_append,List.cons_append];gi_wp2
 gi_loopw [7] (fun i wr=> ∃k:Nat,k≤len∧i=vi vk k∧J (D.take k) wr∧Below n₀ W wr)
  (fun i _=>len-(intOf i).toNat)
 case atStart=>exact⟨0,Nat.zero_le _,rfl,h0,Below.refl _ _⟩
 case round=>
  obtain⟨k,hk,rfl,hJs,hnx⟩:=hrel;by_cases hlt:k<len
  · obtain⟨c1,c2⟩:=hc k hlt
    have d1:=(hnx.cell (p:=⟨b,off+k*2,none⟩) hb).trans c1;have d2:=(hnx.cell (p:=⟨b,off+k*2+1,none⟩) hb).trans c2;have hJ2:=hJ _ wr (wr.alloc (.cells #[vi vk (gs D k).1,vi vk (gs D k).2] 31)) none hJs (World.grownBy_alloc wr _ none) (fun r e=>by cases e);have hnx2:=hnx.alloc (by have:=hnx.size;omega) (.cells #[vi vk (gs D k).1,vi vk (gs D k).2] 31);obtain⟨fn,tmps,assign,body,hy,hR⟩:=hY _ (gs D k) _ hJ2 (by rw[List.length_take];omega);(try dsimp only at hy)
    gi_wp2
    refine hR.mono ?_;rintro e W3 (⟨rfl,hJ3,hk3⟩|⟨rfl,hJx3⟩)
    · gi_wp2
      go_roundw
      case rel=>exact⟨k+1,om_,by simp,by rw[take_gs D om_];exact hJ3,hnx2.trans hk3⟩
      case measure=>simp[intOf];omega
    · gi_wp2
      refine bodyPost_ret (results_none rfl _ _ _) rfl ?_;exact⟨⟨_,rfl⟩,.inr ⟨_,by rw[←take_gs D om_];exact List.take_prefix _ _,hJx3⟩⟩
  · obtain rfl:k=len:=by omega
    gi_wp2
    go_end0
    exact⟨⟨_,rfl⟩,.inl ⟨_,List.take_of_length_le om_,hJs⟩⟩
theorem values_in(F:Fence)(n:Nat)(h5:F.fn 114)(hro:F.round=none)(a:Option Addr)(len cap:Nat)(w:World):
 CallsIn F n Tryz.prog 114 #[.slice a len cap] w fun e w'=>e=.returned (.func (.func 165) #[] #[.pointer (some ⟨w.heap.size,0,none⟩)])∧w'=w.alloc (.cells #[.slice a len cap] 125):=by
 refine callsIn_of_wp func114 rfl h5 ?_ hro;simp only[ntmps114,List.size_toArray,List.length_cons,List.length_nil,Nat.reduceAdd,Nat.reduceSub,Array.replicate_succ,Array.replicate_zero,List.push_toArray,List.append_toArray,List.nil_append,List.cons_append];gi_wp2
 go_ret;exact⟨rfl,rfl⟩
theorem values_stops(F:Fence)(n:Nat)(h7:F.fn 165)(hro:F.round=none)(hn:1≤n)(Bs n₀:Nat)(b off cap:Nat)(D:List Sp)(hreach:D.length*16≤140737488351232)(w:World)(hBs:Bs<w.heap.size)(hn₀:n₀≤w.heap.size)
 (hc:w.cell? ⟨Bs,0,none⟩=some (.slice (some ⟨b,off,none⟩) D.length cap)) (hb:b<n₀) (hI: ∀j,j<D.length→w.cell? ⟨b,off+j*2,none⟩=some (vi vk (gs D j).1)∧w.cell? ⟨b,off+j*2+1,none⟩=some (vi vk (gs D j).2)):
 SeqStopsK F n Tryz.prog 165 #[.pointer (some ⟨Bs,0,none⟩)] (fun x:Sp=>#[.agg #[vi vk x.1,vi vk x.2]]) (Below n₀) (fun ys=>ys=D) (fun pre=>pre <+: D) D.length w:=fun l J Jx W hW hJ _ hY h0=>
 values1_in F n h7 hro hn l Bs n₀ b off D.length cap D rfl hreach hb J Jx hY W hJ (by have:=hW.size;omega) ((hW.cell (p:=⟨Bs,0,none⟩) hBs).trans hc) (fun j hj=>⟨(hW.cell (p:=⟨b,off+j*2,none⟩) so_).trans (hI j hj).1,(hW.cell (p:=⟨b,off+j*2+1,none⟩) so_).trans (hI j hj).2⟩) h0
theorem blk_own(B:Nat)(t:TypeId)(cs:Array Value):Own (fun(_:Unit) W=>Blk W B t cs):=fun s X Y row hs hg hrow=>Blk.grown hs hg (fun e'=>by
 obtain⟨o,ho,hc⟩:=hrow B e'.symm;rw[show X.heap[B]? =_ from hs] at ho;cases ho;cases hc)
theorem appendSeq_in(F:Fence)(n:Nat)(h4:F.fn 197)(hro:F.round=none)(hn:2≤n)(g:Nat)(lb:Array Value)(hFg:F.fn g)(eg: ∀args w,(callFunc g args).run Tryz.prog w=.ok (.enter g args) w)
 (D:List Sp) (n₀:Nat) (w0 w:World) (hseq:SeqStopsK F (n-1) Tryz.prog g lb (fun x:Sp=>#[.agg #[vi vk x.1,vi vk x.2]]) (Below n₀) (fun ys=>ys=D) (fun pre=>pre <+: D) D.length w0) (hb0:Below w0.heap.size w0 w) (hn₀:n₀≤w.heap.size) (hlen:D.length≤100000):
 CallsIn F n Tryz.prog 197 #[.slice none 0 0,.func (.func g) #[] lb] w fun e W'=> ∃v,e=.returned v∧W'.ownsRow w.heap.size 31 2 v D.length (spvs D)∧Below w.heap.size w W':=by
 have h1:1≤n:=by omega
 have hsa:= @Oper.semAt_some;obtain⟨i0,hi,hz0,hz1,hz2⟩: ∃i0,Tryz.prog.info? 31=some i0∧i0.zero=some (.agg #[vi vk 0,vi vk 0])∧i0.size=2∧i0.bytes=16:=by
  have h:(Tryz.prog.info? 31).map (fun i=>(i.zero,i.size,i.bytes))=some (some (.agg #[vi vk 0,vi vk 0]),2,16):=by kernel_rfl
  obtain⟨i0,a,b,c,d⟩:=info_parts h;exact⟨i0,a,b,c,d⟩
 refine callsIn_of_wp_marks func197 rfl h4 ?_ hro;simp only[ntmps197,List.size_toArray,List.length_cons,List.length_nil,Nat.reduceAdd,Nat.reduceSub,Array.replicate_succ,Array.replicate_zero,List.push_toArray,List.append_toArray,List.nil_append,List.cons_append];gi_wp2
 have bO:=Boxed.new w 125 (.slice none 0 0);have hB0:Below w.heap.size w (w.alloc (.cells #[.slice none 0 0] 125)):=(Below.refl _ w).alloc (Nat.le_refl _) _;have hsz:(w.alloc (.cells #[.slice none 0 0] 125)).heap.size=w.heap.size+1:=by simp
 obtain⟨W0,hW0⟩: ∃W0,w.alloc (.cells #[.slice none 0 0] 125)=W0:=⟨_,rfl⟩;rw[hW0] at bO hB0 hsz⊢;clear hW0;refine wpIn_rangeFunc_ownH hro h1 (gf:=g) (lb:=lb) rfl hFg eg hseq belowK_t (belowK_b om_) (hb0.trans (hB0.mono hb0.size)) (fun _=>rfl)
  (fun pre W=>(∃v,Boxed W w.heap.size 125 v∧W.ownsRow w.heap.size 31 2 v pre.length (spvs pre)∧True)∧Below w.heap.size w W)
  (fun _ _ _=>False)
  (OwnFrom.and (Own.from (holdsRow_own w.heap.size w.heap.size 125 31 2 (fun pre:List Sp=>pre.length) (fun pre=>spvs pre) (fun _ _=>True)) _) (ownFrom_below (Nat.le_refl _) om_))
  (fun _ _ _ _ _ hs _ _=>hs)
  ⟨⟨_,bO,World.ownsRow_nil _ _ _ _,trivial⟩,hB0⟩
  (fun x a' W=> ∃Bx,w.heap.size<Bx∧Blk W Bx 31 #[vi vk x.1,vi vk x.2]∧a'={tmps:=#[.slice none 0 0,.func (.func g) #[] lb,.pointer (some ⟨w.heap.size,0,none⟩),undef,.slice none 0 0,.pointer (some ⟨Bx,0,none⟩),.func (.func g) #[] lb,.agg #[vi vk x.1,vi vk x.2],undef,undef,undef,undef,undef],defers:=[]})
  (fun x a' _ X Y row hs hg hr=>by obtain⟨Bx,h1,h2,h3⟩:=hs;exact⟨Bx,h1,blk_own Bx 31 #[vi vk x.1,vi vk x.2] () X Y row h2 hg (fun r e=>(hr r e).2),h3⟩)
  ?assign ?body ?done ?stop
 case assign=>
  rintro l pre x W K ⟨⟨v,hv,hrow,-⟩,hB⟩ hK
  gi_wp2
  exact hK _ _ ((KeepsOthers.alloc _ _).from _) ((Below.refl _ W).alloc (by have:=hB.size;omega) _) ⟨⟨v,hv.alloc _,hrow.alloc _,trivial⟩,hB.alloc hB.size _⟩ ⟨W.heap.size,hv.lt,Blk.new W _ _,rfl⟩
 case body=>
  rintro l pre x a' W hl ⟨r,hr⟩ ⟨⟨v,hv,hrow,-⟩,hB⟩ ⟨Bx,hBx,bX,rfl⟩ hlt
  have hc:=hv.cell;have x0:=bX.cell 0;have x1:=bX.cell 1;simp only[List.getElem?_toArray,List.getElem?_cons_zero,List.getElem?_cons_succ] at x0 x1;gi_wp2_with (gi_at_builtin;refine wpListIn_append_own _ rfl _ _ 125 rfl w.heap.size 31 i0 (.agg #[vi vk 0,vi vk 0]) 2 16 underlying125 hi hz0 hz1 hz2 rfl dc_ _ _ _ rfl (hrow.alloc _) ⟨W.heap.size,0,none⟩ 1 1 [vi vk x.1,vi vk x.2] rfl rfl (arc_cells _ _ _) (by simp[Value.oneCell']) (by simp only[maxLen];omega) om_ (by have:=hB.size;simp;omega) ?_;intro v' w1 hown' hgrow _;obtain⟨g',cap',rfl⟩:=ownsRow_succ hown';obtain⟨hv1,hv2,hr2,hk2,hb2⟩:=hv.appended dc_ hrow hB.size (Nat.le_refl _) hown' hgrow;have hc1:=hv1.cell;have hf1:=hv1.frozen)
  exact⟨hk2.from _,hb2.mono hn₀,⟨_,hv2,by simpa [spvs_append,spvs,spv] using hr2,trivial⟩,hB.trans hb2⟩
 case done=>
  rintro D' ys W hD rfl ⟨⟨v,hv,hrow,-⟩,hB⟩ hK
  have hc:=hv.cell;gi_wp2
  refine⟨by simp,.inl ⟨_,_,rfl,run_takeDeferred hK,?_⟩⟩;exact⟨_,results_tmp rfl _ _ _,v,rfl,ownsRow_putObj hrow _ hK rfl,hB.trans (belowK_b (w:=w) (Nat.le_refl _) W D' _ _ om_ hK rfl rfl)⟩
 case stop=>
  rintro D' c pre W _ _ h _
  exact h.elim
theorem collect_in(F:Fence)(n:Nat)(h6:F.fn 163)(h4:F.fn 197)(hro:F.round=none)(hn:3≤n)(g:Nat)(lb:Array Value)(hFg:F.fn g)(eg: ∀args w,(callFunc g args).run Tryz.prog w=.ok (.enter g args) w)
 (D:List Sp) (n₀:Nat) (w0 w:World) (hseq:SeqStopsK F (n-1-1) Tryz.prog g lb (fun x:Sp=>#[.agg #[vi vk x.1,vi vk x.2]]) (Below n₀) (fun ys=>ys=D) (fun pre=>pre <+: D) D.length w0) (hb0:Below w0.heap.size w0 w) (hn₀:n₀≤w.heap.size) (hlen:D.length≤100000):
 CallsIn F n Tryz.prog 163 #[.func (.func g) #[] lb] w fun e W'=> ∃v,e=.returned v∧W'.ownsRow w.heap.size 31 2 v D.length (spvs D)∧Below w.heap.size w W':=by
 have h1:1≤n:=by omega
 have e4:=enters_of func197 (by kernel_rfl) rfl;refine callsIn_of_wp func163 rfl h6 ?_ hro;simp only[ntmps163,List.size_toArray,List.length_cons,List.length_nil,Nat.reduceAdd,Nat.reduceSub,Array.replicate_succ,Array.replicate_zero,List.push_toArray,List.append_toArray,List.nil_append,List.cons_append];gi_wp2_with (gi_at_call 197;refine(appendSeq_in F (n-1) h4 hro om_ g lb hFg eg D n₀ w0 _ hseq hb0 hn₀ hlen).mono ?_;rintro e w' ⟨v,rfl,hrow,hb⟩)
 go_ret;exact⟨v,rfl,hrow,hb⟩
end
section
open Go.Sort Go.Shelf
def cmpA(x y:Sp):Int:=Lib.compareInt x.1 y.1
theorem arcCmp_any(x y:Sp)(W:World):Calls Tryz.prog 115 #[.agg #[vi vk x.1,vi vk x.2],.agg #[vi vk y.1,vi vk y.2]] W fun e w'=>e=.returned (vi vk (cmpA x y))∧ ∃q os',w'=grow (W.drewN q) os':=by
 have C1:=fun W=>compare_any x.1 y.1 W;unfold cmpA;generalize Lib.compareInt x.1 y.1=u at C1⊢;have C1:=hid C1;go_enter func115,ntmps115;go_wp2_with (go_at_call 74;refine(C1.out _).mono ?_;rintro e w' ⟨rfl,rfl⟩);go_ret;refine⟨rfl,0,#[.cells #[vi vk x.1,vi vk x.2] 31,.cells #[vi vk y.1,vi vk y.2] 31],?_⟩;rw[alloc_eq_grow,alloc_eq_grow,grow_grow];rfl
theorem ltOf_cmpA(x y:Sp):ltOf cmpA x y=decide (x.1<y.1):=by
 unfold ltOf cmpA Lib.compareInt;by_cases h1:x.1<y.1
 · simp[h1]
 · by_cases h2:y.1<x.1<;>simp[h1,h2]
theorem swo_cmpA:SWO (ltOf cmpA) where
 irrefl x:=by rw[ltOf_cmpA];simp
 trans x y z h1 h2:=by rw[ltOf_cmpA] at*;simp only[decide_eq_true_eq] at*;omega
 ntrans x y z h1 h2:=by rw[ltOf_cmpA] at*;simp only[decide_eq_false_iff_not] at*;omega
theorem sortArc_any(base:Nat)(v:Value)(D:List Sp)(w:World)(h:w.ownsRow base 31 2 v D.length (spvs D))(hn:D.length<4611686018427387904)(h0:0<D.length):
 Calls Tryz.prog 164 #[v,.func (.func 115) #[] #[]] w fun e w'=>e=.returned (.tuple #[])∧(∃D':List Sp,D'.Perm D∧(∀i j,i<j→j<D'.length→(gs D' i).1≤(gs D' j).1)∧w'.ownsRow base 31 2 v D.length (spvs D'))∧w.grownBy w' v.ownBlock:=by
 obtain⟨g,cap,rfl,hg,hlt⟩:=h.form h0;have eg: ∀args w,(callFunc 115 args).run Tryz.prog w=.ok (.enter 115 args) w:=enters_of func115 (by kernel_rfl) rfl;have hH:HoldsK spv 2 w g 0 D.toArray:=by
  intro j hj;rw[flat2] at hj⊢;rcases h.2 with ⟨h1,_⟩|⟨g',cap',cur,hv,_,hh,hnc,hcm,hcs,htk⟩
  · cases h1
  · injection hv with e1 e2 e3
    injection e1 with e1
    injection e1 with e1
    subst e1;have hj':j<(spvs D).length:=by simpa using hj
    have hc:cur[j]? =some ((spvs D)[j]):=by
     have:=congrArg (·[j]?) htk;simp only[List.getElem?_take] at this;rw[spvs_length] at hj';rw[if_pos hj'] at this;rw[spvs_length] at*;rw[Array.getElem?_toList] at this;rw[this,List.getElem?_eq_getElem]
    refine⟨?_,?_⟩
    · simp[World.cell?,hh,hc,hj']
    · simp[World.frozen?,hh]
 have hcon:=AnyQ.slices_SortFunc Tryz.sortArc 2 Tryz.isAgg31 Tryz.sizeOf31 spv (fun _=>rfl) (fun x v hv=>spv_one x v hv) cmpA swo_cmpA 115 #[] g 0 cap D.toArray w eg (fun _ _ _ _ x y=>arcCmp_any x y _) hH hlt (by simpa using hn);change Calls Tryz.prog 164 _ _ _ at hcon;simp only[List.size_toArray] at hcon;refine hcon.mono ?_;rintro e w' ⟨rfl,d',m,os,⟨hsz,-,hperm⟩,hso,rfl⟩
 have hsz':d'.size=D.length:=by simpa using hsz
 have hp:d'.toList.Perm D:=by
  have e1:d'.extract 0 D.length=d':=by rw[←hsz'];exact Array.extract_size
  have e2:D.toArray.extract 0 D.length=D.toArray:=by
   have:D.length=D.toArray.size:=by simp
   rw[this];exact Array.extract_size
  rw[e1,e2] at hperm;simpa using hperm
 have hF:=flat2 d'.toList;rw[Array.toArray_toList] at hF;have hl:d'.toList.length=D.length:=by simpa using hsz'
 have hr:=own_row w base _ 2 D.length cap g m _ (flatK spv 2 d') os h (by rw[hF];simp[spvs_length,hl]);refine⟨rfl,⟨d'.toList,hp,fun i j hij hj=>?_,?_⟩,hr.2⟩
 · have hj':j<d'.size:=by simpa using hj
   have:=hso i j (Nat.zero_le _) hij om_;rw[ltOf_cmpA,decide_eq_false_iff_not] at this;have g1:gs d'.toList i=d'[i]! :=by simp[gs,show i<d'.size by omega]
   have g2:gs d'.toList j=d'[j]! :=by simp[gs,hj']
   rw[g1,g2];omega
 · have e:spvs d'.toList=(flatK spv 2 d').toList:=by rw[hF]
   rw[e];exact hr.1
theorem sorted_any(Bs b off cap:Nat)(D:List Sp)(w:World)(h0:0<D.length)(hlen:D.length≤100000)(hBs:Bs<w.heap.size)(hc:w.cell? ⟨Bs,0,none⟩=some (.slice (some ⟨b,off,none⟩) D.length cap))(hb:b<w.heap.size)
 (hI: ∀j,j<D.length→w.cell? ⟨b,off+j*2,none⟩=some (vi vk (gs D j).1)∧w.cell? ⟨b,off+j*2+1,none⟩=some (vi vk (gs D j).2)):
 Calls Tryz.prog 113 #[.func (.func 165) #[] #[.pointer (some ⟨Bs,0,none⟩)],.func (.func 115) #[] #[]] w fun e w'=> ∃(v:Value) (D':List Sp),e=.returned v∧D'.Perm D∧(∀i j,i<j→j<D'.length→(gs D' i).1≤(gs D' j).1)∧w'.ownsRow w.heap.size 31 2 v D.length (spvs D')∧Below w.heap.size w w':=by
 have hseq:=values_stops Fence.wide 4 trivial rfl om_ Bs w.heap.size b off cap D om_ w hBs (Nat.le_refl _) hc hb hI;have KC:=hid (callsIn_wide.1 (collect_in Fence.wide 6 trivial trivial rfl om_ _ _ trivial (enters_of func165 (by kernel_rfl) rfl) D w.heap.size w w hseq (Below.refl _ _) (Nat.le_refl _) hlen));have KS:=hid (fun v W h=>sortArc_any w.heap.size v D W h om_ h0);obtain⟨N,hN⟩: ∃N,N=D.length:=⟨_,rfl⟩;have HN:=hid hN;rw[←hN];rw[←hN] at KC KS;clear hseq hI hc hlen h0 hN;go_enter func113,ntmps113;go_wp2_with fail;(with_reducible refine KC.out.mono ?_)
 rintro e w1 ⟨v,rfl,hrow,hb1⟩
 obtain⟨A1,c1,rfl,-,-,-⟩:=own_form hrow;have HROW:=hid hrow;have HB1:=hid hb1;clear hrow hb1;go_wp2_with fail;(with_reducible refine(KS.out _ _ HROW.out).mono ?_)
 rintro e w2 ⟨rfl,⟨D',hp,hs,hrow2⟩,hg⟩
 go_wp2;go_ret;exact⟨_,D',rfl,hp,hs,hrow2,HB1.out.grown hg HB1.out.size (own_base HROW.out)⟩
end
end Go.Proofs.YtdeiofgddhbdaaaGreat
