/- The walks of made, Union, Meet, Minus, Inside. -/
import Derived.Test.YtdeiofgddhbdaaaGreatHNf
set_option linter.unusedSimpArgs false
set_option linter.unusedVariables false
set_option maxHeartbeats 4000000
set_option maxRecDepth 100000
open Go.RowKit
open Go.Lib (hid)
open Go.Proofs.Tryz
open Go.Value renaming int→vi
open Go.IntKind renaming i64→vk
namespace Go.Proofs.YtdeiofgddhbdaaaGreat
theorem rule_in(x y:Bool)(w:World):Calls Tryz.prog 38 #[.bool x,.bool y] w fun e w'=>e=.returned (.bool (x&& !y))∧w'=w:=by
 cases x with
 |true=>
  go_enter func38,ntmps38;go_wp2;go_ret;exact⟨rfl,rfl⟩
 |false=>
  go_enter func38,ntmps38;go_wp2;go_ret;exact⟨rfl,rfl⟩
theorem sreads_tail{w:World}{B b off m:Nat}{s:Sp}{r:List Sp}(h:Reads w B 2 (some ⟨b,off,none⟩) (m+1) (spvs (s::r))):Reads w B 2 (some ⟨b,off+2,none⟩) m (spvs r):=by
 have e:spvs (s::r)=vi vk s.1::vi vk s.2::spvs r:=rfl;obtain⟨h1,h2⟩:=h;rw[e] at h1 h2;refine⟨by simp only[List.length_cons] at h1;omega,fun _=>?_⟩;obtain⟨ad,ea,hb,hc⟩:=h2 om_;cases ea
 refine⟨_,rfl,hb,fun j u hu=>?_⟩;have:=hc (j+2) u (by simpa using hu);rw[Go.WideShapes.add_plain] at this⊢;rw[show off+2+j=off+(j+2) by omega];exact this
theorem grown_set{w w':World}{g:Nat}(h:w.grownBy w' (some g))(u:Value):w.grownBy (w'.setCell ⟨g,0,none⟩ u) (some g):=
 ⟨h.os,h.tape,h.output,Nat.le_trans h.size (by simp[World.setCell]),fun i hi hne=>(Below.heap_setCell w' ⟨g,0,none⟩ u i (fun e=>hne (by rw[e]))).trans (h.block i hi hne)⟩
theorem dropS_yes{e:Int}{s:Sp}{r:List Sp}(h:s.2≤e):dropS e (s::r)=dropS e r:=by simp[dropS,h]
theorem dropS_no{e:Int}{s:Sp}{r:List Sp}(h: ¬s.2≤e):dropS e (s::r)=s::r:=by simp[dropS,h]
theorem hasS_any(g B:Nat)(A:Option Addr)(n ca:Nat)(D:List Sp)(e:Int)(w:World)(hB:Blk w g 84 #[.slice A n ca])(hr:Reads w B 2 A n (spvs D))(hBg:B≤g)(hn:n≤ca)(hca:ca≤maxLen):
 Calls Tryz.prog 69 #[.pointer (some ⟨g,0,none⟩),vi vk e] w fun e' w'=>e'=.returned (.bool (hdS e (dropS e D)))∧w.grownBy w' (some g)∧
  ∃A' n' ca',Blk w' g 84 #[.slice A' n' ca']∧Reads w' B 2 A' n' (spvs (dropS e D))∧n'≤ca'∧ca'≤ca:=by
 have HB:=hid hB;have HR:=hid hr;unfold maxLen at hca;clear hB hr;go_enter func69,ntmps69;go_wp2;go_loopg [] n (fun gg wr=> ∃(A':Option Addr) (n' ca':Nat) (F:List Sp),n'≤gg∧Blk wr g 84 #[.slice A' n' ca']∧Reads wr B 2 A' n' (spvs F)∧n'≤ca'∧ca'≤ca∧dropS e F=dropS e D∧w.grownBy wr (some g))
 case atStart=>exact⟨A,n,ca,D,Nat.le_refl _,HB.out,HR.out,hn,Nat.le_refl _,rfl,World.grownBy.refl _ _⟩
 case round=>
  obtain⟨A',n',ca',F,hgg,hB',hr',hn',hca',hF,hgw⟩:=hrel;have x0:wr.cell? ⟨g,0,none⟩=some (.slice A' n' ca'):=hB'.cell 0;have x1:=hB'.frozen 0;have HF:=hid hF;have HB':=hid hB';have HR':=hid hr';have HGW:=hid hgw;have hlF:F.length=n':=by have:=hr'.1;rw[spvs_length] at this;omega
  clear hF hB' hgw;cases F with
  |nil=>
   have h0:n'=0:=by simpa using hlF.symm
   subst h0;clear hr' hlF;have e1:Hid (dropS e D=[]):=hid (by rw[←HF.out];rfl);go_wp2;go_ret;exact⟨ret_bool (by rw[e1.out];rfl),HGW.out,A',0,ca',HB'.out,by rw[e1.out];exact HR'.out,hn',hca'⟩
  |cons s r=>
   obtain⟨m,rfl,hrm⟩: ∃m,n'=m+1∧r.length=m:=⟨r.length,by simpa using hlF.symm,rfl⟩;have HRM:=hid hrm;clear hrm;obtain⟨b,off,rfl,hb,y1,y2⟩:=SReads.elem hr' (k:=0) om_;have e0:gs (s::r) 0=s:=rfl;rw[e0] at y1 y2;simp only[Nat.zero_mul,Nat.add_zero] at y1 y2;obtain⟨sf,st⟩:=s;simp only[] at y1 y2;clear e0 hr' hlF;by_cases hst:st≤e
   · have hd:=hid (dropS_yes (e:=e) (s:=(sf,st)) (r:=r) hst)
     by_cases hc1:ca'=1
     · have hm0:m=0:=by omega
       have hr0:r=[]:=List.eq_nil_of_length_eq_zero (by rw[HRM.out];exact hm0);subst hc1 hm0 hr0;go_wp2;go_roundg 0
       case measure=>omega
       case rel=>exact⟨_,0,0,[],Nat.le_refl _,HB'.out.set_ 0 _,Reads.none_,Nat.le_refl _,om_,by rw[←hd.out];exact HF.out,grown_set HGW.out _⟩
     · have hc2:1<ca':=by omega
       have hc3: ¬ca'-1=0:=by omega
       clear hc1;go_wp2;go_roundg m
       case measure=>omega
       case rel=>exact⟨_,m,ca'-1,r,Nat.le_refl _,HB'.out.set_ 0 _,(sreads_tail HR'.out).setCell hBg _,om_,om_,by rw[←hd.out];exact HF.out,grown_set HGW.out _⟩
   · have hd:Hid (dropS e D=(sf,st)::r):=hid (by rw[←HF.out];exact dropS_no hst)
     go_wp2;go_ret;exact⟨ret_bool (by rw[hd.out];rfl),HGW.out,_,_,_,HB'.out,by rw[hd.out];exact HR'.out,hn',hca'⟩
section
structure Kept(g1 g2:Nat)(a w:World):Prop where
 os:w.os=a.os
 tape:w.tape=a.tape
 output:w.output=a.output
 size:a.heap.size≤w.heap.size
 block: ∀i,i<a.heap.size→i≠g1→i≠g2→w.heap[i]? =a.heap[i]?
section
variable {g1 g2:Nat} {a w w':World}
theorem Kept.refl(g1 g2:Nat)(w:World):Kept g1 g2 w w:=⟨rfl,rfl,rfl,Nat.le_refl _,fun _ _ _ _=>rfl⟩
theorem Kept.drew(h:Kept g1 g2 a w):Kept g1 g2 a w.drew:=⟨h.os,h.tape,h.output,h.size,h.block⟩
theorem Kept.drewN(h:Kept g1 g2 a w)(n:Nat):Kept g1 g2 a (w.drewN n):=⟨h.os,h.tape,h.output,h.size,h.block⟩
theorem Kept.grown(h:Kept g1 g2 a w){row:Option Nat}(hg:w.grownBy w' row)(hr: ∀g,row=some g→g=g1∨g=g2∨a.heap.size≤g):Kept g1 g2 a w':=
 ⟨hg.os.trans h.os,hg.tape.trans h.tape,hg.output.trans h.output,Nat.le_trans h.size hg.size,fun i hi h1 h2=>(hg.block i (Nat.lt_of_lt_of_le hi h.size) (fun e=>by rcases hr i e.symm with h3|h3|h3<;>first|exact h1 h3|exact h2 h3|omega)).trans (h.block i hi h1 h2)⟩
theorem Kept.setCell(h:Kept g1 g2 a w){p:Addr}(hp:a.heap.size≤p.block)(u:Value):Kept g1 g2 a (w.setCell p u):=
 ⟨h.os,h.tape,h.output,by have:=h.size;simpa [World.setCell] using this,fun i hi h1 h2=>(Below.heap_setCell w p u i om_).trans (h.block i hi h1 h2)⟩
theorem Kept.trans{b:World}(h:Kept g1 g2 a b)(h2:Kept g1 g2 b w):Kept g1 g2 a w:=
 ⟨h2.os.trans h.os,h2.tape.trans h.tape,h2.output.trans h.output,Nat.le_trans h.size h2.size,fun i hi h3 h4=>(h2.block i (Nat.lt_of_lt_of_le hi h.size) h3 h4).trans (h.block i hi h3 h4)⟩
theorem Kept.below(h:Kept g1 g2 a w){B:Nat}(hB:B≤a.heap.size)(h1:B≤g1)(h2:B≤g2):Below B a w:=
 ⟨h.os,h.tape,h.output,h.size,fun i hi=>h.block i om_ om_ om_⟩
theorem Kept.own(h:Kept g1 g2 a w){base:Nat}{e:TypeId}{size n:Nat}{v:Value}{xs:List Value}(ho:a.ownsRow base e size v n xs)(h1:g1<base)(h2:g2<base):w.ownsRow base e size v n xs:=by
 refine⟨ho.1,?_⟩;rcases ho.2 with h3|⟨g,cap,cur,hv,hg,hh,hr⟩
 · exact .inl h3
 · have hlt:g<a.heap.size:=by
    rcases Nat.lt_or_ge g a.heap.size with hlt|hge
    · exact hlt
    · rw[Array.getElem?_eq_none hge] at hh;cases hh
   exact .inr ⟨g,cap,cur,hv,hg,(h.block g hlt om_ om_).trans hh,hr⟩
end
def Holds2(w:World)(g B:Nat)(e:Int)(D:List Sp):Prop:=
 ∃(A:Option Addr) (n ca:Nat) (F:List Sp),Blk w g 84 #[.slice A n ca]∧Reads w B 2 A n (spvs F)∧n≤ca∧ca≤maxLen∧ ∀e',e≤e'→dropS e' F=dropS e' D
theorem Holds2.more{w:World}{g B:Nat}{e e2:Int}{D:List Sp}(h:Holds2 w g B e D)(he:e≤e2):Holds2 w g B e2 D:=by
 obtain⟨A,n,ca,F,h1,h2,h3,h4,h5⟩:=h;exact⟨A,n,ca,F,h1,h2,h3,h4,fun e' h=>h5 e' om_⟩
theorem Holds2.keep{w w':World}{g B:Nat}{e:Int}{D:List Sp}(h:Holds2 w g B e D)(hg:w'.heap[g]? =w.heap[g]?)(hb: ∀i,i<B→w'.heap[i]? =w.heap[i]?):Holds2 w' g B e D:=by
 obtain⟨A,n,ca,F,h1,h2,h3,h4,h5⟩:=h;exact⟨A,n,ca,F,hg.trans h1,h2.keep (fun p hp=>World.cell?_of_block (hb p.block hp)),h3,h4,h5⟩
theorem Holds2.lt{w:World}{g B:Nat}{e:Int}{D:List Sp}(h:Holds2 w g B e D):g<w.heap.size:=by
 obtain⟨A,n,ca,F,h1,_⟩:=h;exact h1.lt
theorem alloc_grown{w w':World}{o:Obj}{row:Option Nat}(h:(w.alloc o).grownBy w' row):w.grownBy w' row:=
 ⟨h.os,h.tape,h.output,Nat.le_trans (by simp) h.size,fun i hi hne=>(h.block i (by simp;omega) hne).trans (Below.heap_alloc w o i hi)⟩
theorem alloc_grown_drew{w w':World}{o:Obj}{row:Option Nat}(h:(w.alloc o).drew.grownBy w' row):w.grownBy w' row:=
 alloc_grown (o:=o) ⟨h.os,h.tape,h.output,h.size,h.block⟩
theorem Holds2.grown{w w':World}{g B b:Nat}{e:Int}{D:List Sp}{row:Option Nat}(h:Holds2 w g B e D)(hg:w.grownBy w' row)(hr: ∀k,row=some k→b≤k)(h1:g<b)(h2:B≤b)(h3:b≤w.heap.size):Holds2 w' g B e D:=
 h.keep (hg.block g h.lt (fun e=>by have:=hr g e.symm;omega)) (fun i hi=>hg.block i om_ (fun e=>by have:=hr i e.symm;omega))
structure CW(a:World)(g1 g2 B:Nat)(e:Int)(D F:List Sp) where
 w:World
 k:Kept g1 g2 a w
 h1:Holds2 w g1 B e D
 h2:Holds2 w g2 B e F
theorem has_cw1{a:World}{g1 g2 B:Nat}{e:Int}{D F:List Sp}(s:CW a g1 g2 B e D F)(hB1:B≤g1)(hB2:B≤g2)(hne:g1≠g2):
 Calls Tryz.prog 69 #[.pointer (some ⟨g1,0,none⟩),vi vk e] s.w fun e' w'=>e'=.returned (.bool (hdS e (dropS e D)))∧ ∃s':CW a g1 g2 B e D F,w'=s'.w:=by
 obtain⟨A,n,ca,G,b1,b2,b3,b4,b5⟩:=s.h1;refine(hasS_any g1 B A n ca G e s.w b1 b2 hB1 b3 b4).mono ?_;rintro e' w' ⟨rfl,hg,A',n',ca',c1,c2,c3,c4⟩
 rw[b5 e (Int.le_refl _)] at c2⊢;refine⟨rfl,⟨w',s.k.grown hg (fun g h=>.inl (by injection h with h;exact h.symm)),⟨A',n',ca',dropS e D,c1,c2,c3,om_,fun e' h=>dropS_dropS h D⟩,s.h2.keep (hg.block g2 s.h2.lt (by intro h;injection h with h;exact hne h.symm)) (fun i hi=>hg.block i (by have:=s.h1.lt;omega) (by intro h;injection h with h;omega))⟩,rfl⟩
theorem has_cw2{a:World}{g1 g2 B:Nat}{e:Int}{D F:List Sp}(s:CW a g1 g2 B e D F)(hB1:B≤g1)(hB2:B≤g2)(hne:g1≠g2):
 Calls Tryz.prog 69 #[.pointer (some ⟨g2,0,none⟩),vi vk e] s.w fun e' w'=>e'=.returned (.bool (hdS e (dropS e F)))∧ ∃s':CW a g1 g2 B e D F,w'=s'.w:=by
 obtain⟨A,n,ca,G,b1,b2,b3,b4,b5⟩:=s.h2;refine(hasS_any g2 B A n ca G e s.w b1 b2 hB2 b3 b4).mono ?_;rintro e' w' ⟨rfl,hg,A',n',ca',c1,c2,c3,c4⟩
 rw[b5 e (Int.le_refl _)] at c2⊢;refine⟨rfl,⟨w',s.k.grown hg (fun g h=>.inr (.inl (by injection h with h;exact h.symm))),s.h1.keep (hg.block g1 s.h1.lt (by intro h;injection h with h;exact hne h)) (fun i hi=>hg.block i (by have:=s.h2.lt;omega) (by intro h;injection h with h;omega)),⟨A',n',ca',dropS e F,c1,c2,c3,om_,fun e' h=>dropS_dropS h F⟩⟩,rfl⟩
theorem wp_region_cw{P:Program}{id:Nat}{Q:Exit→Act→World→Prop}{ac:Act}{w:World}{l:List Oper}{a:World}{g1 g2 B:Nat}{e:Int}{D F:List Sp}(hm:P.follows .mixedOrders=true)(hB:Region.lexB .any l.toArray=true)(h0:Kept g1 g2 a w)(h1:Holds2 w g1 B e D)(h2:Holds2 w g2 B e F)
 (h:wpQuiet P l.toArray (fun w'=> ∃s:CW a g1 g2 B e D F,w'=s.w) (fun a'=> ∀w9,Kept g1 g2 a w9→Holds2 w9 g1 B e D→Holds2 w9 g2 B e F→Q .normal a' w9) l ac):(Code.region id l.toArray true).wp P Q ac w:=by
 have e0:(fun a'=> ∀w9,Kept g1 g2 a w9→Holds2 w9 g1 B e D→Holds2 w9 g2 B e F→Q .normal a' w9)=(fun a':Act=> ∀w',(∃s:CW a g1 g2 B e D F,w'=s.w)→Q .normal a' w'):=
  funext fun a'=>propext ⟨fun h w' ⟨s,hs⟩=>hs▸h s.w s.k s.h1 s.h2,fun h w9 k1 k2 k3=>h w9 ⟨⟨w9,k1,k2,k3⟩,rfl⟩⟩
 rw[e0] at h;exact wp_region_quiet (C:=fun w'=> ∃s:CW a g1 g2 B e D F,w'=s.w) hm hB ⟨⟨w.drew,h0.drew,h1.keep rfl (fun _ _=>rfl),h2.keep rfl (fun _ _=>rfl)⟩,rfl⟩ (by simpa using h)
theorem step_append_any{P:Program}(w:World){ops:Array Oper}{o:Oper}{a:Act}{K:Act→World→Prop}{Q:Exit→Act→World→Prop}{E:Prop}(hgd:o.guard=none)(s x:Operand)(t:TypeId)
 (ho:o.op=.call {callee:=.builtin .append,args:=#[s,x],argTypes:=#[t,t]})
 (base:Nat) (e:TypeId) (i:TypeInfo) (z:Value) (size bytes:Nat) (ht:P.underlying t=some (.slice e)) (hi:P.info? e=some i) (hz:i.zero=some z)
 (hsize:i.size=size) (hby:i.bytes=bytes) (hzs:z.cells.size=size) (hsz:0<size)
 (v:Value) (n:Nat) (xs:List Value) (hs:a.eval s=v) (hown:w.ownsRow base e size v n xs)
 (B:Nat) (A:Option Addr) (m c:Nat) (news:List Value) (hx:a.eval x=.slice A m c) (hr:Reads w B size A m news) (h1: ∀u∈news,u.oneCell'=true)
 (h63:n+m≤maxLen) (hbytes:(n+m)*bytes≤140737488355328) (hbase:base≤w.heap.size)
 (h: ∀v' w',w'.ownsRow base e size v' (n+m) (xs++news)→w.grownBy w' v.ownBlock→(v'.ownBlock=v.ownBlock∨v'.ownBlock=some w.heap.size)→K (a.put o.dst v') w'):
 if Region.wanted o (yielded ops a.tmps)=true then Oper.wp P o a w K Q else E:=by
 have hw:Region.wanted o (yielded ops a.tmps)=true:=by simp[Region.wanted,hgd]
 rw[if_pos hw];exact wp_append_any w s x t ho base e i z size bytes ht hi hz hsize hby hzs hsz v n xs hs hown B A m c news hx hr h1 h63 hbytes hbase h
theorem Tryz.infoInt:(Tryz.prog.info? 3).map (fun i=>(i.zero,i.size,i.bytes))=some (some (vi vk 0),1,8):=by kernel_rfl
theorem ireads_new(w:World)(a b:Int)(t:TypeId):Reads (w.alloc (.cells #[vi vk a,vi vk b] t)) (w.heap.size+1) 1 (some ⟨w.heap.size,0,none⟩) 2 (ivs [a,b]):=by
 refine⟨rfl,fun _=>⟨_,rfl,by simp,fun j u hu=>?_⟩⟩;match j,hu with
 |0,hu=>simp[ivs] at hu;subst hu;simp[Addr.add]
 |1,hu=>simp[ivs] at hu;subst hu;simp[Addr.add]
 |j+2,hu=>simp[ivs] at hu
theorem endsS_take(D:List Sp)(k:Nat)(hk:k<D.length):ivs (endsS (D.take (k+1)))=ivs (endsS (D.take k))++ivs [(gs D k).1,(gs D k).2]:=by
 have e: ∀X Y:List Sp,endsS (X++Y)=endsS X++endsS Y:=fun X Y=>by simp[endsS]
 rw[List.take_succ_eq_append_getElem hk,e,ivs_append];congr 1
 simp[endsS,gs,hk]
theorem endsS_len(D:List Sp):(endsS D).length=D.length*2:=by
 induction D with
 |nil=>rfl
 |cons x r ih=>simp[endsS] at ih⊢;omega
theorem endsS_mem(D F:List Sp)(x:Int):x∈endsS (D++F)↔(x∈endsS D∨x∈endsS F):=by simp[endsS]
end
def edgesOf(D F:List Sp):List Int:=cpt (sortI (endsS (D++F)))
theorem edgesOf_sorted(D F:List Sp):(edgesOf D F).Pairwise (· < ·):=(cpt_sorted _).1
theorem edgesOf_mem(D F:List Sp)(x:Int):x∈edgesOf D F↔(x∈endsS D∨x∈endsS F):=((cpt_sorted _).2 x).trans (endsS_mem D F x)
theorem edgesOf_len(D F:List Sp):(edgesOf D F).length≤(D.length+F.length)*2:=by
 have h1:=cpt_len (sortI (endsS (D++F)));rw[sortI_length,endsS_len,List.length_append] at h1;exact h1
def eP(E:List Int):Nat→Int
 |0=>ge E 0
 |k+1=>ge E k
theorem combTo_len(r:Bool→Bool→Bool)(E:List Int)(D F:List Sp)(k:Nat):(combTo r E D F k).length≤k:=by
 unfold combTo;refine Nat.le_trans (mergeS_length _) (Nat.le_trans (List.length_filter_le _ _) ?_);simp[prsTo]
theorem eP_le{E:List Int}(hE:E.Pairwise (· < ·)){k:Nat}(hk:k<E.length):eP E k≤ge E k:=by
 cases k with
 |zero=>exact Int.le_refl _
 |succ k=>exact Int.le_of_lt (ge_lt hE (Nat.lt_succ_self k) hk)
theorem combine_any(A A2:Option Addr)(n m ca cb:Nat)(D F:List Sp)(f:FuncId)(r:Bool→Bool→Bool)(eg: ∀args w,(callFunc f args).run Tryz.prog w=.ok (.enter f args) w)(w:World)(hD:Reads w w.heap.size 2 A n (spvs D))(hF:Reads w w.heap.size 2 A2 m (spvs F))(hn:n≤ca)(hm:m≤cb)(hca:ca≤maxLen)(hcb:cb≤maxLen)(hn2:n≤100000)(hm2:m≤100000)
 (hf: ∀x y W,Calls Tryz.prog f #[.bool x,.bool y] W fun e w'=>e=.returned (.bool (r x y))∧w'=W):
 Calls Tryz.prog 36 #[.slice A n ca,.slice A2 m cb,.func (.func f) #[] #[]] w (RetSpans w (combE r (edgesOf D F) D F)):=by
 have hlD:D.length=n:=by have:=hD.1;rw[spvs_length] at this;omega
 have hlF:F.length=m:=by have:=hF.1;rw[spvs_length] at this;omega
 obtain⟨E,hE⟩: ∃E,E=edgesOf D F:=⟨_,rfl⟩;have hEs:E.Pairwise (· < ·):=by rw[hE];exact edgesOf_sorted D F
 have hEl:E.length≤(n+m)*2:=by rw[hE,←hlD,←hlF];exact edgesOf_len D F
 rw[←hE];have HE:=hid hE;have HD:=hid hD;have HF:=hid hF;have HES:=hid hEs;have RF:=hid hf;have HLD:=hid hlD;have HLF:=hid hlF;clear hD hF hE hEs hf hlD hlF;obtain⟨i0,hi0,hz0,hz1,hzb⟩:=info_parts Tryz.infoSpan;obtain⟨j0,hj0,hy0,hy1,hyb⟩:=info_parts Tryz.infoInt;go_enter func36,ntmps36;go_upto_region 2 with fail
 have hb0:Below w.heap.size w ((w.alloc (.cells #[.slice A n ca] 84)).alloc (.cells #[.slice A2 m cb] 84)):=((Below.refl _ _).alloc (Nat.le_refl _) _).alloc (by simp) _;have hB1:Blk ((w.alloc (.cells #[.slice A n ca] 84)).alloc (.cells #[.slice A2 m cb] 84)) w.heap.size 84 #[.slice A n ca]:=(Blk.new w _ _).alloc _;have hB2:Blk ((w.alloc (.cells #[.slice A n ca] 84)).alloc (.cells #[.slice A2 m cb] 84)) (w.heap.size+1) 84 #[.slice A2 m cb]:=by
  have:=Blk.new (w.alloc (.cells #[.slice A n ca] 84)) 84 #[.slice A2 m cb];simpa using this
 have hz:((w.alloc (.cells #[.slice A n ca] 84)).alloc (.cells #[.slice A2 m cb] 84)).heap.size=w.heap.size+2:=by simp
 generalize (w.alloc (.cells #[.slice A n ca] 84)).alloc (.cells #[.slice A2 m cb] 84)=w0 at hb0 hB1 hB2 hz⊢;go_cut [19,20,21] (fun s19 s20 s21 wx=>s20=vi vk ((n:Int)+(m:Int))∧s21=vi vk 0∧wx.ownsRow (w.heap.size+2) 115 2 s19 (n+m) (spvs (D++F))∧Below (w.heap.size+2) w0 wx)
 case first=>
  have x1:w0.cell? ⟨w.heap.size,0,none⟩=some (.slice A n ca):=hB1.cell 0;have x2:w0.cell? ⟨w.heap.size+1,0,none⟩=some (.slice A2 m cb):=hB2.cell 0;have KC:Hid (∀W,Below w.heap.size w W→Calls Tryz.prog 66 #[.slice A n ca] W (RetSpans W D)):=hid (fun W hW=>Clone_any A n ca D W ((HD.out.below hW).more hW.size) om_);have hlD:=HLD.out;have hzd:w0.drew.heap.size=w.heap.size+2:=hz;go_region_law (first|(refine step_append_any _ rfl (.tmp 17) (.tmp 18) _ rfl (w.heap.size+2) 115 i0 _ 2 16 underlying84 hi0 hz0 hz1 hzb rfl dc_ v1 n (spvs D) (by simp[Act.eval,Act.put]) hown2 w1.heap.size A2 m cb (spvs F) (by simp[Act.eval,Act.put]) hF2 (spvs_one _) (by simp only[maxLen];omega) om_ om_ ?_;intro v3 w3 hown3 hg3 hat3;obtain⟨A3,c3,hv3,-,-⟩:=own_form hown3;subst hv3)|(go_simp;go_at_call 66;(with_reducible refine(KC.out _ (bl_drew hb0)).mono ?_);rintro e w1 ⟨v1,rfl,hown1,hb1⟩;rw[hzd] at hb1 hown1;rw[hlD] at hown1;have hz9:w.heap.size+2≤w1.heap.size:=(by have:=hb1.size;omega);have y2:w1.cell? ⟨w.heap.size+1,0,none⟩=some (.slice A2 m cb):=(hb1.cell (p:=⟨w.heap.size+1,0,none⟩) (by simp)).trans x2;have hown2:=hown1;have hF2:=(HF.out.below ((bl_drew hb0).trans (hb1.mono om_))).more (show w.heap.size≤w1.heap.size by have:=hb1.size;omega)))
  all_goals
   go_wp2_with fail;go_meet
   refine⟨by go_num,rfl,?_,?_⟩
   · rw[spvs_append];exact hown3
   · exact((bl_drew (Below.refl _ _)).trans hb1).grown hg3 hz9 (own_base hown2)
 case rest=>
 obtain⟨rfl,rfl,hown,hbx⟩:=hcut;obtain⟨G,hG⟩: ∃G,G=D++F:=⟨_,rfl⟩;rw[←hG] at hown;have hGl:Hid (G.length=n+m):=hid (by rw[hG,List.length_append,HLD.out,HLF.out]);have HGE:Hid (E=cpt (sortI (endsS G))):=hid (by rw[HE.out,hG];rfl);clear hG;obtain⟨A3,c3,hv3,hr3,-⟩:=own_form hown;subst hv3;have HR3:=hid hr3;have zx:=hbx.size;rw[hz] at zx;clear hr3 hown;go_wp2_with fail;go_loopw [7,21] (fun v i wr=> ∃k:Nat,k≤n+m∧i=vi vk k∧wr.ownsRow wc.heap.size 3 1 v (k*2) (ivs (endsS (G.take k)))∧Below wc.heap.size wc wr) (fun _ i _=>n+m-(intOf i).toNat)
 case atStart=>exact⟨0,Nat.zero_le _,rfl,own_nil _ _ _ _,Below.refl _ _⟩
 case round=>
  obtain⟨k,hk,rfl,hown,hbr⟩:=hrel;have hzr:=hbr.size;by_cases hlt:k<n+m
  · obtain⟨b,off,rfl,hb,x1,x2⟩:=SReads.elem HR3.out hlt
    have y1:=(hbr.cell (p:=⟨b,off+k*2,none⟩) hb).trans x1;have y2:=(hbr.cell (p:=⟨b,off+k*2+1,none⟩) hb).trans x2;clear x1 x2;have hms:=hid (endsS_take G k (by rw[hGl.out];exact hlt));generalize gs G k=s at y1 y2 hms;obtain⟨sf,st⟩:=s;simp only[] at y1 y2 hms;go_wp2_with (at_builtin;(refine wpList_append_any _ rfl (.tmp 25) (.tmp 30) _ rfl wc.heap.size 3 j0 _ 1 8 underlying112 hj0 hy0 hy1 hyb rfl dc_ u7 (k*2) (ivs (endsS (G.take k))) rfl ((hown.alloc _).alloc _) ((wr.alloc (.cells #[vi vk sf,vi vk st] 115)).heap.size+1) (some ⟨wr.heap.size+1,0,none⟩) 2 2 (ivs [sf,st]) rfl (by have:=ireads_new (wr.alloc (.cells #[vi vk sf,vi vk st] 115)) sf st 3;simpa using this) (ivs_one _) (by simp only[maxLen];omega) om_ (by simp;omega) ?_);intro v2 w2 hown2 hg2 hat2);go_roundw
    case rel=>exact⟨k+1,om_,by go_num,by rw[hms.out,show(k+1)*2=k*2+2 by omega];exact hown2,((hbr.alloc hzr _).alloc (by simp;omega) _).grown hg2 (by simp;omega) (own_base hown)⟩
    case measure=>simp[intOf];omega
  · have hkn:k=n+m:=by omega
    subst hkn;rw[List.take_of_length_le (by rw[hGl.out];omega)] at hown;have hXl:(endsS G).length=(n+m)*2:=by rw[endsS_len,hGl.out]
    generalize endsS G=X at hown hXl HGE;clear HR3 hGl;rw[←hXl] at hown;have hXb:X.length≤400000:=by omega
    clear hXl;have hS:=hid (sortInt_any wc.heap.size u7 X wr hown om_);have HO:=hid (own_base hown);obtain⟨A4,c4,hu4,-,-⟩:=own_form hown;subst hu4;have HBR:=hid hbr;clear hown hbr hlt;go_wp2_with fail;(with_reducible refine hS.out.mono ?_)
    rintro e w2 ⟨rfl,hown2,hg2⟩
    have hb2:=HBR.out.grown hg2 hzr HO.out;have hC:=hid (Compact_any wc.heap.size (.slice A4 X.length c4) (sortI X) w2 (by rw[sortI_length];exact hown2) (by rw[sortI_length];omega));rw[←HGE.out] at hC;clear hS hown2 hg2 HGE HBR HO;go_wp2_with fail;(with_reducible refine hC.out.mono ?_)
    rintro e w3 ⟨v3,rfl,hown3,hb3⟩
    have hb4:Below (w.heap.size+2) w0 w3:=hbx.trans ((hb2.trans hb3).mono zx);have hz3:w.heap.size+2≤w3.heap.size:=by have:=hb4.size;omega
    have h1:Hid (Holds2 w3 w.heap.size w.heap.size (eP E 0) D):=hid ⟨A,n,ca,D,hB1.below hb4 om_,(HD.out.below hb0).below (hb4.mono om_),hn,hca,fun _ _=>rfl⟩;have h2:Hid (Holds2 w3 (w.heap.size+1) w.heap.size (eP E 0) F):=hid ⟨A2,m,cb,F,hB2.below hb4 om_,(HF.out.below hb0).below (hb4.mono om_),hm,hcb,fun _ _=>rfl⟩;have hbw:Hid (Below w.heap.size w w3):=hid (hb0.trans (hb4.mono om_));have HO3:=hid (own_mono hown3 (show w.heap.size+2≤wc.heap.size by omega));obtain⟨A5,c5,hv5,-,-⟩:=own_form hown3;subst hv5;clear hC hown3 hb3 hb4 hb2 hB1 hB2 HD HF hbx hb0 zx hzr hXb HE HLD HLF;go_wp2_with fail;go_loopw [10,12] (fun v i wq=> ∃k:Nat,k≤E.length-1∧i=vi vk ((k:Int)+1)∧Kept w.heap.size (w.heap.size+1) w3 wq∧Holds2 wq w.heap.size w.heap.size (eP E k) D∧Holds2 wq (w.heap.size+1) w.heap.size (eP E k) F∧wq.ownsRow w3.heap.size 115 2 v (combTo r E D F k).length (spvs (combTo r E D F k))) (fun _ i _=>E.length+1-(intOf i).toNat)
    case atStart=>exact⟨0,Nat.zero_le _,rfl,Kept.refl _ _ _,h1.out,h2.out,own_nil _ _ _ _⟩
    case round=>
     clear h1 h2;obtain⟨k,hk,rfl,hkp,hh1,hh2,hown⟩:=hrel;have zk:=hkp.size;by_cases hlt:k+1<E.length
     · obtain⟨g,cap,hv5,hg,hgl⟩:=HO3.out.form om_
       cases hv5
       have hek:=eP_le HES.out (show k<E.length by omega);have hd1:=hid (hh1.more hek);have hd2:=hid (hh2.more hek);have cE:Hid (∀W,Kept w.heap.size (w.heap.size+1) w3 W→W.cell? ⟨g,k,none⟩=some (vi vk (ge E k))∧W.cell? ⟨g,k+1,none⟩=some (vi vk (ge E (k+1)))):=hid (fun W hW=>⟨(own_cell (hW.own HO3.out om_ om_) k _ (ivs_at E k om_)).1,(own_cell (hW.own HO3.out om_ om_) (k+1) _ (ivs_at E (k+1) om_)).1⟩);have hcl:=hid (combTo_last (r:=r) HES.out (D:=D) (F:=F) k om_);have hlt2:=ge_lt HES.out (Nat.lt_succ_self k) hlt;have hy:=hid (combTo_yes (r:=r) (E:=E) (D:=D) (F:=F) (k:=k));have hno:=hid (combTo_no (r:=r) (E:=E) (D:=D) (F:=F) (k:=k));have ce1: ∀s:CW wr w.heap.size (w.heap.size+1) w.heap.size (ge E k) D F,s.w.cell? ⟨g,k,none⟩=some (vi vk (ge E k)):=fun s=>(cE.out s.w (hkp.trans s.k)).1;have K1:=hid (fun s:CW wr w.heap.size (w.heap.size+1) w.heap.size (ge E k) D F=>has_cw1 s (Nat.le_refl _) (Nat.le_succ _) om_);have K2:=hid (fun s:CW wr w.heap.size (w.heap.size+1) w.heap.size (ge E k) D F=>has_cw2 s (Nat.le_refl _) (Nat.le_succ _) om_);have hMl:Hid ((combTo r E D F k).length≤k):=hid (combTo_len r E D F k);have hNe:Nonempty (CW wr w.heap.size (w.heap.size+1) w.heap.size (ge E k) D F):=⟨⟨wr,Kept.refl _ _ _,hd1.out,hd2.out⟩⟩;have eP1:Hid (eP E (k+1)=ge E k):=hid rfl;have HEL:Hid (k<E.length-1):=hid om_;have hk4:k<400000:=by omega
       generalize hdS (ge E k) (dropS (ge E k) D)=x at K1 hy hno;generalize hdS (ge E k) (dropS (ge E k) F)=y at K2 hy hno;generalize hNN:combTo r E D F (k+1)=N at hy hno;have HNN:=hid hNN;clear hNN;generalize combTo r E D F k=M at hown hcl hy hno hMl;simp only[Nat.succ_eq_add_one] at hlt2;generalize ge E k=e at*;generalize ge E (k+1)=e2 at*;have SJ:Hid (IntKind.i64.wrap ((k:Int)+1-1)=(k:Int)):=hid ((IntWalk.i64_in _ om_).trans om_);clear hh1 hh2 hek;go_upto_region 14 with (fail)
       have sj:=SJ.out;refine wp_region_cw (a:=wr) (by kernel_rfl) (by kernel_rfl) (Kept.refl _ _ _) hd1.out hd2.out ?_;(repeat (go_big_quiet_step (first|(go_at_call 69;with_reducible exact K1.out _)|(go_at_call 69;with_reducible exact K2.out _)|fail)))
       refine wpQuiet_nil ?_;intro w9 k9 d1 d2;clear ce1 K1 K2 hd1 hd2 sj;have zk9:=k9.size;have hkp9:=hkp.trans k9;obtain⟨q1,q2⟩:=cE.out w9 hkp9;have hown9:=k9.own hown om_ om_;have hrc:=hid (RF.out x y);cases hr:r x y with
       |false=>
        have hN:=hid (hno.out hr);rw[hr] at hrc;clear hy hno hr;go_wp2_with (go_at_fn f;(with_reducible refine(hrc.out _).mono ?_);rintro e' w' ⟨rfl,rfl⟩);go_roundw
        case rel=>exact⟨k+1,by have:=HEL.out;omega,by go_num,hkp9,by rw[eP1.out];exact d1,by rw[eP1.out];exact d2,by rw[HNN.out,hN.out];exact hown9⟩
        case measure=>simp[intOf];omega
       |true=>
        have hN:=hid (hy.out hr);rw[hr] at hrc;clear hy hno hr;rcases snoc_cases M with rfl|⟨M',t,rfl⟩
        · obtain⟨A4,c4,hu4,-,-⟩:=own_form hown9
          subst hu4;simp only[List.length_nil] at hown9 hMl hown⊢;go_wp2_with (go_at_fn f;(with_reducible refine(hrc.out _).mono ?_);rintro e' w' ⟨rfl,rfl⟩);go_quiet (fail);have hown10:(w'.drewN nq).ownsRow w3.heap.size 115 2 (.slice A4 0 c4) 0 (spvs []):=hown9;have q10:(w'.drewN nq).cell? ⟨g,k,none⟩=some (vi vk e):=q1;have q11:(w'.drewN nq).cell? ⟨g,k+1,none⟩=some (vi vk e2):=q2;have k10:Kept w.heap.size (w.heap.size+1) w3 (w'.drewN nq):=hkp9.drewN _;have d10:Holds2 (w'.drewN nq) w.heap.size w.heap.size e D:=d1.keep rfl (fun _ _=>rfl);have d11:Holds2 (w'.drewN nq) (w.heap.size+1) w.heap.size e F:=d2.keep rfl (fun _ _=>rfl);have z10:w3.heap.size≤(w'.drewN nq).heap.size:=k10.size;generalize w'.drewN nq=w10 at hown10 q10 q11 k10 d10 d11 z10⊢;clear q1 q2 hown9 hkp9 d1 d2 k9 hkp hown zk zk9;go_wp2;have sj:=SJ.out;have i1:(k:Int)<(E.length:Int):=by(try clear sj);(try clear sj');omega
          have sj':IntKind.i64.wrap (k:Int)=(k:Int):=IntWalk.i64_in _ (by(try clear sj);(try clear sj');omega);have i2:(k:Int)+1<(E.length:Int):=by(try clear sj);(try clear sj');omega
          have i3:(0:Int)≤(k:Int)+1:=by(try clear sj);(try clear sj');omega
          have i5:((k:Int)+1).toNat=k+1:=by(try clear sj);(try clear sj');omega
          go_region_law (refine step_append_any _ rfl (.tmp 89) (.tmp 100) _ rfl w3.heap.size 115 i0 _ 2 16 underlying84 hi0 hz0 hz1 hzb rfl dc_ (.slice A4 0 c4) 0 (spvs []) (by simp[Act.eval,Act.put]) (hown10.alloc _) (w10.heap.size+1) (some ⟨w10.heap.size,0,none⟩) 1 1 (spv (e,e2)) (by simp[Act.eval,Act.put]) (sreads_new w10 _ _ _) (spv_one _) (by simp only[maxLen];omega) om_ (by simp;omega) ?_;intro v2 w11 hown11 hg11 hat11)
          all_goals
           clear sj sj';have hgr:w10.grownBy w11 (Value.ownBlock (.slice A4 0 c4)):=alloc_grown_drew (o:=.cells #[vi vk e,vi vk e2] 115) hg11;go_wp2;go_roundw
           case rel=>
            exact⟨k+1,by have:=HEL.out;omega,by go_num,k10.grown hgr (fun g h=>.inr (.inr (own_base hown10 g h))),by rw[eP1.out];exact d10.grown hgr (own_base hown10) om_ om_ om_,by rw[eP1.out];exact d11.grown hgr (own_base hown10) om_ om_ om_,by rw[HNN.out,hN.out,mrg_nil];exact hown11⟩
           case measure=>simp[intOf];omega
        · obtain⟨g4,cap4,hu4,hg4,hgl4⟩:=hown9.form (by simp)
          subst hu4;obtain⟨tf,tt⟩:=t;have hle:(M'++[(tf,tt)]).length=M'.length+1:=by simp
          have hM2:M'.length<400000:=by have:=hMl.out;omega
          have htl:tt≤e:=hcl.out (tf,tt) (by simp);rw[hle] at hown9 hown⊢;obtain⟨p1,p2⟩:=spvs_last M' (tf,tt);obtain⟨q3,-⟩:=own_cell hown9 _ _ p2;simp only[] at q3;clear p1 p2;have s1:IntKind.i64.wrap ((M'.length:Int)+1-1)=(M'.length:Int):=by rw[show(M'.length:Int)+1-1=(M'.length:Int) by omega];exact IntWalk.i64_in _ om_
          have s1':IntKind.i64.wrap (M'.length:Int)=(M'.length:Int):=IntWalk.i64_in _ (by clear s1;omega);have s2:(0:Int)<(M'.length:Int)+1:=by clear s1 s1';omega
          have s3:(M'.length:Int)<(M'.length:Int)+1:=by clear s1 s1';omega
          by_cases htt:tt=e
          · have hmi:=hid (mrg_in M' (tf,tt) (e,e2) so_)
            have hmx:max tt e2=e2:=by omega
            have HMX:=hid hmx;have hbe:(tt==e)=true:=by simp[htt]
            clear hmx htt htl;go_wp2_with (go_at_fn f;(with_reducible refine(hrc.out _).mono ?_);rintro e' w' ⟨rfl,rfl⟩);go_quiet (fail);have hown10:(w'.drewN nq).ownsRow w3.heap.size 115 2 (.slice (some ⟨g4,0,none⟩) (M'.length+1) cap4) (M'.length+1) (spvs (M'++[(tf,tt)])):=hown9;have q10:(w'.drewN nq).cell? ⟨g,k,none⟩=some (vi vk e):=q1;have q11:(w'.drewN nq).cell? ⟨g,k+1,none⟩=some (vi vk e2):=q2;have k10:Kept w.heap.size (w.heap.size+1) w3 (w'.drewN nq):=hkp9.drewN _;have d10:Holds2 (w'.drewN nq) w.heap.size w.heap.size e D:=d1.keep rfl (fun _ _=>rfl);have d11:Holds2 (w'.drewN nq) (w.heap.size+1) w.heap.size e F:=d2.keep rfl (fun _ _=>rfl);have z10:w3.heap.size≤(w'.drewN nq).heap.size:=k10.size;generalize w'.drewN nq=w10 at hown10 q10 q11 k10 d10 d11 z10⊢;clear q1 q2 q3 hown9 hkp9 d1 d2 k9 hkp hown zk zk9;obtain⟨p1,p2⟩:=spvs_last M' (tf,tt);obtain⟨r1,r1'⟩:=own_cell hown10 _ _ p2;simp only[] at r1;clear p1 p2;go_wp2;go_roundw
            case rel=>
             have hset:=own_set hown10 (M'.length*2+1) (vi vk e2) om_;rw[spvs_set] at hset;exact⟨k+1,by have:=HEL.out;omega,by go_num,k10.setCell (p:=⟨g4,M'.length*2+1,none⟩) hg4 _,by rw[eP1.out];exact d10.keep (Below.heap_setCell w10 ⟨g4,M'.length*2+1,none⟩ _ _ so_) (fun i hi=>Below.heap_setCell w10 ⟨g4,M'.length*2+1,none⟩ _ _ so_),by rw[eP1.out];exact d11.keep (Below.heap_setCell w10 ⟨g4,M'.length*2+1,none⟩ _ _ so_) (fun i hi=>Below.heap_setCell w10 ⟨g4,M'.length*2+1,none⟩ _ _ so_),by rw[HNN.out,hN.out,hmi.out,HMX.out,List.length_append];exact hset⟩
            case measure=>simp[intOf];omega
          · have hmo:=hid (mrg_out M' (tf,tt) (e,e2) so_)
            have hbe:(tt==e)=false:=by simp[htt]
            clear htt htl;go_wp2_with (go_at_fn f;(with_reducible refine(hrc.out _).mono ?_);rintro e' w' ⟨rfl,rfl⟩);go_quiet (fail);have hown10:(w'.drewN nq).ownsRow w3.heap.size 115 2 (.slice (some ⟨g4,0,none⟩) (M'.length+1) cap4) (M'.length+1) (spvs (M'++[(tf,tt)])):=hown9;have q10:(w'.drewN nq).cell? ⟨g,k,none⟩=some (vi vk e):=q1;have q11:(w'.drewN nq).cell? ⟨g,k+1,none⟩=some (vi vk e2):=q2;have k10:Kept w.heap.size (w.heap.size+1) w3 (w'.drewN nq):=hkp9.drewN _;have d10:Holds2 (w'.drewN nq) w.heap.size w.heap.size e D:=d1.keep rfl (fun _ _=>rfl);have d11:Holds2 (w'.drewN nq) (w.heap.size+1) w.heap.size e F:=d2.keep rfl (fun _ _=>rfl);have z10:w3.heap.size≤(w'.drewN nq).heap.size:=k10.size;generalize w'.drewN nq=w10 at hown10 q10 q11 k10 d10 d11 z10⊢;clear q1 q2 q3 hown9 hkp9 d1 d2 k9 hkp hown zk zk9;go_wp2;have sj:=SJ.out;have i1:(k:Int)<(E.length:Int):=by(try clear sj);(try clear sj');omega
            have sj':IntKind.i64.wrap (k:Int)=(k:Int):=IntWalk.i64_in _ (by(try clear sj);(try clear sj');omega);have i2:(k:Int)+1<(E.length:Int):=by(try clear sj);(try clear sj');omega
            have i3:(0:Int)≤(k:Int)+1:=by(try clear sj);(try clear sj');omega
            have i5:((k:Int)+1).toNat=k+1:=by(try clear sj);(try clear sj');omega
            go_region_law (refine step_append_any _ rfl (.tmp 89) (.tmp 100) _ rfl w3.heap.size 115 i0 _ 2 16 underlying84 hi0 hz0 hz1 hzb rfl dc_ (.slice (some ⟨g4,0,none⟩) (M'.length+1) cap4) (M'.length+1) (spvs (M'++[(tf,tt)])) (by simp[Act.eval,Act.put]) (hown10.alloc _) (w10.heap.size+1) (some ⟨w10.heap.size,0,none⟩) 1 1 (spv (e,e2)) (by simp[Act.eval,Act.put]) (sreads_new w10 _ _ _) (spv_one _) (by simp only[maxLen];omega) om_ (by simp;omega) ?_;intro v2 w11 hown11 hg11 hat11)
            all_goals
             clear sj sj';have hgr:w10.grownBy w11 (Value.ownBlock (.slice (some ⟨g4,0,none⟩) (M'.length+1) cap4)):=alloc_grown_drew (o:=.cells #[vi vk e,vi vk e2] 115) hg11;go_wp2;go_roundw
             case rel=>
              exact⟨k+1,by have:=HEL.out;omega,by go_num,k10.grown hgr (fun g h=>.inr (.inr (own_base hown10 g h))),by rw[eP1.out];exact d10.grown hgr (own_base hown10) om_ om_ om_,by rw[eP1.out];exact d11.grown hgr (own_base hown10) om_ om_ om_,by rw[HNN.out,hN.out,hmo.out,List.length_append,hle,spvs_append];exact hown11⟩
             case measure=>simp[intOf];omega
     · have hkk:k=E.length-1:=by omega
       have hCE:Hid (combE r E D F=combTo r E D F k):=hid (by rw[hkk];rfl);have HOW:=hid hown;clear hown hkk hh1 hh2;go_wp2;go_ret;exact⟨_,rfl,by rw[hCE.out];exact own_mono HOW.out om_,hbw.out.trans (hkp.below om_ (Nat.le_refl _) (Nat.le_succ _))⟩
section
theorem vr_parts{L:List Cl}(h:vrB L=true):L.length≤4000∧(∀x∈L,vldB x.1 x.2.1 x.2.2=true)∧AllV L:=by
 obtain⟨h1,h2,_⟩:=(vrB_iff L).1 h;exact⟨h1,fun x hx=>(vl_iff x).2 (h2 x hx),h2⟩
theorem vr_yes(A:Option Addr)(n c:Nat)(L:List Cl)(b:Bool)(hb:vrB L=b)(w:World)(hr:Reads w w.heap.size 3 A n (cvs L))(hn:n≤maxLen):
 Calls Tryz.prog 33 #[.slice A n c] w fun e w'=>e=.returned (.bool b)∧Below w.heap.size w w':=by
 rw[←hb];exact ValidRegion_any A n c L w hr hn
theorem opB_three(x y:Bool):opB 3 x y=(x&& !y):=by simp[opB]
section
variable (A B:Option Addr) (n m ca cb:Nat) (L M:List Cl) (w:World) (ha:Reads w w.heap.size 3 A n (cvs L)) (hb:Reads w w.heap.size 3 B m (cvs M)) (hn:n≤maxLen) (hm:m≤maxLen)
include ha hb hn hm
end
theorem comb_ins{a b:List Cl}(ha:vrB a=true)(hb:vrB b=true):insL a b=decide ((combE (opB 3) (edgesOf (coverL a) (coverL b)) (coverL a) (coverL b)).length=0):=by
 obtain⟨a1,a2,a3⟩:=vr_parts ha;obtain⟨b1,b2,b3⟩:=vr_parts hb;unfold insL;rw[decide_eq_decide,List.length_eq_zero_iff];exact(comb_empty _ a b a3 b3 (edgesOf_sorted _ _) (edgesOf_mem _ _)).symm
theorem Inside_any(A B:Option Addr)(n m ca cb:Nat)(L M:List Cl)(w:World)(ha:Reads w w.heap.size 3 A n (cvs L))(hb:Reads w w.heap.size 3 B m (cvs M))(hn:n≤maxLen)(hm:m≤maxLen)(va:vrB L=true)(vb:vrB M=true):
 Calls Tryz.prog 15 #[.slice A n ca,.slice B m cb] w fun e w'=>e=.returned (.tuple #[.bool (insL L M),vi vk 0])∧Below w.heap.size w w':=by
 have ra: ∀W,Below w.heap.size w W→Reads W W.heap.size 3 A n (cvs L):=fun W hW=>(ha.below hW).more hW.size;have rb: ∀W,Below w.heap.size w W→Reads W W.heap.size 3 B m (cvs M):=fun W hW=>(hb.below hW).more hW.size;have hla:=ha.len;have hlb:=hb.len;have K1:=hid (fun W hW=>vr_yes A n ca L true va W (ra W hW) hn);have K2:=hid (fun W hW=>vr_yes B m cb M true vb W (rb W hW) hm);obtain⟨a1,a2,a3⟩:=vr_parts va;obtain⟨b1,b2,b3⟩:=vr_parts vb;have c1:=coverL_length L;have c2:=coverL_length M;have K3:=hid (fun W hW=>cover_any A n ca L W (ra W hW) om_ a2);have K4:=hid (fun W hW=>cover_any B m cb M W (rb W hW) om_ b2);have eg:=enters_of func38 (by kernel_rfl) rfl;rw[comb_ins va vb];clear ra rb ha hb hla hlb va vb a2 a3 b2 b3 hn hm;generalize coverL L=D at*;generalize coverL M=F at*;have HF:Hid (∀x y W,Calls Tryz.prog 38 #[.bool x,.bool y] W fun e w'=>e=.returned (.bool (opB 3 x y))∧w'=W):=hid (fun x y W=>by rw[opB_three];exact rule_in x y W);generalize hX:combE (opB 3) (edgesOf D F) D F=X at*;have HX:=hid hX;clear hX;go_enter func15,ntmps15;go_wp2_with fail;(with_reducible refine(K1.out _ (Below.refl _ _)).mono ?_)
 rintro e w1 ⟨rfl,hb1⟩
 go_wp2_with fail;(with_reducible refine(K2.out _ hb1).mono ?_)
 rintro e w2 ⟨rfl,hb2⟩
 have hb2':=hb1.trans (hb2.mono hb1.size);clear K1 K2 hb2 hb1;go_wp2_with fail;(with_reducible refine(K3.out _ hb2').mono ?_)
 rintro e w3 ⟨v3,rfl,hown3,hb3⟩
 have hb3':=hb2'.trans (hb3.mono hb2'.size);obtain⟨A3,c3,rfl,hr3,hc3,hc3'⟩:=own_form hown3;clear K3 hown3 hb3 hb2';go_wp2_with fail;(with_reducible refine(K4.out _ hb3').mono ?_)
 rintro e w4 ⟨v4,rfl,hown4,hb4⟩
 have hb4':=hb3'.trans (hb4.mono hb3'.size);obtain⟨A4,c4,rfl,hr4,hc4,hc4'⟩:=own_form hown4;have hr3':=(hr3.below hb4).more hb4.size;have KC:=hid (combine_any A3 A4 D.length F.length c3 c4 D F 38 (opB 3) eg w4 hr3' hr4 hc3 hc4 hc3' hc4' om_ om_ HF.out);rw[HX.out] at KC;clear K4 hown4 hb4 hb3' hr3 hr4 hr3' hc3 hc4 hc3' hc4' HX HF eg;go_wp2_with fail;(with_reducible refine KC.out.mono ?_)
 rintro e w5 ⟨v5,rfl,hown5,hb5⟩
 have hb5':=hb4'.trans (hb5.mono hb4'.size);obtain⟨A5,c5,rfl,hr5,-⟩:=own_form hown5;clear KC hown5 hb5 hb4' hr5;go_wp2;go_ret2
 refine⟨?_,hb5'⟩;have:((X.length:Int)==0)=decide (X.length=0):=by rw[Bool.eq_iff_iff,beq_iff_eq,decide_eq_true_eq];omega
 rw[←this];rfl
end
end Go.Proofs.YtdeiofgddhbdaaaGreat
