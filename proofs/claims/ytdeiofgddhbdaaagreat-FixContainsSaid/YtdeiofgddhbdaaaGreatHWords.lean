/- The walk of trig's difference of numbers. -/
import Derived.Deep.RegionHeld3
import Derived.Deep.RegionLaw
import Derived.Deep.DeepCutAuto
import Derived.Deep.CutBlock
import Derived.Test.YtdeiofgddhbdaaaGreatHTi
set_option linter.unusedSimpArgs false
set_option linter.unusedVariables false
set_option maxHeartbeats 4000000
set_option maxRecDepth 100000
open Go.RowKit
open Go.Lib (hid)
open Go.Proofs.Tryz
open Go.Value renaming int→vi
open Go.IntKind renaming i64→vk
open Go.IntKind renaming u64→vu
namespace Go.Proofs.YtdeiofgddhbdaaaGreat
section
theorem block_of_add(a:Addr)(n:Nat):(a.add n).block=a.block:=by unfold Addr.add;split<;>rfl
def Reads(w:World)(B size:Nat)(A:Option Addr)(n:Nat)(xs:List Value):Prop:=
 xs.length=n*size∧(0<n→ ∃ad,A=some ad∧ad.block<B∧ ∀j u,xs[j]? =some u→w.cell? (ad.add j)=some u)
section
variable {w w':World} {B B' size n:Nat} {A:Option Addr} {xs:List Value}
theorem Reads.none_:Reads w B size A 0 []:=⟨by simp,fun h=>absurd h om_⟩
theorem Reads.keep(h:Reads w B size A n xs)(hk: ∀p:Addr,p.block<B→w'.cell? p=w.cell? p):Reads w' B size A n xs:=
 ⟨h.1,fun hn=>by
   obtain⟨ad,e,hb,hc⟩:=h.2 hn;exact⟨ad,e,hb,fun j u hu=>(hk _ (by rw[block_of_add];exact hb)).trans (hc j u hu)⟩⟩
theorem Reads.more(h:Reads w B size A n xs)(hB:B≤B'):Reads w B' size A n xs:=
 ⟨h.1,fun hn=>by
   obtain⟨ad,e,hb,hc⟩:=h.2 hn;exact⟨ad,e,om_,hc⟩⟩
theorem Reads.below(h:Reads w B size A n xs)(hb:Below B w w'):Reads w' B size A n xs:=h.keep fun _ hp=>hb.cell hp
theorem Reads.drew(h:Reads w B size A n xs):Reads w.drew B size A n xs:=h
theorem Reads.alloc(h:Reads w B size A n xs)(hB:B≤w.heap.size)(o:Obj):Reads (w.alloc o) B size A n xs:=h.keep fun p hp=>World.cell?_alloc_lt w o p om_
theorem Reads.setCell(h:Reads w B size A n xs){p:Addr}(hB:B≤p.block)(u:Value):Reads (w.setCell p u) B size A n xs:=
 h.keep fun q hq=>World.cell?_setCell_other w p q u (fun e=>by subst e;omega)
theorem Reads.of_own{base:Nat}{e:TypeId}{c:Nat}(h:w.ownsRow base e size (.slice A n c) n xs):Reads w w.heap.size size A n xs:=by
 refine⟨h.1,fun hn=>?_⟩;obtain⟨g,cap,hv,_,hlt⟩:=h.form hn;have hA:A=some ⟨g,0,none⟩:=by injection hv
 subst hA;exact⟨_,rfl,hlt,h.cells (g:=g) rfl⟩
end
section
variable {P:Program} (w:World)
theorem run_append_of_nil(base:Nat)(t ty e:TypeId)(i:TypeInfo)(size:Nat)(ht:P.underlying t=some (.slice e))(hi:P.info? e=some i)
 (v:Value) (n:Nat) (xs:List Value) (hown:w.ownsRow base e size v n xs) (c:Nat):(Builtin.append_ #[t,t] ty #[v,.slice none 0 c]).run P w=.ok v w:=by
 rcases hown.2 with ⟨rfl,rfl⟩|⟨g,cap,cur,rfl,_,_,hnc,_⟩
 · simp[Builtin.append_,run_underlying ht,sizeOf,typeInfo,hi,Builtin.lenOf,Builtin.firstCells]
 · simp[Builtin.append_,run_underlying ht,sizeOf,typeInfo,hi,Builtin.lenOf,Builtin.firstCells,hnc,storeCells]
theorem run_append_any(base:Nat)(t ty e:TypeId)(i:TypeInfo)(z:Value)(size bytes:Nat)(ht:P.underlying t=some (.slice e))(hi:P.info? e=some i)(hz:i.zero=some z)
 (hsize:i.size=size) (hby:i.bytes=bytes) (hzs:z.cells.size=size) (hsz:0<size)
 (v:Value) (n:Nat) (xs:List Value) (hown:w.ownsRow base e size v n xs)
 (B:Nat) (A:Option Addr) (m c:Nat) (news:List Value) (hr:Reads w B size A m news) (h1: ∀u∈news,u.oneCell'=true)
 (h63:n+m≤maxLen) (hbytes:(n+m)*bytes≤140737488355328) (hbase:base≤w.heap.size):
 ∃v' w',(Builtin.append_ #[t,t] ty #[v,.slice A m c]).run P w=.ok v' w'∧w'.ownsRow base e size v' (n+m) (xs++news)∧w.grownBy w' v.ownBlock∧
  (v'.ownBlock=v.ownBlock∨v'.ownBlock=some w.heap.size):=by
 rcases A with _|ad
 · have hm:m=0:=by
    rcases Nat.eq_zero_or_pos m with h0|h0
    · exact h0
    · obtain⟨ad,h,_⟩:=hr.2 h0
      cases h
   subst hm;have hn:news=[]:=List.eq_nil_of_length_eq_zero (by simpa using hr.1);subst hn;exact⟨v,w,run_append_of_nil w base t ty e i size ht hi v n xs hown c,by simpa using hown,World.grownBy.refl w _,.inl rfl⟩
 · have hcells: ∀j u,news[j]? =some u→w.cell? (ad.add j)=some u:=by
    intro j u hu;rcases Nat.eq_zero_or_pos m with h0|h0
    · subst h0
      have hn:news=[]:=List.eq_nil_of_length_eq_zero (by simpa using hr.1);subst hn;simp at hu
    · obtain⟨ad',h,_,hc⟩:=hr.2 h0
      injection h with h
      subst h;exact hc j u hu
   obtain⟨v',w',hrun,h2,h3,_,h5⟩:=run_append_own_at (P:=P) w base t ty e i z size bytes ht hi hz hsize hby hzs hsz v n xs hown ad m c news hr.1 hcells h1 h63 hbytes hbase;exact⟨v',w',hrun,h2,h3,h5⟩
theorem wp_append_any{o:Oper}{a:Act}{K:Act→World→Prop}{Q:Exit→Act→World→Prop}(s x:Operand)(t:TypeId)
 (ho:o.op=.call {callee:=.builtin .append,args:=#[s,x],argTypes:=#[t,t]})
 (base:Nat) (e:TypeId) (i:TypeInfo) (z:Value) (size bytes:Nat) (ht:P.underlying t=some (.slice e)) (hi:P.info? e=some i) (hz:i.zero=some z)
 (hsize:i.size=size) (hby:i.bytes=bytes) (hzs:z.cells.size=size) (hsz:0<size)
 (v:Value) (n:Nat) (xs:List Value) (hs:a.eval s=v) (hown:w.ownsRow base e size v n xs)
 (B:Nat) (A:Option Addr) (m c:Nat) (news:List Value) (hx:a.eval x=.slice A m c) (hr:Reads w B size A m news) (h1: ∀u∈news,u.oneCell'=true)
 (h63:n+m≤maxLen) (hbytes:(n+m)*bytes≤140737488355328) (hbase:base≤w.heap.size)
 (h: ∀v' w',w'.ownsRow base e size v' (n+m) (xs++news)→w.grownBy w' v.ownBlock→(v'.ownBlock=v.ownBlock∨v'.ownBlock=some w.heap.size)→K (a.put o.dst v') w'):o.wp P a w K Q:=by
 obtain⟨v',w',hrun,h2,h3,h4⟩:=run_append_any (P:=P) w base t o.type e i z size bytes ht hi hz hsize hby hzs hsz v n xs hown B A m c news hr h1 h63 hbytes hbase;unfold Oper.wp execOp;simp only[ho,resolve,invoke,builtin,Sem.run_bind,Sem.run_pure,Result.andThen_ok,List.map_toArray,List.map_cons,List.map_nil,hs,hx,hrun];exact h v' w' h2 h3 h4
theorem wpList_append_any{ops:Array Oper}{rest:List Oper}{o:Oper}{a:Act}{Q:Exit→Act→World→Prop}(hgd:o.guard=none)(s x:Operand)(t:TypeId)
 (ho:o.op=.call {callee:=.builtin .append,args:=#[s,x],argTypes:=#[t,t]})
 (base:Nat) (e:TypeId) (i:TypeInfo) (z:Value) (size bytes:Nat) (ht:P.underlying t=some (.slice e)) (hi:P.info? e=some i) (hz:i.zero=some z)
 (hsize:i.size=size) (hby:i.bytes=bytes) (hzs:z.cells.size=size) (hsz:0<size)
 (v:Value) (n:Nat) (xs:List Value) (hs:a.eval s=v) (hown:w.ownsRow base e size v n xs)
 (B:Nat) (A:Option Addr) (m c:Nat) (news:List Value) (hx:a.eval x=.slice A m c) (hr:Reads w B size A m news) (h1: ∀u∈news,u.oneCell'=true)
 (h63:n+m≤maxLen) (hbytes:(n+m)*bytes≤140737488355328) (hbase:base≤w.heap.size)
 (h: ∀v' w',w'.ownsRow base e size v' (n+m) (xs++news)→w.grownBy w' v.ownBlock→(v'.ownBlock=v.ownBlock∨v'.ownBlock=some w.heap.size)→wpList P ops Q rest (a.put o.dst v') w'):wpList P ops Q (o::rest) a w:=
 wpList_plain hgd fun _ hK=>wp_append_any w s x t ho base e i z size bytes ht hi hz hsize hby hzs hsz v n xs hs hown B A m c news hx hr h1 h63 hbytes hbase fun v' w' h2 h3 h4=>hK _ _ (h v' w' h2 h3 h4)
end
theorem own_base{w:World}{base:Nat}{e:TypeId}{size n:Nat}{v:Value}{xs:List Value}(h:w.ownsRow base e size v n xs)(k:Nat)(hk:v.ownBlock=some k):base≤k:=by
 rcases h.2 with ⟨rfl,_⟩|⟨g,cap,cur,rfl,hg,_⟩
 · simp[Value.ownBlock] at hk
 · simp[Value.ownBlock] at hk;omega
theorem own_mono{w:World}{base base':Nat}{e:TypeId}{size n:Nat}{v:Value}{xs:List Value}(h:w.ownsRow base e size v n xs)(hb:base'≤base):w.ownsRow base' e size v n xs:=by
 refine⟨h.1,?_⟩;rcases h.2 with h|⟨g,cap,cur,hv,hg,hr⟩
 · exact .inl h
 · exact .inr ⟨g,cap,cur,hv,om_,hr⟩
theorem own_nil(w:World)(base:Nat)(e:TypeId)(size:Nat):w.ownsRow base e size (.slice none 0 0) 0 []:=⟨by simp,.inl ⟨rfl,rfl⟩⟩
theorem own_form{w:World}{base:Nat}{e:TypeId}{size n:Nat}{v:Value}{xs:List Value}(h:w.ownsRow base e size v n xs): ∃A c,v=.slice A n c∧Reads w w.heap.size size A n xs∧n≤c∧c≤maxLen:=by
 rcases h.2 with ⟨rfl,rfl⟩|⟨g,cap,cur,rfl,hg,h1,h2,h3,_⟩
 · exact⟨_,_,rfl,Reads.of_own h,om_,by simp[maxLen]⟩
 · exact⟨_,_,rfl,Reads.of_own h,h2,h3⟩
theorem own_new(w:World)(base:Nat)(e:TypeId)(size n g:Nat)(cur:Array Value)(hg:g=w.heap.size)(hb:base≤w.heap.size)(hs:cur.size=n*size)(hn:n≤maxLen):
 (w.alloc (.cells cur e)).ownsRow base e size (.slice (some ⟨g,0,none⟩) n n) n cur.toList:=by
 subst hg;refine⟨by simpa using hs,.inr ⟨_,n,cur,rfl,hb,heap_alloc_new w _,Nat.le_refl _,hn,hs,?_⟩⟩;rw[←hs];exact List.take_of_length_le (by simp)
theorem set_new(W:World)(cs:Array Value)(t:TypeId)(q i g:Nat)(v:Value)(hg:g=W.heap.size):((W.alloc (.cells cs t)).drewN q).setCell ⟨g,i,none⟩ v=(W.alloc (.cells (cs.setIfInBounds i v) t)).drewN q:=by
 show((W.alloc (.cells cs t)).setCell ⟨g,i,none⟩ v).drewN q=_
 rw[World.setCell_alloc_at _ _ _ _ _ hg]
def Blk(w:World)(g:Nat)(t:TypeId)(cs:Array Value):Prop:=w.heap[g]? =some (.cells cs t (0,0))
section
variable {w w':World} {g:Nat} {t:TypeId} {cs:Array Value}
theorem Blk.lt(h:Blk w g t cs):g<w.heap.size:=by
 rcases Nat.lt_or_ge g w.heap.size with hlt|hge
 · exact hlt
 · unfold Blk at h;rw[Array.getElem?_eq_none hge] at h;cases h
theorem Blk.cell(h:Blk w g t cs)(i:Nat):w.cell? ⟨g,i,none⟩=cs[i]? :=by
 unfold Blk at h;simp[World.cell?,h]
theorem Blk.frozen(h:Blk w g t cs)(i:Nat):w.frozen? ⟨g,i,none⟩=false:=by
 unfold Blk at h;simp[World.frozen?,h]
theorem Blk.new(w:World)(t:TypeId)(cs:Array Value):Blk (w.alloc (.cells cs t)) w.heap.size t cs:=heap_alloc_new w _
theorem Blk.drew(h:Blk w g t cs):Blk w.drew g t cs:=h
theorem Blk.drewN(h:Blk w g t cs)(n:Nat):Blk (w.drewN n) g t cs:=h
theorem Blk.alloc(h:Blk w g t cs)(o:Obj):Blk (w.alloc o) g t cs:=(Below.heap_alloc w o g h.lt).trans h
theorem Blk.set_(h:Blk w g t cs)(i:Nat)(u:Value):Blk (w.setCell ⟨g,i,none⟩ u) g t (cs.setIfInBounds i u):=by
 unfold Blk at h⊢;simp[World.setCell,Array.getElem?_modify,h]
theorem Blk.far(h:Blk w g t cs){p:Addr}(hp:g≠p.block)(u:Value):Blk (w.setCell p u) g t cs:=(Below.heap_setCell w p u g hp).trans h
theorem Blk.below{B:Nat}(h:Blk w g t cs)(hb:Below B w w')(hg:g<B):Blk w' g t cs:=(hb.block g hg).trans h
theorem Blk.grown{row:Option Nat}(h:Blk w g t cs)(hb:w.grownBy w' row)(hg:some g≠row):Blk w' g t cs:=(hb.block g h.lt hg).trans h
theorem Blk.ne_{g':Nat}{t':TypeId}{cs':Array Value}(h:Blk w g t cs)(h':Blk w g' t' cs')(hne:t≠t'):g≠g':=by
 rintro rfl
 unfold Blk at h h';rw[h] at h';injection h' with h'
 injection h' with _ ht
 exact hne ht
theorem own_blk_ne{base:Nat}{e:TypeId}{size n:Nat}{v:Value}{xs:List Value}(h:w.ownsRow base e size v n xs)(hg:Blk w g t cs)(hne:e≠t):v.ownBlock≠some g:=by
 rcases h.2 with ⟨rfl,_⟩|⟨g',cap,cur,rfl,_,hh,_⟩
 · simp[Value.ownBlock]
 · intro he
   have:g'=g:=by simpa [Value.ownBlock] using he
   subst this;exact Blk.ne_ (t:=e) hh hg hne rfl
end
abbrev Cl:=Int×Int×Int
def cv(x:Cl):List Value:=[vi vk x.1,vi vk x.2.1,vi vk x.2.2]
def cvs(L:List Cl):List Value:=L.flatMap cv
theorem cvs_length(L:List Cl):(cvs L).length=L.length*3:=by
 induction L with
 |nil=>rfl
 |cons x r ih=>simp[cvs,cv] at ih⊢;omega
theorem cvs_append(L M:List Cl):cvs (L++M)=cvs L++cvs M:=by simp[cvs]
theorem cvs_one(L:List Cl): ∀u∈cvs L,u.oneCell'=true:=by
 intro u hu;simp only[cvs,List.mem_flatMap,cv] at hu;obtain⟨x,_,hx⟩:=hu;simp at hx;rcases hx with rfl|rfl|rfl<;>rfl
theorem Tryz.infoCell:(Tryz.prog.info? 55).map (fun i=>(i.zero,i.size,i.bytes))=some (some (.agg #[vi vk 0,vi vk 0,vi vk 0]),3,24):=by kernel_rfl
def RetCells(w:World)(L:List Cl)(n:Int)(e:Ending)(w':World):Prop:=
 ∃v,e=.returned (.tuple #[v,vi vk n])∧w'.ownsRow w.heap.size 55 3 v L.length (cvs L)∧Below w.heap.size w w'
def RetCells1(w:World)(L:List Cl)(e:Ending)(w':World):Prop:=
 ∃v,e=.returned v∧w'.ownsRow w.heap.size 55 3 v L.length (cvs L)∧Below w.heap.size w w'
def kids(l r c:Int):List Cl:=[(l+1,2*r,2*c),(l+1,2*r,2*c+1),(l+1,2*r+1,2*c),(l+1,2*r+1,2*c+1)]
theorem reads_new(w:World)(a b c:Int)(t:TypeId):Reads (w.alloc (.cells #[vi vk a,vi vk b,vi vk c] t)) (w.heap.size+1) 3 (some ⟨w.heap.size,0,none⟩) 1 (cv (a,b,c)):=by
 refine⟨rfl,fun _=>⟨_,rfl,by simp,fun j u hu=>?_⟩⟩;match j,hu with
 |0,hu=>simp[cv] at hu;subst hu;simp[Addr.add]
 |1,hu=>simp[cv] at hu;subst hu;simp[Addr.add]
 |2,hu=>simp[cv] at hu;subst hu;simp[Addr.add]
 |j+3,hu=>simp[cv] at hu
theorem cv_one(x:Cl): ∀u∈cv x,u.oneCell'=true:=by
 intro u hu;simp[cv] at hu;rcases hu with rfl|rfl|rfl<;>rfl
theorem kids_take(l r c:Int){j:Nat}(hj:j<4):cvs ((kids l r c).take (j+1))=cvs ((kids l r c).take j)++cv (l+1,2*r+(j:Int)/2,2*c+(j:Int)%2):=by
 match j,hj with
 |0,_=>simp[kids,cvs]
 |1,_=>simp[kids,cvs]
 |2,_=>simp[kids,cvs]
 |3,_=>simp[kids,cvs]
theorem own_bl{w w':World}{base B:Nat}{e:TypeId}{size n:Nat}{v:Value}{xs:List Value}(h:w.ownsRow base e size v n xs)(hb:Below B w w')(hB:w.heap.size≤B):w'.ownsRow base e size v n xs:=by
 refine⟨h.1,?_⟩;rcases h.2 with h1|⟨g,cap,cur,hv,hg,hh,hr⟩
 · exact .inl h1
 · have hlt:g<w.heap.size:=by
    rcases Nat.lt_or_ge g w.heap.size with hlt|hge
    · exact hlt
    · rw[Array.getElem?_eq_none hge] at hh;cases hh
   exact .inr ⟨g,cap,cur,hv,hg,(hb.block g om_).trans hh,hr⟩
theorem own_set{w:World}{base g cap:Nat}{e:TypeId}{size n:Nat}{xs:List Value}(h:w.ownsRow base e size (.slice (some ⟨g,0,none⟩) n cap) n xs)(i:Nat)(u:Value)(hi:i<n*size):
 (w.setCell ⟨g,i,none⟩ u).ownsRow base e size (.slice (some ⟨g,0,none⟩) n cap) n (xs.set i u):=by
 refine⟨by simpa using h.1,?_⟩;rcases h.2 with ⟨h1,_⟩|⟨g',cap',cur,hv,hg,hh,hnc,hcm,hcs,htk⟩
 · cases h1
 · injection hv with e1 e2 e3
   injection e1 with e1
   injection e1 with e1
   subst e1 e3;refine .inr ⟨g,cap,cur.setIfInBounds i u,rfl,hg,?_,hnc,hcm,by simpa using hcs,?_⟩
   · simp[World.setCell,Array.getElem?_modify,hh]
   · rw[←htk]
     simp[List.take_set]
theorem own_cell{w:World}{base g cap:Nat}{e:TypeId}{size n:Nat}{xs:List Value}(h:w.ownsRow base e size (.slice (some ⟨g,0,none⟩) n cap) n xs)(i:Nat)(u:Value)(hu:xs[i]? =some u):
 w.cell? ⟨g,i,none⟩=some u∧w.frozen? ⟨g,i,none⟩=false:=by
 rcases h.2 with ⟨h1,_⟩|⟨g',cap',cur,hv,hg,hh,hnc,hcm,hcs,htk⟩
 · cases h1
 · injection hv with e1 e2 e3
   injection e1 with e1
   injection e1 with e1
   subst e1 e3;have hi:i<xs.length:=by
    rcases Nat.lt_or_ge i xs.length with hlt|hge
    · exact hlt
    · rw[List.getElem?_eq_none hge] at hu;cases hu
   rw[←htk] at hu;rw[h.1] at hi;rw[List.getElem?_take,if_pos hi,Array.getElem?_toList] at hu;exact⟨by simp[World.cell?,hh,hu],by simp[World.frozen?,hh]⟩
theorem ownsRow_far{w:World}{base g:Nat}{e t:TypeId}{size n:Nat}{v:Value}{xs:List Value}{cs:Array Value}{i:Nat}{u:Value}(h:w.ownsRow base e size v n xs)(hB:Blk w g t cs)(hne:e≠t):(w.setCell ⟨g,i,none⟩ u).ownsRow base e size v n xs:=by
 refine⟨h.1,?_⟩;have hn:=own_blk_ne h hB hne;rcases h.2 with h1|⟨g',cap,cur,rfl,hg,hh,hr⟩
 · exact .inl h1
 · refine .inr ⟨g',cap,cur,rfl,hg,(Below.heap_setCell w ⟨g,i,none⟩ u g' ?_).trans hh,hr⟩
   intro he;exact hn (by simp[Value.ownBlock,he])
end
abbrev arr4(a0 a1 a2 a3:Int):Array Value:=#[vi vu a0,vi vu a1,vi vu a2,vi vu a3]
structure Two4(w wx:World)(a0 a1 a2 a3 b0 b1 b2 b3:Int):Prop where
 bl:Below w.heap.size w wx
 A:Blk wx w.heap.size 261 (arr4 a0 a1 a2 a3)
 B:Blk wx (w.heap.size+1) 261 (arr4 b0 b1 b2 b3)
 C:Blk wx (w.heap.size+1+1) 261 (arr4 0 0 0 0)
theorem Two4.drew{w wx:World}{a0 a1 a2 a3 b0 b1 b2 b3:Int}(h:Two4 w wx a0 a1 a2 a3 b0 b1 b2 b3):Two4 w wx.drew a0 a1 a2 a3 b0 b1 b2 b3:=⟨bl_drew h.bl,h.A,h.B,h.C⟩
theorem Two4.start(w:World)(a0 a1 a2 a3 b0 b1 b2 b3:Int):Two4 w (((w.alloc (.cells (arr4 a0 a1 a2 a3) 261)).alloc (.cells (arr4 b0 b1 b2 b3) 261)).alloc (.cells (arr4 0 0 0 0) 261)) a0 a1 a2 a3 b0 b1 b2 b3:=by
 refine⟨?_,?_,?_,?_⟩
 · exact(((Below.refl _ _).alloc (Nat.le_refl _) _).alloc (by simp) _).alloc (by simp;omega) _
 · exact((Blk.new w 261 (arr4 a0 a1 a2 a3)).alloc _).alloc _
 · have:=(Blk.new (w.alloc (.cells (arr4 a0 a1 a2 a3) 261)) 261 (arr4 b0 b1 b2 b3)).alloc (.cells (arr4 0 0 0 0) 261)
   simpa using this
 · have:=Blk.new ((w.alloc (.cells (arr4 a0 a1 a2 a3) 261)).alloc (.cells (arr4 b0 b1 b2 b3) 261)) 261 (arr4 0 0 0 0)
   simpa using this
theorem Two4.set_{w wx:World}{a0 a1 a2 a3 b0 b1 b2 b3:Int}(h:Two4 w wx a0 a1 a2 a3 b0 b1 b2 b3)(i:Nat)(u:Value):
 Below w.heap.size w (wx.setCell ⟨w.heap.size,i,none⟩ u)∧Blk (wx.setCell ⟨w.heap.size,i,none⟩ u) w.heap.size 261 ((arr4 a0 a1 a2 a3).setIfInBounds i u)∧Blk (wx.setCell ⟨w.heap.size,i,none⟩ u) (w.heap.size+1) 261 (arr4 b0 b1 b2 b3)∧Blk (wx.setCell ⟨w.heap.size,i,none⟩ u) (w.heap.size+1+1) 261 (arr4 0 0 0 0):=
 ⟨h.bl.setCell (Nat.le_refl _) _,h.A.set_ i u,h.B.far (by simp) u,h.C.far (by simp;omega) u⟩
theorem Two4.set0{w wx:World}{a0 a1 a2 a3 b0 b1 b2 b3 d:Int}(h:Two4 w wx a0 a1 a2 a3 b0 b1 b2 b3):Two4 w (wx.setCell ⟨w.heap.size,0,none⟩ (vi vu d)) d a1 a2 a3 b0 b1 b2 b3:=by
 obtain⟨h1,h2,h3,h4⟩:=h.set_ 0 (vi vu d);exact⟨h1,h2,h3,h4⟩
theorem Two4.set1{w wx:World}{a0 a1 a2 a3 b0 b1 b2 b3 d:Int}(h:Two4 w wx a0 a1 a2 a3 b0 b1 b2 b3):Two4 w (wx.setCell ⟨w.heap.size,1,none⟩ (vi vu d)) a0 d a2 a3 b0 b1 b2 b3:=by
 obtain⟨h1,h2,h3,h4⟩:=h.set_ 1 (vi vu d);exact⟨h1,h2,h3,h4⟩
theorem Two4.set2{w wx:World}{a0 a1 a2 a3 b0 b1 b2 b3 d:Int}(h:Two4 w wx a0 a1 a2 a3 b0 b1 b2 b3):Two4 w (wx.setCell ⟨w.heap.size,2,none⟩ (vi vu d)) a0 a1 d a3 b0 b1 b2 b3:=by
 obtain⟨h1,h2,h3,h4⟩:=h.set_ 2 (vi vu d);exact⟨h1,h2,h3,h4⟩
theorem Two4.set3{w wx:World}{a0 a1 a2 a3 b0 b1 b2 b3 d:Int}(h:Two4 w wx a0 a1 a2 a3 b0 b1 b2 b3):Two4 w (wx.setCell ⟨w.heap.size,3,none⟩ (vi vu d)) a0 a1 a2 d b0 b1 b2 b3:=by
 obtain⟨h1,h2,h3,h4⟩:=h.set_ 3 (vi vu d);exact⟨h1,h2,h3,h4⟩
theorem subN_any(a0 a1 a2 a3 b0 b1 b2 b3:Int)(w:World)(ha0:U64 a0)(ha1:U64 a1)(ha2:U64 a2)(ha3:U64 a3)(hb0:U64 b0)(hb1:U64 b1)(hb2:U64 b2)(hb3:U64 b3):
 Calls Tryz.prog 262 #[num4 a0 a1 a2 a3,num4 b0 b1 b2 b3] w fun e w'=>e=.returned (num4 (suD a0 b0 (suB a1 b1 (suB a2 b2 (suB a3 b3 0)))) (suD a1 b1 (suB a2 b2 (suB a3 b3 0))) (suD a2 b2 (suB a3 b3 0)) (suD a3 b3 0))∧Below w.heap.size w w':=by
 have s3:=hid (sub64 a3 b3 0 ha3 hb3 om_ om_);have c3:=suB_bd a3 b3 0;generalize suB a3 b3 0=k3 at*;generalize suD a3 b3 0=d3 at*;have s2:=hid (sub64 a2 b2 k3 ha2 hb2 c3.1 c3.2);have c2:=suB_bd a2 b2 k3;generalize suB a2 b2 k3=k2 at*;generalize suD a2 b2 k3=d2 at*;have s1:=hid (sub64 a1 b1 k2 ha1 hb1 c2.1 c2.2);have c1:=suB_bd a1 b1 k2;generalize suB a1 b1 k2=k1 at*;generalize suD a1 b1 k2=d1 at*;have s0:=hid (sub64 a0 b0 k1 ha0 hb0 c1.1 c1.2);generalize suB a0 b0 k1=k0 at*;generalize suD a0 b0 k1=d0 at*;clear ha0 ha1 ha2 ha3 hb0 hb1 hb2 hb3 c1 c2 c3;go_enter func262,ntmps262;go_wp2;have T4:=hid (Two4.start w a0 a1 a2 a3 b0 b1 b2 b3);unfold arr4 at T4;generalize ((w.alloc (.cells #[vi vu a0,vi vu a1,vi vu a2,vi vu a3] 261)).alloc (.cells #[vi vu b0,vi vu b1,vi vu b2,vi vu b3] 261)).alloc (.cells #[vi vu 0,vi vu 0,vi vu 0,vi vu 0] 261)=w4 at*;refine wp_loop_rounds 5 ?_;rw[rounds_succ];have x:=T4.out.A.cell 3;have f:=T4.out.A.frozen 3;have y:=T4.out.B.cell 3;simp at x y;go_upto_block 1 with (fail)
 go_cut [5] (fun s5 wy=>s5=vi vu k3∧Two4 w wy a0 a1 a2 d3 b0 b1 b2 b3)
 case first=>
  have q:=s3.out;go_wp2;go_region_law (fail)
  all_goals
   go_wp2_with fail;go_meet
   case rel=>exact⟨rfl,T4.out.drew.set3⟩
 case rest=>
 obtain⟨rfl,T⟩:=hcut;rename World=>w3
 have T3:=hid T;clear x f y T T4;go_wp2;rw[rounds_succ];have x:=T3.out.A.cell 2;have f:=T3.out.A.frozen 2;have y:=T3.out.B.cell 2;simp at x y;go_upto_block 1 with (fail)
 go_cut [5] (fun s5 wy=>s5=vi vu k2∧Two4 w wy a0 a1 d2 d3 b0 b1 b2 b3)
 case first=>
  have q:=s2.out;go_wp2;go_region_law (fail)
  all_goals
   go_wp2_with fail;go_meet
   case rel=>exact⟨rfl,T3.out.drew.set2⟩
 case rest=>
 obtain⟨rfl,T⟩:=hcut;rename World=>w2
 have T2:=hid T;clear x f y T T3;go_wp2;rw[rounds_succ];have x:=T2.out.A.cell 1;have f:=T2.out.A.frozen 1;have y:=T2.out.B.cell 1;simp at x y;go_upto_block 1 with (fail)
 go_cut [5] (fun s5 wy=>s5=vi vu k1∧Two4 w wy a0 d1 d2 d3 b0 b1 b2 b3)
 case first=>
  have q:=s1.out;go_wp2;go_region_law (fail)
  all_goals
   go_wp2_with fail;go_meet
   case rel=>exact⟨rfl,T2.out.drew.set1⟩
 case rest=>
 obtain⟨rfl,T⟩:=hcut;rename World=>w1
 have T1:=hid T;clear x f y T T2;go_wp2;rw[rounds_succ];have x:=T1.out.A.cell 0;have f:=T1.out.A.frozen 0;have y:=T1.out.B.cell 0;simp at x y;go_upto_block 1 with (fail)
 go_cut [5] (fun s5 wy=>s5=vi vu k0∧Two4 w wy d0 d1 d2 d3 b0 b1 b2 b3)
 case first=>
  have q:=s0.out;go_wp2;go_region_law (fail)
  all_goals
   go_wp2_with fail;go_meet
   case rel=>exact⟨rfl,T1.out.drew.set0⟩
 case rest=>
 obtain⟨rfl,T⟩:=hcut;rename World=>w0
 have T0:=hid T;clear x f y T T1;go_wp2;rw[rounds_succ];have x0:=T0.out.A.cell 0;have x1:=T0.out.A.cell 1;have x2:=T0.out.A.cell 2;have x3:=T0.out.A.cell 3;have z0:=T0.out.C.cell 0;have z1:=T0.out.C.cell 1;have z2:=T0.out.C.cell 2;have z3:=T0.out.C.cell 3;have f0:=T0.out.C.frozen 0;have f1:=T0.out.C.frozen 1;have f2:=T0.out.C.frozen 2;have f3:=T0.out.C.frozen 3;simp at x0 x1 x2 x3 z0 z1 z2 z3;go_wp2;refine bodyPost_ret (v:=num4 d0 d1 d2 d3) (by simp[results,results262,go_sem, *]) rfl ⟨rfl,?_⟩;exact(((T0.out.bl.setCell (by simp;omega) _).setCell (by simp;omega) _).setCell (by simp;omega) _).setCell (by simp;omega) _
end Go.Proofs.YtdeiofgddhbdaaaGreat
