/- The walks of the reference's Around, Meet and Touch. -/
import Derived.Deep.AppendSrc
import Derived.Test.YtdeiofgddhbdaaaGreatDoorHGi
set_option linter.unusedSimpArgs false
set_option linter.unusedVariables false
set_option maxHeartbeats 4000000
set_option maxRecDepth 100000
open Go.RowKit
open Go.Lib (hid)
open Go.Proofs.Tryz
open Go.Value renaming int→vi
open Go.IntKind renaming i64→vk
namespace Go.Proofs.YtdeiofgddhbdaaaGreatDoor
section
structure Que(W:World)(B:Nat)(A:Option Addr)(n c:Nat)(T:List Nat):Prop where
 len:T.length=n
 le:n≤c
 max:c≤maxLen
 spot:0<c→ ∃g d,A=some ⟨g,d,none⟩∧B≤g∧g<W.heap.size∧(∀j,j<c→(W.cell? ⟨g,d+j,none⟩).isSome=true)∧(∀j,j<c→W.frozen? ⟨g,d+j,none⟩=false)∧ ∀(j x:Nat),T[j]? =some x→W.cell? ⟨g,d+j,none⟩=some (vi vk (x:Int))
section
variable {W W':World} {B:Nat} {A:Option Addr} {n c:Nat} {T:List Nat}
theorem Que.bl(h:Que W B A n c T)(hb:Below W.heap.size W W'):Que W' B A n c T:=by
 refine⟨h.len,h.le,h.max,fun hc=>?_⟩;obtain⟨g,d,e,hg,hlt,h1,h2,h3⟩:=h.spot hc;exact⟨g,d,e,hg,Nat.lt_of_lt_of_le hlt hb.size,fun j hj=>by rw[hb.cell (p:=⟨g,d+j,none⟩) hlt];exact h1 j hj,fun j hj=>(hb.frozen (p:=⟨g,d+j,none⟩) hlt).trans (h2 j hj),fun j x hx=>(hb.cell (p:=⟨g,d+j,none⟩) hlt).trans (h3 j x hx)⟩
theorem Que.set(h:Que W B A n c T){q o:Nat}(hq:q<B)(u:Value):Que (W.setCell ⟨q,o,none⟩ u) B A n c T:=by
 refine⟨h.len,h.le,h.max,fun hc=>?_⟩;obtain⟨g,d,e,hg,hlt,h1,h2,h3⟩:=h.spot hc;have hne: ∀j,W.cell? ⟨g,d+j,none⟩=(W.setCell ⟨q,o,none⟩ u).cell? ⟨g,d+j,none⟩:=fun j=>(World.cell?_setCell_other _ _ _ _ (fun e=>by injection e with e1;omega)).symm;exact⟨g,d,e,hg,by simpa using hlt,fun j hj=>by rw[←hne];exact h1 j hj,fun j hj=>by rw[World.frozen?_setCell];exact h2 j hj,fun j x hx=>by rw[←hne];exact h3 j x hx⟩
theorem Que.head{k:Nat}(h:Que W B A n c (k::T)): ∃g d,A=some ⟨g,d,none⟩∧g<W.heap.size∧W.cell? ⟨g,d,none⟩=some (vi vk (k:Int)):=by
 have hl:=h.len;have:=h.le;simp only[List.length_cons] at hl;obtain⟨g,d,e,hg,hlt,h1,h2,h3⟩:=h.spot om_;exact⟨g,d,e,hlt,by simpa using h3 0 k rfl⟩
theorem Que.tail{g d k:Nat}(h:Que W B (some ⟨g,d,none⟩) n c (k::T)){A':Option Addr}(hA:c≠1→A'=some ⟨g,d+1,none⟩):Que W B A' (n-1) (c-1) T:=by
 have hl:=h.len;have hle:=h.le;have hmx:=h.max;simp only[List.length_cons] at hl;refine⟨om_,om_,om_,fun hc=>?_⟩;obtain⟨g',d',e,hg,hlt,h1,h2,h3⟩:=h.spot om_;injection e with e
 injection e with e1 e2
 subst e1 e2;refine⟨g,d+1,hA om_,hg,hlt,fun j hj=>?_,fun j hj=>?_,fun j x hx=>?_⟩
 · have:=h1 (j+1) om_;rwa [show d+(j+1)=d+1+j by omega] at this
 · have:=h2 (j+1) om_;rwa [show d+(j+1)=d+1+j by omega] at this
 · have:=h3 (j+1) x (by simpa using hx);rwa [show d+(j+1)=d+1+j by omega] at this
theorem Que.one{g k:Nat}(hB:B≤g)(hg:g<W.heap.size)(h:W.cell? ⟨g,0,none⟩=some (vi vk (k:Int)))(hf:W.frozen? ⟨g,0,none⟩=false):Que W B (some ⟨g,0,none⟩) 1 1 [k]:=by
 refine⟨rfl,Nat.le_refl _,by simp[maxLen],fun _=>⟨g,0,rfl,hB,hg,fun j hj=>?_,fun j hj=>?_,fun j x hx=>?_⟩⟩
 · obtain rfl:j=0:=by omega
   rw[h];rfl
 · obtain rfl:j=0:=by omega
   exact hf
 · match j,hx with
   |0,hx=>simp at hx;subst hx;exact h
   |j+1,hx=>simp at hx
end
theorem ivs_get(T:List Nat)(j:Nat)(u:Value)(h:(ivsG T)[j]? =some u): ∃x,T[j]? =some x∧u=vi vk (x:Int):=by
 unfold ivsG at h;rw[List.getElem?_map] at h;cases e:T[j]? with
 |none=>rw[e] at h;cases h
 |some x=>rw[e] at h;exact⟨x,rfl,by simpa using h.symm⟩
section
variable {P:Program}
theorem run_que(W:World)(t ty e:TypeId)(i:TypeInfo)(ht:P.underlying t=some (.slice e))(hi:P.info? e=some i)(hz:i.zero=some (vi vk 0))(hsize:i.size=1)(hby:i.bytes=8)
 {B n c:Nat} {A:Option Addr} {T:List Nat} (h:Que W B A n c T) (s x c':Nat) (hx:W.cell? ⟨s,0,none⟩=some (vi vk (x:Int))) (hB:B≤W.heap.size) (hn:n≤100000):
 ∃A' c2 W',(Builtin.append_ #[t,t] ty #[.slice A n c,.slice (some ⟨s,0,none⟩) 1 c']).run P W=.ok (.slice A' (n+1) c2) W'∧Que W' B A' (n+1) c2 (T++[x])∧Below B W W':=by
 have hl:=h.len;have hle:=h.le;have hmx:=h.max;have hs:Src P i.size t (.slice (some ⟨s,0,none⟩) 1 c') 1 [vi vk (x:Int)] W:=Src.ofSlice W ht _ 1 c' _ (by simp[hsize]) (fun j u hu=>by
  match j,hu with
  |0,hu=>simp at hu;subst hu;simpa [Addr.add] using hx
  |j+1,hu=>simp at hu) (by simp[Value.oneCell'])
 by_cases hroom:n+1≤c
 · obtain⟨g,d,rfl,hg,hlt,hc,hf,hT⟩:=h.spot om_
   have hr:=run_append_room_src (P:=P) W t t ty e i ht hi g d n c _ 1 _ hs hroom (fun j hj=>by
    simp only[List.length_cons,List.length_nil] at hj;obtain rfl:j=0:=by omega
    rw[hsize];simpa using hc n om_) (fun j hj=>by
    simp only[List.length_cons,List.length_nil] at hj;obtain rfl:j=0:=by omega
    rw[hsize,Nat.mul_one,Nat.add_zero];exact hf n om_)
   rw[hsize,Nat.mul_one] at hr;obtain⟨u0,hu0⟩:=Option.isSome_iff_exists.1 (hc n om_);have hsame:(W.setCell ⟨g,d+n,none⟩ (vi vk (x:Int))).cell? ⟨g,d+n,none⟩=some (vi vk (x:Int)):=World.cell?_setCell_same _ _ _ hu0;have hother: ∀j,j≠n→(W.setCell ⟨g,d+n,none⟩ (vi vk (x:Int))).cell? ⟨g,d+j,none⟩=W.cell? ⟨g,d+j,none⟩:=fun j hj=>World.cell?_setCell_other _ _ _ _ (fun e=>by injection e with _ e2;omega);refine⟨_,_,_,hr,⟨by simp[hl],hroom,hmx,fun _=>⟨g,d,rfl,hg,by simpa [World.setCells] using hlt,fun j hj=>?_,fun j hj=>by show(W.setCell _ _).frozen? _=false;rw[World.frozen?_setCell];exact hf j hj,fun j y hy=>?_⟩⟩,(Below.refl _ _).setCell hg _⟩
   · show((W.setCell ⟨g,d+n,none⟩ (vi vk (x:Int))).cell? ⟨g,d+j,none⟩).isSome=true
     by_cases e:j=n
     · subst e;rw[hsame];rfl
     · rw[hother j e];exact hc j hj
   · show(W.setCell ⟨g,d+n,none⟩ (vi vk (x:Int))).cell? ⟨g,d+j,none⟩=_
     by_cases e:j=n
     · subst e
       rw[List.getElem?_append_right om_,hl] at hy;simp at hy;subst hy;exact hsame
     · rw[hother j e]
       refine hT j y ?_;by_cases g:j<T.length
       · rwa [List.getElem?_append_left g] at hy
       · rw[List.getElem?_append_right om_,List.getElem?_eq_none (by simp;omega)] at hy;cases hy
 · have hold:(Builtin.firstCells i.size n (.slice A n c)).run P W.drew=.ok (ivsG T).toArray W.drew:=by
    rcases Nat.eq_zero_or_pos n with h0|h0
    · subst h0
      obtain rfl:T=[]:=List.eq_nil_of_length_eq_zero hl;rcases A with _|ad
      · exact run_firstCells_none W.drew i.size 0 0 c
      · exact run_firstCells_some W.drew i.size 0 ad 0 c [] (by simp) (fun j u hu=>by simp at hu)
    · obtain⟨g,d,rfl,hg,hlt,hc,hf,hT⟩:=h.spot om_
      refine run_firstCells_some W.drew i.size n _ n c (ivsG T) (by simp[ivsG,hl,hsize]) (fun j u hu=>?_);obtain⟨y,hy,rfl⟩:=ivs_get T j u hu;rw[Go.WideShapes.add_plain];simpa using hT j y hy
   have hr:=run_append_grow_src (P:=P) W t t ty e i (vi vk 0) ht hi hz A n c (ivsG T) hold _ 1 _ hs om_ om_ (growslice_fits om_ (by rw[hby];omega));have hge:=grownCap_ge W (n+1) c e;have hcm:grownCap W (n+1) c e≤maxLen:=grownCap_le_maxLen W (n+1) c e (by simp only[maxLen];omega);have hb:=Blk.new W.drew e ((ivsG T++[vi vk (x:Int)]).toArray++Builtin.zeroCells (vi vk 0).cells (grownCap W (n+1) c e-(n+1)));have hsz:((ivsG T++[vi vk (x:Int)]).toArray++Builtin.zeroCells (vi vk 0).cells (grownCap W (n+1) c e-(n+1))).size=grownCap W (n+1) c e:=by
    simp only[Array.size_append,List.size_toArray,List.length_append,size_zeroCells];simp[ivsG,hl,Value.cells];omega
   refine⟨_,_,_,hr,⟨by simp[hl],hge,hcm,fun _=>⟨_,0,rfl,hB,by simp,fun j hj=>?_,fun j hj=>?_,fun j y hy=>?_⟩⟩,(bl_drew (Below.refl _ _)).alloc (by simpa using hB) _⟩
   · rw[Nat.zero_add]
     have:=Blk.cell hb j;simp only[World.size_drew] at this;rw[this,Array.getElem?_eq_getElem om_];rfl
   · rw[Nat.zero_add]
     exact Blk.frozen hb j
   · rw[Nat.zero_add]
     have:=Blk.cell hb j;simp only[World.size_drew] at this;rw[this];have hjl:j<(T++[x]).length:=by
      rcases Nat.lt_or_ge j (T++[x]).length with q|q
      · exact q
      · rw[List.getElem?_eq_none q] at hy;cases hy
     have hjl2:j<n+1:=by simpa [hl] using hjl
     rw[Array.getElem?_append_left (by simp[ivsG,hl];omega)];simp only[List.getElem?_toArray];have e2:ivsG T++[vi vk (x:Int)]=ivsG (T++[x]):=by simp[ivsG]
     rw[e2];exact ivsG_at hy
theorem wp_que{o:Oper}{a:Act}{K:Act→World→Prop}{Q:Exit→Act→World→Prop}(W:World)(s x:Operand)(t:TypeId)
 (ho:o.op=.call {callee:=.builtin .append,args:=#[s,x],argTypes:=#[t,t]})
 (e:TypeId) (i:TypeInfo) (ht:P.underlying t=some (.slice e)) (hi:P.info? e=some i) (hz:i.zero=some (vi vk 0)) (hsize:i.size=1) (hby:i.bytes=8)
 {B n c:Nat} {A:Option Addr} {T:List Nat} (h:Que W B A n c T) (b y c':Nat) (hs:a.eval s=.slice A n c) (hx:a.eval x=.slice (some ⟨b,0,none⟩) 1 c') (hy:W.cell? ⟨b,0,none⟩=some (vi vk (y:Int))) (hB:B≤W.heap.size) (hn:n≤100000)
 (hk: ∀A' c2 W',Que W' B A' (n+1) c2 (T++[y])→Below B W W'→K (a.put o.dst (.slice A' (n+1) c2)) W'):o.wp P a W K Q:=by
 obtain⟨A',c2,W',hrun,h2,h3⟩:=run_que (P:=P) W t o.type e i ht hi hz hsize hby h b y c' hy hB hn;unfold Oper.wp execOp;simp only[ho,resolve,invoke,builtin,Sem.run_bind,Sem.run_pure,Result.andThen_ok,List.map_toArray,List.map_cons,List.map_nil,hs,hx,hrun];exact hk A' c2 W' h2 h3
theorem wpList_que{ops:Array Oper}{rest:List Oper}{o:Oper}{a:Act}{Q:Exit→Act→World→Prop}(W:World)(hgd:o.guard=none)(s x:Operand)(t:TypeId)
 (ho:o.op=.call {callee:=.builtin .append,args:=#[s,x],argTypes:=#[t,t]})
 (e:TypeId) (i:TypeInfo) (ht:P.underlying t=some (.slice e)) (hi:P.info? e=some i) (hz:i.zero=some (vi vk 0)) (hsize:i.size=1) (hby:i.bytes=8)
 {B n c:Nat} {A:Option Addr} {T:List Nat} (h:Que W B A n c T) (b y c':Nat) (hs:a.eval s=.slice A n c) (hx:a.eval x=.slice (some ⟨b,0,none⟩) 1 c') (hy:W.cell? ⟨b,0,none⟩=some (vi vk (y:Int))) (hB:B≤W.heap.size) (hn:n≤100000)
 (hk: ∀A' c2 W',Que W' B A' (n+1) c2 (T++[y])→Below B W W'→wpList P ops Q rest (a.put o.dst (.slice A' (n+1) c2)) W'):wpList P ops Q (o::rest) a W:=
 wpList_plain hgd fun _ hK=>wp_que W s x t ho e i ht hi hz hsize hby h b y c' hs hx hy hB hn fun A' c2 W' h2 h3=>hK _ _ (hk A' c2 W' h2 h3)
end
end
theorem tmT_pos{n:Int}(h:0≤n.tmod 21600000):n.tmod 21600000=n%21600000:=by
 have:=Int.tmod_eq_emod (a:=n) (b:=21600000);have h2:0≤n%21600000∧n%21600000<21600000:=by omega
 split at this<;>omega
theorem tmT_neg{n:Int}(h:n.tmod 21600000<0):n.tmod 21600000+21600000=n%21600000:=by
 have:=Int.tmod_eq_emod (a:=n) (b:=21600000);have h2:0≤n%21600000∧n%21600000<21600000:=by omega
 split at this<;>omega
theorem tmT_val(n:Int):(n.tmod 21600000<0∧wrap64 (n.tmod 21600000+21600000)=n%21600000)∨(¬n.tmod 21600000<0∧n.tmod 21600000=n%21600000):=by
 by_cases h:n.tmod 21600000<0
 · refine .inl ⟨h,?_⟩
   have e:=tmT_neg h;rw[IntWalk.wrap64_in _ om_];exact e
 · exact .inr ⟨h,tmT_pos om_⟩
theorem off08_any(n:Int)(w:World):Calls Tryz.prog 94 #[vi vk n] w fun e w'=>e=.returned (vi vk (n%21600000))∧Below w.heap.size w w':=by
 have ht:=tmT_val n;generalize n%21600000=m at*;rcases ht with ⟨t0,t1⟩|⟨t0,t1⟩
 all_goals
  go_enter func94,ntmps94;go_wp2;go_ret;exact⟨ret_int (by first|exact t1|rfl),Below.refl _ _⟩
theorem wrap05_any(n:Int)(w:World):Calls Tryz.prog 95 #[vi vk n] w fun e w'=>e=.returned (vi vk (n%21600000))∧Below w.heap.size w w':=by
 have ht:=tmT_val n;generalize n%21600000=m at*;rcases ht with ⟨t0,t1⟩|⟨t0,t1⟩
 all_goals
  go_enter func95,ntmps95;go_wp2;go_ret;exact⟨ret_int (by first|exact t1|rfl),Below.refl _ _⟩
theorem sgn05_any(n:Int)(w:World):Calls Tryz.prog 65 #[vi vk n] w fun e w'=>e=.returned (vi vk (sgA n))∧Below w.heap.size w w':=by
 have K:=hid (fun W=>wrap05_any n W);have hm:0≤n%21600000∧n%21600000<21600000:=by omega
 unfold sgA;generalize n%21600000=m at*;by_cases h:10800000≤m
 all_goals
  first|rw[if_pos h]|rw[if_neg h]
  go_enter func65,ntmps65;go_wp2_with fail;(with_reducible refine(K.out _).mono ?_)
  rintro e w1 ⟨rfl,hb1⟩
  go_wp2;go_ret;exact⟨ret_int (by first|rfl|omega),hb1⟩
theorem all08_any(w:World):Calls Tryz.prog 93 #[] w fun e w'=>e=.returned (.agg #[vi vk (-10800000),vi vk 10800000])∧Below w.heap.size w w':=by
 go_enter func93,ntmps93;go_wp2;refine bodyPost_ret (v:=.agg #[vi vk (-10800000),vi vk 10800000]) (by simp[results,results93,go_sem]) rfl ⟨rfl,?_⟩;exact bl_
theorem meets05_any(a0 a1 b0 b1:Int)(w:World):Calls Tryz.prog 132 #[.agg #[vi vk a0,vi vk a1],.agg #[vi vk b0,vi vk b1]] w fun e w'=>e=.returned (.bool (decide (a0≤b1∧b0≤a1)))∧Below w.heap.size w w':=by
 by_cases h1:a0≤b1
 · have d1:decide (a0≤b1)=true:=decide_eq_true h1
   by_cases h2:b0≤a1
   · have d2:decide (b0≤a1)=true:=decide_eq_true h2
     rw[decide_eq_true (⟨h1,h2⟩:a0≤b1∧b0≤a1)];go_enter func132,ntmps132;go_wp2;go_ret;refine⟨rfl,?_⟩;exact bl_
   · have d2:decide (b0≤a1)=false:=decide_eq_false h2
     rw[decide_eq_false (fun h:a0≤b1∧b0≤a1=>h2 h.2)];go_enter func132,ntmps132;go_wp2;go_ret;refine⟨rfl,?_⟩;exact bl_
 · have d1:decide (a0≤b1)=false:=decide_eq_false h1
   rw[decide_eq_false (fun h:a0≤b1∧b0≤a1=>h1 h.1)];go_enter func132,ntmps132;go_wp2;go_ret;refine⟨rfl,?_⟩;exact bl_
theorem meet05_any(a0 a1 b0 b1:Int)(w:World):Calls Tryz.prog 133 #[.agg #[vi vk a0,vi vk a1],.agg #[vi vk b0,vi vk b1]] w fun e w'=>e=.returned (.agg #[vi vk (max a0 b0),vi vk (min a1 b1)])∧Below w.heap.size w w':=by
 by_cases h1:a0<b0
 · have e1:max a0 b0=b0:=by omega
   by_cases h2:b1<a1
   · have e2:min a1 b1=b1:=by omega
     rw[e1,e2];clear e1 e2;go_enter func133,ntmps133;go_wp2;refine bodyPost_ret (v:=.agg #[vi vk b0,vi vk b1]) (by simp[results,results133,go_sem, *];done) rfl ⟨rfl,?_⟩;exact bl_
   · have e2:min a1 b1=a1:=by omega
     rw[e1,e2];clear e1 e2;go_enter func133,ntmps133;go_wp2;refine bodyPost_ret (v:=.agg #[vi vk b0,vi vk a1]) (by simp[results,results133,go_sem, *];done) rfl ⟨rfl,?_⟩;exact bl_
 · have e1:max a0 b0=a0:=by omega
   by_cases h2:b1<a1
   · have e2:min a1 b1=b1:=by omega
     rw[e1,e2];clear e1 e2;go_enter func133,ntmps133;go_wp2;refine bodyPost_ret (v:=.agg #[vi vk a0,vi vk b1]) (by simp[results,results133,go_sem, *];done) rfl ⟨rfl,?_⟩;exact bl_
   · have e2:min a1 b1=a1:=by omega
     rw[e1,e2];clear e1 e2;go_enter func133,ntmps133;go_wp2;refine bodyPost_ret (v:=.agg #[vi vk a0,vi vk a1]) (by simp[results,results133,go_sem, *];done) rfl ⟨rfl,?_⟩;exact bl_
def prP(a b:Sp)(g:Int):List Sp:=if max (b.1+g) a.1≤min (b.2+g) a.2 then[(max (b.1+g) a.1,min (b.2+g) a.2)] else[]
def prF(a b:Sp):Nat→List Sp
 |0=>[]
 |j+1=>prF a b j++prP a b (((j:Int)-1)*21600000)
theorem prP_len(a b:Sp)(g:Int):(prP a b g).length≤1:=by unfold prP;split<;>simp
theorem prF_len(a b:Sp): ∀j,(prF a b j).length≤j
 |0=>by simp[prF]
 |j+1=>by
  have h1:=prF_len a b j;have h2:=prP_len a b (((j:Int)-1)*21600000);simp only[prF,List.length_append];omega
theorem prP_mem(a b:Sp)(g:Int)(ha: -100000000≤a.1∧a.2≤100000000∧a.2≤a.1+21600000): ∀x∈prP a b g,-100000000≤x.1∧x.1≤100000000∧x.1≤x.2∧x.2≤x.1+21600000:=by
 intro x hx;unfold prP at hx;split at hx
 · rename_i h
   simp only[List.mem_cons,List.not_mem_nil,or_false] at hx;subst hx;simp only[];omega
 · simp at hx
theorem prF_mem(a b:Sp)(ha: -100000000≤a.1∧a.2≤100000000∧a.2≤a.1+21600000): ∀j,∀x∈prF a b j,-100000000≤x.1∧x.1≤100000000∧x.1≤x.2∧x.2≤x.1+21600000
 |0=>fun x hx=>by simp[prF] at hx
 |j+1=>fun x hx=>by
  rcases List.mem_append.1 hx with h|h
  · exact prF_mem a b ha j x h
  · exact prP_mem a b _ ha x h
theorem pr_lonM(a b:Sp)(ha:a.1≤a.2)(hb:b.1≤b.2):(prF a b 3).length=0↔lonM a b=false:=by
 obtain⟨a0,a1⟩:=a;obtain⟨b0,b1⟩:=b;simp only[] at ha hb;have key: ∀g:Int,(prP (a0,a1) (b0,b1) g).length=0↔ ¬(b0+g≤a1∧a0≤b1+g):=fun g=>by
  have e:(max (b0+g) a0≤min (b1+g) a1)↔(b0+g≤a1∧a0≤b1+g):=by omega
  have hp:prP (a0,a1) (b0,b1) g=if max (b0+g) a0≤min (b1+g) a1 then[(max (b0+g) a0,min (b1+g) a1)] else[]:=rfl
  by_cases h:max (b0+g) a0≤min (b1+g) a1
  · rw[hp,if_pos h];exact⟨fun h2=>by simp at h2,fun h2=>absurd (e.1 h) h2⟩
  · rw[hp,if_neg h];exact⟨fun _ h2=>h (e.2 h2),fun _=>rfl⟩
 have k0:=key ((((0:Nat):Int)-1)*21600000);have k1:=key ((((1:Nat):Int)-1)*21600000);have k2:=key ((((2:Nat):Int)-1)*21600000);unfold lonM;simp only[prF,List.length_append,List.nil_append,decide_eq_false_iff_not];omega
theorem own_far{w:World}{base g i:Nat}{e:TypeId}{size n:Nat}{v u:Value}{xs:List Value}(h:w.ownsRow base e size v n xs)(hq: ∀q,v.ownBlock=some q→q≠g):(w.setCell ⟨g,i,none⟩ u).ownsRow base e size v n xs:=
 own_grown' h (grown_setG w g i u) (fun q hq' e=>hq q hq' (by cases e;rfl))
theorem parts08_any(a0 a1 b0 b1:Int)(w:World)(ha: -100000000≤a0∧a0≤100000000∧ -100000000≤a1∧a1≤100000000)(hb: -100000000≤b0∧b0≤100000000∧ -100000000≤b1∧b1≤100000000):
 Calls Tryz.prog 131 #[.agg #[vi vk a0,vi vk a1],.agg #[vi vk b0,vi vk b1]] w fun e w'=> ∃v,e=.returned v∧w'.ownsRow w.heap.size 33 2 v (prF (a0,a1) (b0,b1) 3).length (spvs (prF (a0,a1) (b0,b1) 3))∧Below w.heap.size w w':=by
 have HA:=hid ((K2.new w a0 a1 33).alloc (.cells #[vi vk b0,vi vk b1] 33));have HB:Hid (K2 ((w.alloc (.cells #[vi vk a0,vi vk a1] 33)).alloc (.cells #[vi vk b0,vi vk b1] 33)) (w.heap.size+1) b0 b1):=hid (by
  have:=K2.new (w.alloc (.cells #[vi vk a0,vi vk a1] 33)) b0 b1 33;simpa using this)
 have b0':Below w.heap.size w ((w.alloc (.cells #[vi vk a0,vi vk a1] 33)).alloc (.cells #[vi vk b0,vi vk b1] 33)):=((Below.refl _ _).alloc (Nat.le_refl _) _).alloc (by simp) _;obtain⟨R,hR⟩: ∃R,R=prF (a0,a1) (b0,b1) 3:=⟨_,rfl⟩;rw[←hR];have HRR:=hid hR;clear hR;obtain⟨i0,hi0,hz0,hz1,hzb⟩:=info_parts Tryz.infoArcG;go_enter func131,ntmps131;go_wp2;go_loopw [5,6] (fun v i wq=> ∃j:Nat,j≤3∧i=vi vk j∧wq.ownsRow (w.heap.size+2) 33 2 v (prF (a0,a1) (b0,b1) j).length (spvs (prF (a0,a1) (b0,b1) j))∧K2 wq w.heap.size a0 a1∧K2 wq (w.heap.size+1) b0 b1∧Below w.heap.size w wq) (fun _ i _=>3-(intOf i).toNat)
 case atStart=>exact⟨0,om_,rfl,own_nil _ _ _ _,HA.out,HB.out,b0'⟩
 case round=>
  obtain⟨j,hj,rfl,hown,hA,hB,hbr⟩:=hrel;clear HA HB b0';have HA:=hid hA;have HB:=hid hB;have HO:=hid hown;clear hA hB hown;by_cases hj3:j<3
  · obtain⟨g,hg⟩: ∃g,g=((j:Int)-1)*21600000:=⟨_,rfl⟩
    have hgb: -21600000≤g∧g≤21600000:=by omega
    have HC:Hid (prF (a0,a1) (b0,b1) (j+1)=prF (a0,a1) (b0,b1) j++prP (a0,a1) (b0,b1) g):=hid (by rw[hg];rfl);have hfl:=prF_len (a0,a1) (b0,b1) j;have HPd:Hid (prP (a0,a1) (b0,b1) g=if max (b0+g) a0≤min (b1+g) a1 then[(max (b0+g) a0,min (b1+g) a1)] else[]):=hid rfl;have HG:=hid hg;obtain⟨X,hX⟩: ∃X,b0+((j:Int)-1)*21600000=X:=⟨_,rfl⟩;obtain⟨Y,hY⟩: ∃Y,b1+((j:Int)-1)*21600000=Y:=⟨_,rfl⟩;have hXb: -121600000≤X∧X≤121600000:=by omega
    have hYb: -121600000≤Y∧Y≤121600000:=by omega
    rw[hg,hX,hY,←hg] at HPd;clear hg;obtain⟨F,hF⟩: ∃F,F=prF (a0,a1) (b0,b1) j:=⟨_,rfl⟩;rw[←hF] at HO HC hfl;clear hF;obtain⟨ltA,c0,c1,-,-⟩:=HA.out;obtain⟨ltB,d0,d1,-,-⟩:=HB.out;have hz:=hbr.size;have hz2:w.heap.size+2≤wr.heap.size:=by omega
    go_upto_region 6 with (fail)
    clear d0 d1;obtain⟨W6,hW6⟩: ∃W6,W6=wr.alloc (.cells #[vi vk X,vi vk Y] 33):=⟨_,rfl⟩;have HA6:=hid (HA.out.alloc (.cells #[vi vk X,vi vk Y] 33));have HB6:=hid (HB.out.alloc (.cells #[vi vk X,vi vk Y] 33));have HO6:=hid (HO.out.alloc (.cells #[vi vk X,vi vk Y] 33));have HX6:=hid (K2.new wr X Y 33);have B6:=hid (hbr.alloc hz (.cells #[vi vk X,vi vk Y] 33));have O6:=hid ((Below.refl (w.heap.size+2) wr).alloc hz2 (.cells #[vi vk X,vi vk Y] 33));rw[←hW6] at HA6 HB6 HO6 HX6 B6 O6;simp only[←hW6];obtain⟨g6,hg6⟩: ∃g6,g6=wr.heap.size:=⟨_,rfl⟩;simp only[←hg6];rw[←hg6] at HX6 hz2;have hgw:wr.heap.size≤g6:=by omega
    clear hW6 c0 c1 ltA ltB hg6;have hne1: ¬w.heap.size=g6:=by omega
    have hne2: ¬g6=w.heap.size:=by omega
    obtain⟨ltA,c0,c1,-,-⟩:=HA6.out;obtain⟨ltX,x0,x1,xf0,xf1⟩:=HX6.out;have hfar: ∀q,u5.ownBlock=some q→q≠g6:=fun q hq=>by have:=own_lt' HO.out hq;omega
    have HF:=hid hfar;clear hfar;by_cases d1:X<a0
    · by_cases d2:a1<Y
      · have m1:max X a0=a0:=by omega
        have m2:min Y a1=a1:=by omega
        rw[m1,m2] at HPd;clear m1 m2;have hR7:=hid ((own_far (i:=1) (u:=vi vk a1) (own_far (i:=0) (u:=vi vk a0) HO6.out HF.out) HF.out));have hO7:=hid (((O6.out.setCell (p:=⟨g6,0,none⟩) hz2 (vi vk a0)).setCell (p:=⟨g6,1,none⟩) hz2 (vi vk a1)));by_cases c3:a0≤a1
        · rw[if_pos c3] at HPd
          go_wp2_with (at_builtin;(refine wpList_append_any _ rfl (.tmp 46) (.tmp 48) _ rfl (w.heap.size+2) 33 i0 _ 2 16 underlying102 hi0 hz0 hz1 hzb rfl dc_ u5 _ _ rfl (hR7.out.alloc _) (W6.heap.size+1) (some ⟨W6.heap.size,0,none⟩) 1 1 (spv (a0,a1)) rfl (by simpa using sreads_new ((W6.setCell ⟨g6,0,none⟩ (vi vk a0)).setCell ⟨g6,1,none⟩ (vi vk a1)) a0 a1 33) (spv_one _) (by simp only[maxLen];omega) om_ (by simp;omega) ?_);intro v6 w6 hown6 hg7 hat6);have hO8:=(hO7.out.alloc (by first|omega|(simp;omega)) (.cells #[vi vk a0,vi vk a1] 33)).grown hg7 (by simp;omega) (own_base HO.out);go_roundw
          case rel=>exact⟨j+1,om_,by go_num,by rw[HC.out,HPd.out,spvs_append,List.length_append];exact hown6,HA.out.below hO8 om_,HB.out.below hO8 om_,hbr.trans (hO8.mono om_)⟩
          case measure=>simp[intOf];omega
        · rw[if_neg c3] at HPd
          go_wp2;go_roundw
          case rel=>exact⟨j+1,om_,by go_num,by rw[HC.out,HPd.out,List.append_nil];exact hR7.out,HA.out.below hO7.out om_,HB.out.below hO7.out om_,hbr.trans (hO7.out.mono om_)⟩
          case measure=>simp[intOf];omega
      · have m1:max X a0=a0:=by omega
        have m2:min Y a1=Y:=by omega
        rw[m1,m2] at HPd;clear m1 m2;have hR7:=hid ((own_far (i:=0) (u:=vi vk a0) HO6.out HF.out));have hO7:=hid ((O6.out.setCell (p:=⟨g6,0,none⟩) hz2 (vi vk a0)));by_cases c3:a0≤Y
        · rw[if_pos c3] at HPd
          go_wp2_with (at_builtin;(refine wpList_append_any _ rfl (.tmp 46) (.tmp 48) _ rfl (w.heap.size+2) 33 i0 _ 2 16 underlying102 hi0 hz0 hz1 hzb rfl dc_ u5 _ _ rfl (hR7.out.alloc _) (W6.heap.size+1) (some ⟨W6.heap.size,0,none⟩) 1 1 (spv (a0,Y)) rfl (by simpa using sreads_new (W6.setCell ⟨g6,0,none⟩ (vi vk a0)) a0 Y 33) (spv_one _) (by simp only[maxLen];omega) om_ (by simp;omega) ?_);intro v6 w6 hown6 hg7 hat6);have hO8:=(hO7.out.alloc (by first|omega|(simp;omega)) (.cells #[vi vk a0,vi vk Y] 33)).grown hg7 (by simp;omega) (own_base HO.out);go_roundw
          case rel=>exact⟨j+1,om_,by go_num,by rw[HC.out,HPd.out,spvs_append,List.length_append];exact hown6,HA.out.below hO8 om_,HB.out.below hO8 om_,hbr.trans (hO8.mono om_)⟩
          case measure=>simp[intOf];omega
        · rw[if_neg c3] at HPd
          go_wp2;go_roundw
          case rel=>exact⟨j+1,om_,by go_num,by rw[HC.out,HPd.out,List.append_nil];exact hR7.out,HA.out.below hO7.out om_,HB.out.below hO7.out om_,hbr.trans (hO7.out.mono om_)⟩
          case measure=>simp[intOf];omega
    · by_cases d2:a1<Y
      · have m1:max X a0=X:=by omega
        have m2:min Y a1=a1:=by omega
        rw[m1,m2] at HPd;clear m1 m2;have hR7:=hid ((own_far (i:=1) (u:=vi vk a1) HO6.out HF.out));have hO7:=hid ((O6.out.setCell (p:=⟨g6,1,none⟩) hz2 (vi vk a1)));by_cases c3:X≤a1
        · rw[if_pos c3] at HPd
          go_wp2_with (at_builtin;(refine wpList_append_any _ rfl (.tmp 46) (.tmp 48) _ rfl (w.heap.size+2) 33 i0 _ 2 16 underlying102 hi0 hz0 hz1 hzb rfl dc_ u5 _ _ rfl (hR7.out.alloc _) (W6.heap.size+1) (some ⟨W6.heap.size,0,none⟩) 1 1 (spv (X,a1)) rfl (by simpa using sreads_new (W6.setCell ⟨g6,1,none⟩ (vi vk a1)) X a1 33) (spv_one _) (by simp only[maxLen];omega) om_ (by simp;omega) ?_);intro v6 w6 hown6 hg7 hat6);have hO8:=(hO7.out.alloc (by first|omega|(simp;omega)) (.cells #[vi vk X,vi vk a1] 33)).grown hg7 (by simp;omega) (own_base HO.out);go_roundw
          case rel=>exact⟨j+1,om_,by go_num,by rw[HC.out,HPd.out,spvs_append,List.length_append];exact hown6,HA.out.below hO8 om_,HB.out.below hO8 om_,hbr.trans (hO8.mono om_)⟩
          case measure=>simp[intOf];omega
        · rw[if_neg c3] at HPd
          go_wp2;go_roundw
          case rel=>exact⟨j+1,om_,by go_num,by rw[HC.out,HPd.out,List.append_nil];exact hR7.out,HA.out.below hO7.out om_,HB.out.below hO7.out om_,hbr.trans (hO7.out.mono om_)⟩
          case measure=>simp[intOf];omega
      · have m1:max X a0=X:=by omega
        have m2:min Y a1=Y:=by omega
        rw[m1,m2] at HPd;clear m1 m2;have hR7:=hid (HO6.out);have hO7:=hid (O6.out);by_cases c3:X≤Y
        · rw[if_pos c3] at HPd
          go_wp2_with (at_builtin;(refine wpList_append_any _ rfl (.tmp 46) (.tmp 48) _ rfl (w.heap.size+2) 33 i0 _ 2 16 underlying102 hi0 hz0 hz1 hzb rfl dc_ u5 _ _ rfl (hR7.out.alloc _) (W6.heap.size+1) (some ⟨W6.heap.size,0,none⟩) 1 1 (spv (X,Y)) rfl (by simpa using sreads_new W6 X Y 33) (spv_one _) (by simp only[maxLen];omega) om_ (by simp;omega) ?_);intro v6 w6 hown6 hg7 hat6);have hO8:=(hO7.out.alloc (by first|omega|(simp;omega)) (.cells #[vi vk X,vi vk Y] 33)).grown hg7 (by simp;omega) (own_base HO.out);go_roundw
          case rel=>exact⟨j+1,om_,by go_num,by rw[HC.out,HPd.out,spvs_append,List.length_append];exact hown6,HA.out.below hO8 om_,HB.out.below hO8 om_,hbr.trans (hO8.mono om_)⟩
          case measure=>simp[intOf];omega
        · rw[if_neg c3] at HPd
          go_wp2;go_roundw
          case rel=>exact⟨j+1,om_,by go_num,by rw[HC.out,HPd.out,List.append_nil];exact hR7.out,HA.out.below hO7.out om_,HB.out.below hO7.out om_,hbr.trans (hO7.out.mono om_)⟩
          case measure=>simp[intOf];omega
  · obtain rfl:j=3:=by omega
    rw[←HRR.out] at HO;obtain⟨A3,c3,hv3,-,-⟩:=own_form HO.out;subst hv3;go_wp2;go_ret;exact⟨_,rfl,own_mono HO.out om_,hbr⟩
def OkR(D:List Sp):Prop:= ∀x∈D,-100000000≤x.1∧x.1≤100000000∧x.1≤x.2∧x.2≤x.1+21600000
theorem wdtR_bd(D:List Sp)(a:Int)(hD:OkR D)(k:Nat)(hk:k≤D.length):0≤wdt D a k∧wdt D a k<43200000:=by
 induction k with
 |zero=>simp[wdt]
 |succ k ih=>
  have h:=ih om_;rw[wdt_succ D a k om_]
  have:=hD (gs D k) (by have:k<D.length:=by omega
                        simp[gs,this])
  omega
def stepR(D:List Sp)(s a:Sp):Sp:=if wdt D a.1 D.length<s.2-s.1∨(wdt D a.1 D.length=s.2-s.1∧wdt D a.1 D.length<21600000∧sgA a.1<s.1) then(sgA a.1,sgA a.1+wdt D a.1 D.length) else s
def foldR(D:List Sp)(k:Nat):Sp:=(D.take k).foldl (stepR D) ((-10800000:Int),(10800000:Int))
def rarn(D:List Sp):Sp:=foldR D D.length
theorem foldR_succ(D:List Sp)(k:Nat)(hk:k<D.length):foldR D (k+1)=stepR D (foldR D k) (gs D k):=by
 unfold foldR;rw[List.take_succ_eq_append_getElem hk,List.foldl_append];simp[gs,hk]
theorem foldR_bd(D:List Sp)(hD:OkR D)(k:Nat)(hk:k≤D.length): -10800000≤(foldR D k).1∧(foldR D k).1≤10800000∧(foldR D k).1≤(foldR D k).2∧(foldR D k).2≤(foldR D k).1+43200000:=by
 induction k with
 |zero=>simp[foldR]
 |succ k ih=>
  have h:=ih om_;rw[foldR_succ D k om_];have h2:=wdtR_bd D (gs D k).1 hD D.length (Nat.le_refl _);have h3:=sgA_bd (gs D k).1;unfold stepR;split
  · simp only[]
    omega
  · exact h
theorem around08_any(A:Option Addr)(n c:Nat)(D:List Sp)(w:World)(hr:Reads w w.heap.size 2 A n (spvs D))(hn:n≤100000)(hD:OkR D):
 Calls Tryz.prog 63 #[.slice A n c] w fun e w'=>e=.returned (.agg #[vi vk (rarn D).1,vi vk (rarn D).2])∧Below w.heap.size w w':=by
 have HL:Hid (D.length=n):=hid (by have:=hr.1;rw[spvs_length] at this;omega);have HR:=hid hr;have HD:=hid hD;have KE:=hid all08_any;obtain⟨⟨r0,r1⟩,hR⟩: ∃R,R=rarn D:=⟨_,rfl⟩;rw[←hR];have HRR:=hid hR;clear hr hD hR;go_enter func63,ntmps63;go_wp2_with fail;(with_reducible refine(KE.out _).mono ?_)
 rintro e w1 ⟨rfl,hb1⟩
 have Z1:=hid ((K2.new w 0 0 33).below hb1 (by simp));have B1:=hid ((((Below.refl w.heap.size w).alloc (Nat.le_refl _) (.cells #[vi vk 0,vi vk 0] 33)).trans (hb1.mono (by simp))));have hlt1:=(Z1.out).lt;have N1:=hid (K2.new w1 (-10800000) 10800000 33);have Z2:=hid (Z1.out.alloc (.cells #[vi vk (-10800000),vi vk 10800000] 33));have B2:=hid (B1.out.alloc (by have:=B1.out.size;omega) (.cells #[vi vk (-10800000),vi vk 10800000] 33));clear Z1 B1 hb1 KE;go_wp2;go_loopw [4] (fun i wq=> ∃k:Nat,k≤n∧i=vi vk k∧K2 wq w.heap.size 0 0∧K2 wq w1.heap.size (foldR D k).1 (foldR D k).2∧Below w.heap.size w wq) (fun i _=>n-(intOf i).toNat)
 case atStart=>exact⟨0,Nat.zero_le _,rfl,Z2.out,N1.out,B2.out⟩
 case round=>
  obtain⟨k,hk,rfl,hZ,hN,hbr⟩:=hrel;clear Z2 N1 B2;have HZ:=hid hZ;have HN:=hid hN;have HB:=hid hbr;clear hZ hN hbr;by_cases hlt:k<n
  · obtain⟨b,off,rfl,hb,x0,-⟩:=SReads.elem HR.out hlt
    have hdk:=HD.out (gs D k) (by have hkl:k<D.length:=by rw[HL.out];exact hlt
                                  simp[gs,hkl])
    have HF:=hid (foldR_succ D k (by rw[HL.out];exact hlt));have HFB:=hid (foldR_bd D HD.out k (by rw[HL.out];omega));obtain⟨⟨p,q⟩,hx⟩: ∃x,x=gs D k:=⟨_,rfl⟩;rw[←hx] at x0 hdk HF;clear hx;simp only[] at x0 hdk HF;obtain⟨⟨s0,s1⟩,hs⟩: ∃s,s=foldR D k:=⟨_,rfl⟩;rw[←hs] at HF HN HFB;clear hs;simp only[] at HF HN HFB;have X0:Hid (∀W,Below w.heap.size w W→W.cell? ⟨b,off+k*2,none⟩=some (vi vk p)):=hid (fun W hW=>(hW.cell (p:=⟨b,off+k*2,none⟩) hb).trans x0);clear x0;generalize wr.heap.size=g6 at*;go_wp2;go_loopw [5,6] (fun v i wq=> ∃j:Nat,j≤n∧i=vi vk j∧v=vi vk (wdt D p j)∧K2 wq w.heap.size 0 0∧K2 wq w1.heap.size s0 s1∧Below w.heap.size w wq) (fun _ i _=>n-(intOf i).toNat)
    case atStart=>exact⟨0,Nat.zero_le _,rfl,rfl,HZ.out,HN.out,HB.out⟩
    case round=>
     obtain⟨j,hj,rfl,rfl,hZ,hN,hbq⟩:=hrel;clear HZ HN HB;have HZ:=hid hZ;have HN:=hid hN;have HB:=hid hbq;clear hZ hN hbq;by_cases hjt:j<n
     · obtain⟨b',off',e,hb',x0,x1⟩:=SReads.elem HR.out hjt
       cases e
       have hdj:=HD.out (gs D j) (by have hkl:j<D.length:=by rw[HL.out];exact hjt
                                     simp[gs,hkl])
       have HW:=hid (wdt_succ D p j (by rw[HL.out];exact hjt));have HWB:=wdtR_bd D p HD.out j (by rw[HL.out];omega);generalize gs D j=x at x0 x1 hdj HW;obtain⟨u,v⟩:=x;simp only[] at x0 x1 hdj HW;have KO:=hid (fun W=>off08_any (u-p) W);have hm:0≤(u-p)%21600000∧(u-p)%21600000<21600000:=by omega
       have n0:wrap64 (u-p)=u-p:=IntWalk.wrap64_in _ om_;generalize (u-p)%21600000=m at*;generalize wdt D p j=t at*;have n1:wrap64 (m+v)=m+v:=IntWalk.wrap64_in _ om_;have n2:wrap64 (m+v-u)=m+v-u:=IntWalk.wrap64_in _ om_;have hz:=HB.out.size;go_upto_region 9 with (fail)
       have c0: ∀s:BV wr,s.w.cell? ⟨b,off+k*2,none⟩=some (vi vk p):=fun s=>X0.out s.w (HB.out.trans (s.hb.mono hz));have c1: ∀s:BV wr,s.w.cell? ⟨b,off+j*2,none⟩=some (vi vk u):=fun s=>((HB.out.trans (s.hb.mono hz)).cell (p:=⟨b,off+j*2,none⟩) hb).trans x0;have c2: ∀s:BV wr,s.w.cell? ⟨b,off+j*2+1,none⟩=some (vi vk v):=fun s=>((HB.out.trans (s.hb.mono hz)).cell (p:=⟨b,off+j*2+1,none⟩) hb).trans x1;clear x0 x1;refine wp_region_bv wr (by kernel_rfl) (by kernel_rfl) (Below.refl _ _) ?_;(repeat (go_big_quiet_step (first|(go_at_call 94;with_reducible exact quiet_bv (KO.out _))|fail)))
       refine wpQuiet_nil ?_;intro w9 hb9;clear c0 c1 c2;by_cases hmx:t<m+v-u
       · have e1:max t (m+v-u)=m+v-u:=by omega
         rw[e1] at HW;clear e1;go_wp2;go_roundw
         case rel=>exact⟨j+1,om_,by go_num,by rw[HW.out],HZ.out.below hb9 HZ.out.lt,HN.out.below hb9 HN.out.lt,HB.out.trans (hb9.mono hz)⟩
         case measure=>simp[intOf];omega
       · have e1:max t (m+v-u)=t:=by omega
         rw[e1] at HW;clear e1;go_wp2;go_roundw
         case rel=>exact⟨j+1,om_,by go_num,by rw[HW.out],HZ.out.below hb9 HZ.out.lt,HN.out.below hb9 HN.out.lt,HB.out.trans (hb9.mono hz)⟩
         case measure=>simp[intOf];omega
     · obtain rfl:j=n:=by omega
       have hwb:=wdtR_bd D p HD.out j (by rw[HL.out];exact Nat.le_refl _);have HF2:Hid (foldR D (k+1)=if wdt D p j<s1-s0∨(wdt D p j=s1-s0∧wdt D p j<21600000∧sgA p<s0) then(sgA p,sgA p+wdt D p j) else(s0,s1)):=hid (by rw[HF.out];unfold stepR;rw[HL.out]);have KS:=hid (fun W=>sgn05_any p W);have hsb:=sgA_bd p;generalize sgA p=sg at*;generalize wdt D p j=t at*;have hfb:=HFB.out;have z0:=X0.out wr HB.out;have n3:wrap64 (sg+t)=sg+t:=IntWalk.wrap64_in _ om_;have n4:wrap64 (s1-s0)=s1-s0:=IntWalk.wrap64_in _ om_;go_wp2_with fail;(with_reducible refine(KS.out _).mono ?_)
       rintro e w5 ⟨rfl,hb5⟩
       have HZ5:=hid (HZ.out.below hb5 HZ.out.lt);have HN5:=hid (HN.out.below hb5 HN.out.lt);have HB5:=hid (HB.out.trans (hb5.mono HB.out.size));clear hb5 z0 HZ HN HB;have hsz:=HZ5.out.lt;obtain⟨nt,e0,e1,ef0,ef1⟩:=HN5.out;by_cases g1:t<s1-s0
       · rw[if_pos (.inl g1)] at HF2
         have d1:decide (t<s1-s0)=true:=decide_eq_true g1;go_wp2;go_roundw
         case rel=>exact⟨k+1,om_,by go_num,(HZ5.out.far so_ _).far so_ _,by rw[HF2.out];exact(HN5.out.set0 sg).set1 (sg+t),(HB5.out.setCell so_ _).setCell so_ _⟩
         case measure=>simp[intOf];omega
       · have d1:decide (t<s1-s0)=false:=decide_eq_false g1
         by_cases g2:t=s1-s0
         · have d2:(t==s1-s0)=true:=by simpa using g2
           by_cases g3:t<21600000
           · have d3:decide (t<21600000)=true:=decide_eq_true g3
             by_cases g4:sg<s0
             · have d4:decide (sg<s0)=true:=decide_eq_true g4
               rw[if_pos (.inr ⟨g2,g3,g4⟩)] at HF2;clear g2;go_wp2;go_roundw
               case rel=>exact⟨k+1,om_,by go_num,(HZ5.out.far so_ _).far so_ _,by rw[HF2.out];exact(HN5.out.set0 sg).set1 (sg+t),(HB5.out.setCell so_ _).setCell so_ _⟩
               case measure=>simp[intOf];omega
             · have d4:decide (sg<s0)=false:=decide_eq_false g4
               rw[if_neg (fun h=>h.elim g1 (fun h=>g4 h.2.2))] at HF2;clear g2;go_wp2;go_roundw
               case rel=>exact⟨k+1,om_,by go_num,HZ5.out,by rw[HF2.out];exact HN5.out,HB5.out⟩
               case measure=>simp[intOf];omega
           · have d3:decide (t<21600000)=false:=decide_eq_false g3
             rw[if_neg (fun h=>h.elim g1 (fun h=>g3 h.2.1))] at HF2;clear g2;go_wp2;go_roundw
             case rel=>exact⟨k+1,om_,by go_num,HZ5.out,by rw[HF2.out];exact HN5.out,HB5.out⟩
             case measure=>simp[intOf];omega
         · have d2:(t==s1-s0)=false:=by simpa using g2
           rw[if_neg (fun h=>h.elim g1 (fun h=>g2 h.1))] at HF2;go_wp2;go_roundw
           case rel=>exact⟨k+1,om_,by go_num,HZ5.out,by rw[HF2.out];exact HN5.out,HB5.out⟩
           case measure=>simp[intOf];omega
  · obtain rfl:k=n:=by omega
    have hres:rarn D=foldR D k:=by unfold rarn;rw[HL.out]
    have hres2:=HRR.out.trans hres;generalize foldR D k=s at*;obtain⟨s0,s1⟩:=s;simp only[] at HN hres2;obtain⟨rfl,rfl⟩:=Prod.mk.inj hres2;obtain⟨zt,z0,z1,zf0,zf1⟩:=HZ.out;obtain⟨nt,n0,n1,-,-⟩:=HN.out;go_wp2;refine bodyPost_ret (v:=.agg #[vi vk r0,vi vk r1]) (by simp[results,results63,go_sem, *];done) rfl ⟨rfl,?_⟩;exact(HB.out.setCell (by simp) _).setCell (by simp) _
end Go.Proofs.YtdeiofgddhbdaaaGreatDoor
