/- Plain: around a place: a level finer has no fewer cells, and each point that is no pole is covered. No program in sight. -/
import Derived.Test.YtdeiofgddhbdaaaGreatHAq
set_option linter.unusedSimpArgs false
set_option linter.unusedVariables false
set_option maxHeartbeats 4000000
set_option maxRecDepth 100000
namespace Go.Proofs.YtdeiofgddhbdaaaGreat
section
open Canon
def prt(ag su:Cl→Bool)(lev:Int):Nat→Cl→List Cl
 |0,c=>if ag c=true then[c] else[]
 |f+1,c=>if ag c=true then(if lev≤c.1∨su c=true then[c] else(kidsC c).flatMap (prt ag su lev f)) else[]
def prn(ag su:Cl→Bool)(lev:Int):Nat→Cl→Nat
 |0,_=>1
 |f+1,c=>if ag c=true then(if lev≤c.1∨su c=true then 1 else 1+((kidsC c).map (prn ag su lev f)).sum) else 1
def fuC(c:Cl):Nat:=(16-c.1).toNat
def prA(ag su:Cl→Bool)(lev:Int)(L:List Cl):List Cl:=L.flatMap fun c=>prt ag su lev (fuC c) c
def prN(ag su:Cl→Bool)(lev:Int)(L:List Cl):Nat:=(L.map fun c=>prn ag su lev (fuC c) c).sum
theorem fuC_eq{c:Cl}(hc:Vl c):c.1+((fuC c:Nat):Int)=16:=by
 have:=hc.l1;unfold fuC;omega
theorem kid_one{c:Cl}{f:Nat}(hl:c.1+((f+1:Nat):Int)=16): ∀x∈kidsC c,x.1+(f:Int)=16∧x.1=c.1+1:=by
 intro x hx;simp only[kidsC,kids,List.mem_cons,List.not_mem_nil,or_false] at hx;rcases hx with rfl|rfl|rfl|rfl<;>exact⟨so_,rfl⟩
theorem prn_pos(ag su:Cl→Bool)(lev:Int): ∀(f:Nat) (c:Cl),1≤prn ag su lev f c
 |0,_=>Nat.le_refl _
 |f+1,c=>by
  unfold prn;split
  · split<;>omega
  · exact Nat.le_refl _
theorem prt_v{ag su:Cl→Bool}{lev:Int}(h16:lev≤16): ∀(f:Nat) (c:Cl),Vl c→c.1+(f:Int)=16→AllV (prt ag su lev f c)∧(∀q,covL (prt ag su lev f c) q→covL [c] q)∧(prt ag su lev f c).length≤prn ag su lev f c∧ ∀x∈prt ag su lev f c,x.1≤max lev c.1:=by
 have one: ∀c:Cl,Vl c→AllV [c]:=fun c hc x hx=>by simp at hx;subst hx;exact hc
 intro f;induction f with
 |zero=>
  intro c hc hl;unfold prt prn;split
  · exact⟨one c hc,fun q h=>h,Nat.le_refl _,fun x hx=>by simp at hx;subst hx;omega⟩
  · exact⟨fun x hx=>(by cases hx),fun q h=>(by obtain⟨x,hx,-⟩:=h;cases hx),Nat.zero_le _,fun x hx=>(by cases hx)⟩
 |succ f ih=>
  intro c hc hl;unfold prt prn;split
  · split
    · exact⟨one c hc,fun q h=>h,Nat.le_refl _,fun x hx=>by simp at hx;subst hx;omega⟩
    · rename_i hs
      have hlt:c.1<16:=by omega
      have hkv:=kids_vl hc hlt;have hkl:=kid_one hl;have hlc:c.1<lev:=by
       have: ¬lev≤c.1:=fun h=>hs (.inl h);omega
      refine⟨fun x hx=>?_,fun q h=>?_,?_,fun x hx=>?_⟩
      · obtain⟨y,hy,hxy⟩:=List.mem_flatMap.1 hx
        exact(ih y (hkv y hy) (hkl y hy).1).1 x hxy
      · obtain⟨x,hx,hq⟩:=h
        obtain⟨y,hy,hxy⟩:=List.mem_flatMap.1 hx;have:=(ih y (hkv y hy) (hkl y hy).1).2.1 q ⟨x,hxy,hq⟩;rw[←cov_kids hc hlt];rw[cov_one] at this;exact⟨y,hy,this⟩
      · have key: ∀K:List Cl,(∀y∈K,y∈kidsC c)→(K.flatMap (prt ag su lev f)).length≤(K.map (prn ag su lev f)).sum:=by
         intro K;induction K with
         |nil=>intro _;simp
         |cons y K ihK=>
          intro hK;have h1:=(ih y (hkv y (hK y (by simp))) (hkl y (hK y (by simp))).1).2.2.1;have h2:=ihK (fun z hz=>hK z (by simp[hz]));simp only[List.flatMap_cons,List.length_append,List.map_cons,List.sum_cons];omega
        have:=key (kidsC c) (fun _ h=>h);omega
      · obtain⟨y,hy,hxy⟩:=List.mem_flatMap.1 hx
        have h1:=(ih y (hkv y hy) (hkl y hy).1).2.2.2 x hxy;have h2:=(hkl y hy).2;omega
  · exact⟨fun x hx=>(by cases hx),fun q h=>(by obtain⟨x,hx,-⟩:=h;cases hx),Nat.zero_le _,fun x hx=>(by cases hx)⟩
theorem prA_v{ag su:Cl→Bool}{lev:Int}(h16:lev≤16){L:List Cl}(hL:AllV L):AllV (prA ag su lev L)∧(∀q,covL (prA ag su lev L) q→covL L q)∧(prA ag su lev L).length≤prN ag su lev L∧L.length≤prN ag su lev L∧ ∀x∈prA ag su lev L,∃c∈L,x.1≤max lev c.1:=by
 refine⟨fun x hx=>?_,fun q h=>?_,?_,?_,fun x hx=>?_⟩
 · obtain⟨y,hy,hxy⟩:=List.mem_flatMap.1 hx
   exact(prt_v h16 _ y (hL y hy) (fuC_eq (hL y hy))).1 x hxy
 · obtain⟨x,hx,hq⟩:=h
   obtain⟨y,hy,hxy⟩:=List.mem_flatMap.1 hx;have:=(prt_v h16 _ y (hL y hy) (fuC_eq (hL y hy))).2.1 q ⟨x,hxy,hq⟩;rw[cov_one] at this;exact⟨y,hy,this⟩
 · unfold prA prN
   induction L with
   |nil=>simp
   |cons y L ih=>
    have h1:=(prt_v (ag:=ag) (su:=su) h16 _ y (hL y (by simp)) (fuC_eq (hL y (by simp)))).2.2.1;have h2:=ih (fun z hz=>hL z (by simp[hz]));simp only[List.flatMap_cons,List.length_append,List.map_cons,List.sum_cons];omega
 · unfold prN
   clear hL;induction L with
   |nil=>simp
   |cons y L ih=>
    have h1:=prn_pos ag su lev (fuC y) y;simp only[List.length_cons,List.map_cons,List.sum_cons];omega
 · obtain⟨y,hy,hxy⟩:=List.mem_flatMap.1 hx
   exact⟨y,hy,(prt_v h16 _ y (hL y hy) (fuC_eq (hL y hy))).2.2.2 x hxy⟩
def cellAt(q j:Nat):Cl:=cellB (16-j,q/4^(16-j))
theorem cov_div(c:Cl)(q:Nat):covL [c] q↔q/4^(blkOf c).1=(blkOf c).2:=by
 have hp:0<4^(blkOf c).1:=Nat.pow_pos om_;rw[cov_one,spF_blk,spT_blk];constructor
 · rintro⟨h1,h2⟩
   exact Nat.div_eq_of_lt_le h1 h2
 · intro h
   rw[←h];exact⟨Nat.div_mul_le_self _ _,by rw[Nat.mul_comm];exact Nat.lt_mul_div_succ q hp⟩
theorem cov_at{c:Cl}(hc:Vl c){q:Nat}(h:covL [c] q):c=cellAt q c.1.toNat:=by
 rw[cov_div] at h;have e:=cellB_blkOf c hc;unfold cellAt;have:(16-c.1.toNat)=(blkOf c).1:=rfl;rw[this,h,e]
theorem at_kid{c:Cl}(hc:Vl c)(h:c.1<16){q:Nat}(hq:covL [c] q):cellAt q (c.1.toNat+1)∈kidsC c∧covL [cellAt q (c.1.toNat+1)] q∧ ∀x∈kidsC c,covL [x] q→x=cellAt q (c.1.toNat+1):=by
 have key: ∀x∈kidsC c,covL [x] q→x=cellAt q (c.1.toNat+1):=by
  intro x hx hxq;have e:=cov_at (kids_vl hc h x hx) hxq;have h0:=hc.l0;have:x.1.toNat=c.1.toNat+1:=by
   simp only[kidsC,kids,List.mem_cons,List.not_mem_nil,or_false] at hx;rcases hx with rfl|rfl|rfl|rfl<;>(simp only[];omega)
  rw[this] at e;exact e
 obtain⟨x,hx,hxq⟩:=(cov_kids hc h q).2 hq;have hxq:=(cov_one x q).2 hxq;have e:=key x hx hxq;rw[←e];exact⟨hx,hxq,fun y hy hyq=>by rw[e];exact key y hy hyq⟩
def gop(ag su:Cl→Bool)(lev:Int)(q:Nat):Nat→Nat→Prop
 |0,j=>ag (cellAt q j)=true
 |f+1,j=>ag (cellAt q j)=true∧((lev≤(j:Int)∨su (cellAt q j)=true)∨gop ag su lev q f (j+1))
theorem prt_go{ag su:Cl→Bool}{lev:Int}(h16:lev≤16){q:Nat}: ∀(f:Nat) (c:Cl),Vl c→c.1+(f:Int)=16→covL [c] q→(covL (prt ag su lev f c) q↔gop ag su lev q f c.1.toNat):=by
 have none: ¬covL [] q:=fun h=>by obtain⟨x,hx,-⟩:=h;cases hx
 intro f;induction f with
 |zero=>
  intro c hc hl hq;unfold prt gop;rw[←cov_at hc hq];split
  · rename_i h;exact⟨fun _=>h,fun _=>hq⟩
  · rename_i h;exact⟨fun h'=>absurd h' none,fun h'=>absurd h' h⟩
 |succ f ih=>
  intro c hc hl hq;have h0:=hc.l0;have hlt:c.1<16:=by omega
  obtain⟨k1,k2,k3⟩:=at_kid hc hlt hq;unfold prt gop;rw[←cov_at hc hq,show((c.1.toNat:Nat):Int)=c.1 by omega];split
  · rename_i h
    split
    · rename_i hs;exact⟨fun _=>⟨h,.inl hs⟩,fun _=>hq⟩
    · rename_i hs
      have hv:=kids_vl hc hlt _ k1;have hf:=kid_one hl _ k1;have e:(cellAt q (c.1.toNat+1)).1.toNat=c.1.toNat+1:=by have:=hf.2;omega
      have IH:=ih _ hv hf.1 k2;rw[e] at IH;rw[←IH];constructor
      · rintro⟨x,hx,hxq⟩
        obtain⟨y,hy,hxy⟩:=List.mem_flatMap.1 hx;have hyv:=kids_vl hc hlt y hy;have hyq:=(prt_v h16 f y hyv (kid_one hl y hy).1).2.1 q ⟨x,hxy,hxq⟩;have:=k3 y hy hyq;subst this;exact⟨h,.inr ⟨x,hxy,hxq⟩⟩
      · rintro⟨-,h'|h'⟩
        · exact absurd h' hs
        · obtain⟨x,hx,hxq⟩:=h'
          exact⟨x,List.mem_flatMap.2 ⟨_,k1,hx⟩,hxq⟩
  · rename_i h;exact⟨fun h'=>absurd h' none,fun h'=>absurd h'.1 h⟩
theorem prA_go{ag su:Cl→Bool}{lev:Int}(h16:lev≤16){L:List Cl}(hL:AllV L){q:Nat}:covL (prA ag su lev L) q↔ ∃r∈L,covL [r] q∧gop ag su lev q (fuC r) r.1.toNat:=by
 constructor
 · rintro⟨x,hx,hxq⟩
   obtain⟨y,hy,hxy⟩:=List.mem_flatMap.1 hx;have hyq:=(prt_v h16 _ y (hL y hy) (fuC_eq (hL y hy))).2.1 q ⟨x,hxy,hxq⟩;exact⟨y,hy,hyq,(prt_go h16 _ y (hL y hy) (fuC_eq (hL y hy)) hyq).1 ⟨x,hxy,hxq⟩⟩
 · rintro⟨y,hy,hyq,hg⟩
   obtain⟨x,hx,hxq⟩:=(prt_go h16 _ y (hL y hy) (fuC_eq (hL y hy)) hyq).2 hg;exact⟨x,List.mem_flatMap.2 ⟨y,hy,hx⟩,hxq⟩
theorem gop_mono{ag su ag' su':Cl→Bool}{lev lev':Int}{q:Nat}(hl:lev≤lev')(ha: ∀x,ag' x=true→ag x=true)(hs: ∀x,su' x=true→su x=true): ∀(f j:Nat),gop ag' su' lev' q f j→gop ag su lev q f j
 |0,_,h=>ha _ h
 |f+1,j,h=>by
  obtain⟨h1,h2⟩:=h;refine⟨ha _ h1,?_⟩;rcases h2 with (h2|h2)|h2
  · exact .inl (.inl om_)
  · exact .inl (.inr (hs _ h2))
  · exact .inr (gop_mono hl ha hs f (j+1) h2)
theorem prA_less{ag su ag' su':Cl→Bool}{lev lev':Int}(h16:lev'≤16)(hl:lev≤lev')(ha: ∀x,ag' x=true→ag x=true)(hs: ∀x,su' x=true→su x=true){L:List Cl}(hL:AllV L){q:Nat}(h:covL (prA ag' su' lev' L) q):covL (prA ag su lev L) q:=by
 rw[prA_go h16 hL] at h;rw[prA_go om_ hL];obtain⟨r,hr,hq,hg⟩:=h;exact⟨r,hr,hq,gop_mono hl ha hs _ _ hg⟩
theorem can_great{X:List Cl}{y z:Cl}(hy:y∈canonC (covL X))(hyv:Vl y)(hz:Vl z){q0:Nat}(h1:covL [y] q0)(h2:covL [z] q0)(hf: ∀q,covL [z] q→covL X q):y.1≤z.1:=by
 by_cases hlt:z.1<y.1
 · exfalso
   have hm: ∃i,(blkOf y)∈canon (covL X) 16 i:=by
    unfold canonC at hy;obtain⟨b,hb,e⟩:=List.mem_map.1 hy;have hb16:b.1≤16:=by
     rcases List.mem_append.1 hb with h|h
     · exact((mem_canon (covL X) 16 0 b.1 b.2).1 h).1
     · exact((mem_canon (covL X) 16 1 b.1 b.2).1 h).1
    rw[←e,blkOf_cellB b hb16];rcases List.mem_append.1 hb with h|h
    · exact⟨0,h⟩
    · exact⟨1,h⟩
   obtain⟨i,hm⟩:=hm;obtain⟨m1,m2,m3,m4⟩:=(mem_canon (covL X) 16 i (blkOf y).1 (blkOf y).2).1 hm;have hb:=blk_lt z hz;have y0:=hyv.l0;have y1:=hyv.l1;have z0:=hz.l0;have e1:(blkOf y).1=16-y.1.toNat:=rfl;have e2:(blkOf z).1=16-z.1.toNat:=rfl;have hkh:(blkOf y).1+1≤(blkOf z).1:=by omega
   rw[cov_div] at h1 h2;have hfull:full (covL X) (blkOf z).1 (blkOf z).2:=by
    intro q g1 g2;exact hf q ((cov_one z q).2 ⟨g1,g2⟩)
   rcases m4 with m4|m4
   · omega
   · refine m4 (full_sub hfull hkh ?_)
     rw[←h1,←h2,Nat.div_div_eq_div_mul,Nat.mul_comm 4,←Nat.pow_succ,Nat.div_div_eq_div_mul,←Nat.pow_add];congr 2
     omega
 · omega
theorem prt_leaf{ag su:Cl→Bool}{lev:Int}(h16:lev≤16){c:Cl}(hc:Vl c)(ha:ag c=true)(hs:lev≤c.1∨su c=true)(f:Nat):prt ag su lev f c=[c]:=by
 cases f with
 |zero=>unfold prt;rw[if_pos ha]
 |succ f=>unfold prt;rw[if_pos ha,if_pos hs]
theorem way{ag su:Cl→Bool}{lev:Int}(h16:lev≤16){X:List Cl}(hX:AllV X){y:Cl}(hy:y∈canonC (covL X)){q:Nat}(hyq:covL [y] q)(hqX: ∀q,covL [y] q→covL X q): ∀(f:Nat) (c:Cl),Vl c→c.1+(f:Int)=16→covL [c] q→c.1≤y.1→(∀q,covL [c] q→(covL X q↔covL (prt ag su lev f c) q))→
 ∃g:Nat,y.1+(g:Int)=16∧(∀q',covL [y] q'→(∀lev':Int,lev≤lev'→(gop ag su lev' q' f c.1.toNat↔gop ag su lev' q' g y.1.toNat)))∧(∀lev':Int,lev≤lev'→prn ag su lev' g y≤prn ag su lev' f c)∧(y.1≤max lev c.1):=by
 have hyv:=can_v X hX y hy;intro f;induction f with
 |zero=>
  intro c hc hl hq hle hcov;have e:y.1=c.1:=by have:=hyv.l1;omega
  have e2:y=c:=by rw[cov_at hyv hyq,cov_at hc hq,e]
  subst e2;exact⟨0,hl,fun _ _ _ _=>Iff.rfl,fun _ _=>Nat.le_refl _,om_⟩
 |succ f ih=>
  intro c hc hl hq hle hcov;by_cases e:y.1=c.1
  · have e2:y=c:=by rw[cov_at hyv hyq,cov_at hc hq,e]
    subst e2;exact⟨f+1,hl,fun _ _ _ _=>Iff.rfl,fun _ _=>Nat.le_refl _,om_⟩
  · have hlt:c.1<16:=by omega
    have h0:=hc.l0;have hin:=(hcov q hq).1 (hqX q hyq);have ha:ag c=true:=by
     by_cases ha:ag c=true
     · exact ha
     · unfold prt at hin
       rw[if_neg ha] at hin;obtain⟨x,hx,-⟩:=hin;cases hx
    have hs: ¬(lev≤c.1∨su c=true):=by
     intro hs;have hfull: ∀q,covL [c] q→covL X q:=by
      intro q' hq';rw[hcov q' hq',prt_leaf h16 hc ha hs];exact hq'
     have:=can_great hy hyv hc hyq hq hfull;omega
    obtain⟨k1,k2,k3⟩:=at_kid hc hlt hq;generalize hd:cellAt q (c.1.toNat+1)=d at k1 k2 k3;have hdv:=kids_vl hc hlt d k1;have hdf:=kid_one hl d k1;obtain⟨g,g1,g2,g3,g4⟩:=ih d hdv hdf.1 k2 om_ (by
     intro q' hq';have hq'c:covL [c] q':=(cov_kids hc hlt q').1 ⟨d,k1,(cov_one d q').1 hq'⟩;rw[hcov q' hq'c];conv=>lhs;unfold prt
     rw[if_pos ha,if_neg hs];obtain⟨-,-,j3⟩:=at_kid hc hlt hq'c;have ed:=j3 d k1 hq';constructor
     · rintro⟨x,hx,hxq⟩
       obtain⟨z,hz,hxz⟩:=List.mem_flatMap.1 hx;have hzq:=(prt_v h16 f z (kids_vl hc hlt z hz) (kid_one hl z hz).1).2.1 q' ⟨x,hxz,hxq⟩;have:=j3 z hz hzq;rw[←ed] at this;subst this;exact⟨x,hxz,hxq⟩
     · rintro⟨x,hx,hxq⟩
       exact⟨x,List.mem_flatMap.2 ⟨d,k1,hx⟩,hxq⟩)
    have hlc: ¬lev≤c.1:=fun h=>hs (.inl h);have hsu: ¬su c=true:=fun h=>hs (.inr h);refine⟨g,g1,fun q' hq' lev' hl'=>?_,fun lev' hl'=>?_,om_⟩
    · rw[←g2 q' hq' lev' hl']
      have hq'd:covL [d] q':=by
       have hlt2:d.1≤y.1:=by omega
       rw[cov_div] at hq' hyq k2⊢;have b1:(blkOf y).1≤(blkOf d).1:=by
        show 16-y.1.toNat≤16-d.1.toNat
        have:=hyv.l0;omega
       rw[←k2,show(blkOf d).1=(blkOf y).1+((blkOf d).1-(blkOf y).1) by omega,Nat.pow_add,←Nat.div_div_eq_div_mul,←Nat.div_div_eq_div_mul,hq',hyq]
      have hq'c:covL [c] q':=(cov_kids hc hlt q').1 ⟨d,k1,(cov_one d q').1 hq'd⟩;have e1:cellAt q' c.1.toNat=c:=(cov_at hc hq'c).symm;have e3:d.1.toNat=c.1.toNat+1:=by omega
      conv=>lhs;unfold gop
      rw[e1,e3];constructor
      · rintro⟨-,(h|h)|h⟩
        · exfalso;omega
        · exact absurd h hsu
        · exact h
      · intro h;exact⟨ha,.inr h⟩
    · refine Nat.le_trans (g3 lev' hl') ?_
      conv=>rhs;unfold prn
      rw[if_pos ha,if_neg (by rintro(h|h); · omega
                              · exact hsu h)]
      have key: ∀K:List Cl,d∈K→prn ag su lev' f d≤(K.map (prn ag su lev' f)).sum:=by
       intro K;induction K with
       |nil=>intro h;cases h
       |cons z K ihK=>
        intro h;simp only[List.map_cons,List.sum_cons];rcases List.mem_cons.1 h with rfl|h
        · omega
        · have:=ihK h;omega
      have:=key _ k1;omega
end
section
open Canon
def Srt(L:List Cl):Prop:=L.Pairwise fun x y=>spT x≤spF y
theorem sp_in{x c:Cl}{L:List Cl}(hx:x∈L)(h: ∀q,covL L q→covL [c] q):spF c≤spF x∧spT x≤spT c:=by
 have hp:=sp_pos x;have h1:=(cov_one c _).1 (h (spF x) ⟨x,hx,Nat.le_refl _,hp⟩);have h2:=(cov_one c _).1 (h (spT x-1) ⟨x,hx,om_,om_⟩);omega
theorem kids_srt{c:Cl}(hc:Vl c)(h:c.1<16):Srt (kidsC c):=by
 obtain⟨h0,h1,h2,h3⟩:=kids_sp hc h;have p1:=sp_pos (gt (kidsC c) 1);have p2:=sp_pos (gt (kidsC c) 2);have e:kidsC c=[gt (kidsC c) 0,gt (kidsC c) 1,gt (kidsC c) 2,gt (kidsC c) 3]:=rfl;rw[e];unfold Srt;simp only[List.pairwise_cons,List.mem_cons,List.not_mem_nil,or_false,forall_eq_or_imp,forall_eq,List.Pairwise.nil,and_true,false_imp_iff,implies_true];refine⟨⟨?_,?_,?_⟩,⟨?_,?_⟩,?_⟩<;>omega
theorem flat_srt{K:List Cl}{F:Cl→List Cl}(hK:Srt K)(h1: ∀x∈K,Srt (F x))(h2: ∀x∈K,∀q,covL (F x) q→covL [x] q):Srt (K.flatMap F):=by
 unfold Srt;rw[List.pairwise_flatMap];refine⟨h1,?_⟩;refine List.Pairwise.imp_of_mem (R:=fun x y=>spT x≤spF y) ?_ hK;intro a b ha hb hab x hx y hy;have:=(sp_in hx (h2 a ha)).2;have:=(sp_in hy (h2 b hb)).1;omega
theorem prt_srt{ag su:Cl→Bool}{lev:Int}(h16:lev≤16): ∀(f:Nat) (c:Cl),Vl c→c.1+(f:Int)=16→Srt (prt ag su lev f c):=by
 intro f;induction f with
 |zero=>
  intro c hc hl;unfold prt Srt;split<;>simp
 |succ f ih=>
  intro c hc hl;have hlt:c.1<16:=by omega
  unfold prt;split
  · split
    · simp[Srt]
    · exact flat_srt (kids_srt hc hlt) (fun x hx=>ih x (kids_vl hc hlt x hx) (kid_one hl x hx).1) (fun x hx=>(prt_v h16 f x (kids_vl hc hlt x hx) (kid_one hl x hx).1).2.1)
  · simp[Srt]
theorem td_srt{L:List Cl}(hL:AllV L)(hT:canonC (covL L)=L):Srt L:=by
 have h:=((td_iff hL).2 hT).2.1;rw[List.pairwise_map] at h;exact h
theorem prA_srt{ag su:Cl→Bool}{lev:Int}(h16:lev≤16){L:List Cl}(hL:AllV L)(hT:canonC (covL L)=L):Srt (prA ag su lev L):=
 flat_srt (td_srt hL hT) (fun x hx=>prt_srt h16 _ x (hL x hx) (fuC_eq (hL x hx))) (fun x hx=>(prt_v h16 _ x (hL x hx) (fuC_eq (hL x hx))).2.1)
theorem tid_step{X:List Cl}{c:Cl}(hX:AllV X)(hc:Vl c)(h: ∀q,covL X q→q<spF c):mgF ((canonC (covL X)).length+1) (canonC (covL X)++[c])=canonC (covL (X++[c])):=by
 have:=cov_ok (mt:=fun _=>true) (ins:=fun _=>true) (lev:=c.1) hc.l1 (fun x _ _ _ y _=>⟨rfl,rfl⟩) 0 c X hc (by simp) hX h;unfold covP arnL at this;simpa using this
noncomputable def tdP (X:List Cl) (k:Nat):List Cl:=canonC (covL (X.take k))
theorem tdP_zero(X:List Cl):tdP X 0=[]:=can_nil
theorem tdP_all(X:List Cl):tdP X X.length=canonC (covL X):=by unfold tdP;rw[List.take_length]
theorem tdP_succ{X:List Cl}(hX:AllV X)(hs:Srt X){k:Nat}(hk:k<X.length):mgF ((tdP X k).length+1) (tdP X k++[gt X k])=tdP X (k+1):=by
 have e:X.take (k+1)=X.take k++[gt X k]:=by
  rw[List.take_succ_eq_append_getElem hk];simp[gt,hk]
 unfold tdP;rw[e];have hgm:gt X k∈X:=by simp[gt,hk]
 refine tid_step (fun x hx=>hX x (List.mem_of_mem_take hx)) (hX _ hgm) ?_;rintro q ⟨x,hx,h1,h2⟩
 obtain⟨i,hi,rfl⟩:=List.mem_iff_getElem.1 hx;rw[List.length_take] at hi;have:=List.pairwise_iff_getElem.1 hs i k om_ hk om_;have e2:gt X k=X[k]:=by simp[gt,hk]
 rw[List.getElem_take] at h2;rw[e2];omega
theorem tdP_v{X:List Cl}(hX:AllV X)(k:Nat):AllV (tdP X k):=can_v _ fun x hx=>hX x (List.mem_of_mem_take hx)
theorem tdP_len{X:List Cl}(hX:AllV X)(k:Nat):(tdP X k).length≤k:=by
 have:=canonC_len (X.take k) (fun x hx=>hX x (List.mem_of_mem_take hx));have:=List.length_take_le k X;unfold tdP;omega
end
end Go.Proofs.YtdeiofgddhbdaaaGreat
