/- The walk of fix.Parts. -/
import Derived.Test.YtdeiofgddhbdaaaGreatDoorHGd
set_option linter.unusedSimpArgs false
set_option linter.unusedVariables false
set_option maxHeartbeats 4000000
set_option maxRecDepth 100000
open Go.RowKit
open Go.Lib (hid)
open Go.Proofs.Tryz
open Go.Value renaming int→vi
open Go.IntKind renaming i64→vk
namespace Go.Proofs.YtdeiofgddhbdaaaGreatDoor
section
def gb(D:List Bx)(k:Nat):Bx:=D.getD k (0,0,0,0)
theorem bvs_at(L:List Bx)(k:Nat)(hk:k<L.length):(bvs L)[k*4]? =some (vi vk (gb L k).1)∧(bvs L)[k*4+1]? =some (vi vk (gb L k).2.1)∧(bvs L)[k*4+2]? =some (vi vk (gb L k).2.2.1)∧(bvs L)[k*4+3]? =some (vi vk (gb L k).2.2.2):=by
 induction L generalizing k with
 |nil=>simp at hk
 |cons x r ih=>
  have hc:bvs (x::r)=vi vk x.1::vi vk x.2.1::vi vk x.2.2.1::vi vk x.2.2.2::bvs r:=rfl;rw[hc];match k with
  |0=>simp[gb]
  |k+1=>
   have:=ih k (by simpa using hk);have e:(k+1)*4=k*4+4:=by omega
   rw[e];simpa [gb] using this
theorem BReads.elem{w:World}{B n:Nat}{A:Option Addr}{D:List Bx}(h:Reads w B 4 A n (bvs D)){k:Nat}(hk:k<n):
 ∃b off,A=some ⟨b,off,none⟩∧b<B∧w.cell? ⟨b,off+k*4,none⟩=some (vi vk (gb D k).1)∧w.cell? ⟨b,off+k*4+1,none⟩=some (vi vk (gb D k).2.1)∧w.cell? ⟨b,off+k*4+2,none⟩=some (vi vk (gb D k).2.2.1)∧w.cell? ⟨b,off+k*4+3,none⟩=some (vi vk (gb D k).2.2.2):=by
 have hl:D.length=n:=by have:=h.1;rw[bvs_length] at this;omega
 obtain⟨ad,rfl,hb,hc⟩:=h.2 om_;obtain⟨b,off,spot⟩:=ad;obtain⟨z1,_⟩:=bvs_at D 0 om_;have hspot:spot=none:=by simpa [Addr.add] using World.cell?_spot (hc 0 _ (by simpa using z1))
 subst hspot;obtain⟨y1,y2,y3,y4⟩:=bvs_at D k om_;refine⟨b,off,rfl,hb,?_,?_,?_,?_⟩
 · have:=hc _ _ y1;rw[Go.WideShapes.add_plain] at this;exact this
 · have:=hc _ _ y2;rw[Go.WideShapes.add_plain] at this;exact this
 · have:=hc _ _ y3;rw[Go.WideShapes.add_plain] at this;exact this
 · have:=hc _ _ y4;rw[Go.WideShapes.add_plain] at this;exact this
theorem Reads.elem1{w:World}{B n:Nat}{A:Option Addr}{xs:List Value}(h:Reads w B 1 A n xs){k:Nat}{u:Value}(hk:xs[k]? =some u):
 ∃b off,A=some ⟨b,off,none⟩∧b<B∧w.cell? ⟨b,off+k,none⟩=some u:=by
 have hl:k<xs.length:=by
  rcases Nat.lt_or_ge k xs.length with e|e
  · exact e
  · rw[List.getElem?_eq_none e] at hk;cases hk
 have hn:0<n:=by have:=h.1;omega
 obtain⟨ad,rfl,hb,hc⟩:=h.2 hn;obtain⟨b,off,spot⟩:=ad;have z1:xs[0]? =some xs[0]:=List.getElem?_eq_getElem om_;have hspot:spot=none:=by simpa [Addr.add] using World.cell?_spot (hc 0 _ z1)
 subst hspot;refine⟨b,off,rfl,hb,?_⟩;have:=hc _ _ hk;rw[Go.WideShapes.add_plain] at this;exact this
theorem vp_bx(x:Cl)(hv:Vl x):VP (bxI x):=by
 obtain⟨h1,h2,h3,h4,h5,h6,h7,h8⟩:=box_nums hv;refine⟨?_,?_,?_,.inr ⟨?_,?_,?_,?_⟩⟩<;>(simp only[bxI];omega)
def tL(L:List Cl):Nat→Nat→Bool:=fun i k=>tchB (bxI (gt L i)) (bxI (gt L k))
def partsI(L:List Cl)(i:Nat):List (List Cl):=(PQ.prtI (PQ.cl (tL L) L.length) i).map fun P=>P.map (gt L)
def partsL(L:List Cl):List (List Cl):=partsI L L.length
def RetRws(w:World)(LL:List (List Cl))(n:Int)(e:Ending)(w':World):Prop:=
 ∃v vs,e=.returned (.tuple #[v,vi vk n])∧Rws w' w.heap.size v LL vs∧Below w.heap.size w w'
theorem RootAt.congr{W:World}{q g n:Nat}{f f':Nat→Nat}(h:RootAt W q g n f)(he: ∀j,j<n→f j=f' j):RootAt W q g n f':=
 ⟨h.box,fun j hj=>by rw[←he j hj];exact h.cell j hj,h.fr,h.ne,h.lt,h.ltq⟩
theorem RootAt.made(w:World)(n:Nat)(t t':TypeId):RootAt ((w.alloc (.cells (madeCells #[vi vk 0] n) t)).alloc (.cells #[.slice (some ⟨w.heap.size,0,none⟩) n n] t')) (w.heap.size+1) w.heap.size n (fun _=>0):=by
 have hb: ∀j,j<n→(w.alloc (.cells (madeCells #[vi vk 0] n) t)).cell? ⟨w.heap.size,j,none⟩=some (vi vk 0):=fun j hj=>by
  have h:=Blk.cell (Blk.new w t (madeCells #[vi vk 0] n)) j;rw[h];simp[madeCells,hj,Nat.mod_one]
 refine⟨by simp,fun j hj=>?_,fun j hj=>?_,om_,by simp;omega,by simp⟩
 · rw[World.cell?_alloc_lt _ _ _ (by simp)];exact hb j hj
 · exact Blk.frozen ((Blk.new w t (madeCells #[vi vk 0] n)).alloc _) j
theorem upd_lt(j k:Nat):PQ.upd (fun j=>if j<k then j else 0) k k j=if j<k+1 then j else 0:=by
 unfold PQ.upd;by_cases e:j=k
 · subst e;rw[if_pos rfl,if_pos om_]
 · rw[if_neg e]
   show(if j<k then j else 0)=_
   by_cases h:j<k
   · rw[if_pos h,if_pos om_]
   · rw[if_neg h,if_neg om_]
theorem mrg_same{c:Nat→Nat}{i k:Nat}(h:c i=c k):PQ.mrg c i k=c:=by
 funext j;unfold PQ.mrg;split<;>omega
def ivsG(D:List Nat):List Value:=D.map fun(r:Nat)=>vi vk (r:Int)
theorem ivsG_at{D:List Nat}{k r:Nat}(h:D[k]? =some r):(ivsG D)[k]? =some (vi vk (r:Int)):=by unfold ivsG;rw[List.getElem?_map,h];rfl
theorem reads1_new(w:World)(u:Value)(t:TypeId):Reads (w.alloc (.cells #[u] t)) (w.heap.size+1) 1 (some ⟨w.heap.size,0,none⟩) 1 [u]:=by
 refine⟨rfl,fun _=>⟨_,rfl,by simp,fun j x hx=>?_⟩⟩;match j,hx with
 |0,hx=>simp at hx;subst hx;simp[Addr.add]
 |j+1,hx=>simp at hx
theorem own_some{w:World}{base:Nat}{e:TypeId}{size n:Nat}{v:Value}{xs:List Value}(h:w.ownsRow base e size v n xs)(hn:0<n): ∃g cap,v=.slice (some ⟨g,0,none⟩) n cap∧base≤g∧g<w.heap.size:=by
 rcases h.2 with ⟨_,h0⟩|⟨g,cap,cur,rfl,hb,hh,_⟩
 · omega
 · exact⟨g,cap,rfl,hb,Blk.lt (show Blk w g e cur from hh)⟩
structure PSt(w1 W:World)(i:Nat)(C f:Nat→Nat)(v13 v14:Value)(LL:List (List Cl))(vs:List Value)(D:List Nat):Prop where
 r:RootAt W (w1.heap.size+1) w1.heap.size i f
 t:Rt C f i
 o:Rws W (w1.heap.size+2) v13 LL vs
 s:W.ownsRow (w1.heap.size+2) 3 1 v14 D.length (ivsG D)
 b:Below w1.heap.size w1 W
section
variable {w1 W W':World} {i:Nat} {C f f':Nat→Nat} {v13 v14:Value} {LL:List (List Cl)} {vs:List Value} {D:List Nat}
theorem Rws.mono{B B':Nat}{v:Value}(h:Rws W B v LL vs)(hb:B'≤B):Rws W B' v LL vs:=⟨own_mono h.row hb,fun k u hk=>own_mono (h.one k u hk) hb,h.ne⟩
theorem PSt.find(h:PSt w1 W i C f v13 v14 LL vs D)(hr:RootAt W' (w1.heap.size+1) w1.heap.size i f')(ht:Rt C f' i)(hg:W.grownBy W' (some w1.heap.size)):PSt w1 W' i C f' v13 v14 LL vs D:=
 ⟨hr,ht,h.o.kept hg (fun q e=>by cases e;omega),own_grown' h.s hg (fun q hq e=>by have:=own_base h.s q hq;cases e;omega),h.b.grown hg h.b.size (fun q e=>by cases e;exact Nat.le_refl _)⟩
theorem PSt.bl(h:PSt w1 W i C f v13 v14 LL vs D)(hb:Below W.heap.size W W'):PSt w1 W' i C f v13 v14 LL vs D:=
 ⟨h.r.below hb h.r.lt h.r.ltq,h.t,h.o.bl hb,own_bl h.s hb (Nat.le_refl _),h.b.trans (hb.mono h.b.size)⟩
theorem PSt.alloc(h:PSt w1 W i C f v13 v14 LL vs D)(o:Obj):PSt w1 (W.alloc o) i C f v13 v14 LL vs D:=h.bl (bl_alloc W o)
end
theorem own_Blk{w:World}{base g n cap:Nat}{e:TypeId}{size:Nat}{xs:List Value}(h:w.ownsRow base e size (.slice (some ⟨g,0,none⟩) n cap) n xs): ∃cs,Blk w g e cs:=by
 rcases h.2 with ⟨e1,_⟩|⟨g',cap',cur,e1,_,hh,_⟩
 · cases e1
 · injection e1 with e1 e2 e3
   injection e1 with e1
   injection e1 with e1
   subst e1;exact⟨cur,hh⟩
theorem ldr_pos{C:Nat→Nat}(hC:PQ.IsC C){p k:Nat}(hk:(PQ.ldr C p)[k]? =some (C p))(hlt:C p<p):k=PQ.rnk C (C p):=by
 have h5:=PQ.ldr_get C p (C p) hlt (hC.idem p);have l1:k<(PQ.ldr C p).length:=by
  rcases Nat.lt_or_ge k (PQ.ldr C p).length with e|e
  · exact e
  · rw[List.getElem?_eq_none e] at hk;cases hk
 have nd:(PQ.ldr C p).Nodup:=List.nodup_range.filter _;exact(List.getElem?_inj l1 nd).1 (hk.trans h5.symm)
theorem ldr_in{C:Nat→Nat}{p k r:Nat}(hk:(PQ.ldr C p)[k]? =some r):r<p:=(PQ.ldr_lt (List.mem_of_getElem? hk)).1
theorem ldr_none{C:Nat→Nat}(hC:PQ.IsC C){p:Nat}(h: ∀k r,k<PQ.rnk C p→(PQ.ldr C p)[k]? =some r→r≠C p):C p=p:=by
 rcases Nat.lt_or_ge (C p) p with e|e
 · have h5:=PQ.ldr_get C p (C p) e (hC.idem p)
   exact absurd rfl (h _ _ (PQ.rnk_lt C e (hC.idem p)) h5)
 · have:=hC.le p;omega
theorem tL_sym(L:List Cl)(n:Nat): ∀x y,x<n→y<n→tL L x y=tL L y x:=fun x y _ _=>tchB_comm _ _
theorem Parts_any(A:Option Addr)(n c:Nat)(L:List Cl)(w:World)(hr:Reads w w.heap.size 3 A n (cvs L))(hn:n≤maxLen):
 Calls Tryz.prog 22 #[.slice A n c] w (RetRws w (if vrB L=true then partsL L else[]) (if vrB L=true then 0 else 1)):=by
 have HL:=hid hr.len;have HR:=hid hr;have KB:=hid (boxes_any A n c L w hr hn);clear hr;cases hv:vrB L with
 |false=>
  rw[hv] at KB;simp only[Bool.false_eq_true,if_false] at KB⊢;go_enter func22,ntmps22;go_wp2;go_step3
  go_wp2_with fail;(with_reducible refine KB.out.mono ?_)
  rintro e w1 ⟨v,rfl,hown,hb1⟩
  go_wp2;try rw[Exit.noGoto_ret]
  exact bodyPost_ret (v:=.tuple #[.slice none 0 0,vi vk 1]) (by simp[results,results22,go_sem]) rfl ⟨_,_,rfl,Rws.nil _ _,hb1⟩
 |true=>
  rw[hv] at KB;simp only[if_true] at KB⊢;have hfew:n≤4000:=by rw[←HL.out];exact((vrB_iff L).1 hv).1
  have HV:Hid (∀k,k<n→VP (bxI (gt L k))):=hid fun k hk=>by
   have hk':k<L.length:=by rw[HL.out];exact hk
   exact vp_bx _ (((vrB_iff L).1 hv).2.1 _ (by simp[gt,hk']))
  have HD:Hid ((L.map bxI).length=n∧ ∀k,k<n→gb (L.map bxI) k=bxI (gt L k)):=hid ⟨by rw[List.length_map,HL.out],fun k hk=>by
   have hk':k<L.length:=by rw[HL.out];exact hk
   simp[gb,gt,hk']⟩
  clear hn hv;obtain⟨R,hRR⟩: ∃R,R=partsL L:=⟨_,rfl⟩;rw[←hRR];have HRR:=hid hRR;clear hRR;obtain⟨iI,hiI,hzI,hz1I,hzbI⟩: ∃i0,Tryz.prog.info? 3=some i0∧i0.zero=some (vi vk 0)∧i0.size=1∧i0.bytes=8:=by
   have h:(Tryz.prog.info? 3).map (fun i=>(i.zero,i.size,i.bytes))=some (some (vi vk 0),1,8):=by kernel_rfl
   obtain⟨i0,a,b,c,d⟩:=info_parts h;exact⟨i0,a,b,c,d⟩
  obtain⟨iC,hiC,hzC,hz1C,hzbC⟩:=info_parts Tryz.infoCell;obtain⟨iS,hiS,hzS,hz1S,hzbS⟩: ∃i0,Tryz.prog.info? 22=some i0∧i0.zero=some (.slice none 0 0)∧i0.size=1∧i0.bytes=24:=by
   have h:(Tryz.prog.info? 22).map (fun i=>(i.zero,i.size,i.bytes))=some (some (.slice none 0 0),1,24):=by kernel_rfl
   obtain⟨i0,a,b,c,d⟩:=info_parts h;exact⟨i0,a,b,c,d⟩
  have hmk: ∀W,(Instr.makeSlice 98 (vi vk (n:Int)) (vi vk (n:Int))).run Tryz.prog W=.ok (.slice (some ⟨W.heap.size,0,none⟩) n n) (W.alloc (.cells (madeCells #[vi vk 0] n) 3)):=fun W=>by
   have h:=run_make (P:=Tryz.prog) W 98 3 iI _ underlying98 hiI hzI .i64 .i64 n n om_ (Int.le_refl _) (by rw[hzbI];omega) om_;rw[hz1I,Int.toNat_natCast,Nat.mul_one] at h;exact h
  go_enter func22,ntmps22;go_wp2;go_step3
  go_wp2_with fail;(with_reducible refine KB.out.mono ?_)
  rintro e w1 ⟨v,rfl,hown,hb1⟩
  rw[HD.out.1] at hown;obtain⟨A1,c1,rfl,ra,-,-⟩:=own_form hown;have RA:=hid ra;have B1:=hid hb1;clear ra hown hb1 KB;have R0:=hid (RootAt.made w1 n 3 98);have D0:Hid (Below w1.heap.size w1 ((w1.alloc (.cells (madeCells #[vi vk 0] n) 3)).alloc (.cells #[.slice (some ⟨w1.heap.size,0,none⟩) n n] 98))):=hid (((Below.refl _ _).alloc (Nat.le_refl _) _).alloc (by simp) _);go_wp2;go_loopw [32] (fun s32 wq=> ∃k:Nat,k≤n∧s32=vi vk k∧RootAt wq (w1.heap.size+1) w1.heap.size n (fun j=>if j<k then j else 0)∧Below w1.heap.size w1 wq) (fun v _=>n-(intOf v).toNat)
  case atStart=>exact⟨0,Nat.zero_le _,rfl,R0.out.congr (fun j _=>by simp),D0.out⟩
  case round=>
   obtain⟨k,hk,rfl,hR,hb⟩:=hrel;clear R0 D0;have HRT:=hid hR;clear hR;by_cases hlt:k<n
   · have bx:=HRT.out.box
     have x0:=HRT.out.cell k hlt;have f0:=HRT.out.fr k hlt;go_wp2;go_roundw
     case rel=>exact⟨k+1,om_,by go_num,(HRT.out.set k k hlt).congr (fun j _=>upd_lt j k),hb.setCell (by simp) _⟩
     case measure=>simp[intOf];omega
   · obtain rfl:k=n:=by omega
     have R1:=hid (HRT.out.congr (f':=fun j=>j) (fun j hj=>by rw[if_pos hj]));have D1:=hid hb;clear HRT hb hmk;generalize wr.heap.size=g6 at*;have hs0:Hid (PQ.IsC (PQ.cl (tL L) 0)):=hid PQ.IsC.id;go_wp2;go_loopw [43] (fun s43 wq=> ∃(i:Nat) (f:Nat→Nat),i≤k∧s43=vi vk i∧RootAt wq (w1.heap.size+1) w1.heap.size k f∧Rt (PQ.cl (tL L) i) f k∧Below w1.heap.size w1 wq) (fun v _=>k-(intOf v).toNat)
     case atStart=>exact⟨0,fun j=>j,Nat.zero_le _,rfl,R1.out,⟨fun j _=>Nat.le_refl _,fun j _=>rfl,fun j _ _=>rfl⟩,D1.out⟩
     case round=>
      obtain⟨i,f,hi,rfl,hR,hT,hb⟩:=hrel;clear R1 D1;have HRT:=hid hR;have HT:=hid hT;have HB:=hid hb;clear hR hT hb;by_cases hlt:i<k
      · have eg:=enters_of func56 (by kernel_rfl) rfl
        have HOK:=hid (PQ.cl_ok (tL_sym L k) i om_);generalize wr.heap.size=g7 at*;go_wp2;go_loopw [47] (fun s47 wq=> ∃(m:Nat) (f':Nat→Nat),m≤i∧s47=vi vk m∧RootAt wq (w1.heap.size+1) w1.heap.size k f'∧Rt (PQ.row (tL L) (PQ.cl (tL L) i) i m) f' k∧Below w1.heap.size w1 wq) (fun v _=>i-(intOf v).toNat)
        case atStart=>exact⟨0,f,Nat.zero_le _,rfl,HRT.out,HT.out,HB.out⟩
        case round=>
         obtain⟨m,f',hm,rfl,hR,hT,hb⟩:=hrel;clear HRT HT HB;have HRT:=hid hR;have HT:=hid hT;have HB:=hid hb;clear hR hT hb;by_cases hmi:m<i
         · obtain⟨C,hC⟩: ∃C,C=PQ.row (tL L) (PQ.cl (tL L) i) i m:=⟨_,rfl⟩
           have HIC:Hid (PQ.IsC C):=hid (by rw[hC];exact(PQ.row_ok (tL_sym L k) HOK.out hlt m om_).1);have HS:Hid (PQ.row (tL L) (PQ.cl (tL L) i) i (m+1)=if tL L i m=true then PQ.mrg C i m else C):=hid (by rw[hC];rfl);rw[←hC] at HT;clear hC;have KF:=hid (fun(j:Nat) (hj:j<k) (f:Nat→Nat) (W:World) (hR:RootAt W (w1.heap.size+1) w1.heap.size k f) (hT:Rt C f k)=>find_any C k (w1.heap.size+1) w1.heap.size j f W hj hR hT);have hmk:m<k:=by omega
           go_wp2_with fail;(with_reducible refine(KF.out i hlt f' wr HRT.out HT.out).mono ?_)
           rintro e w5 ⟨rfl,f5,hR5,hT5,hg5⟩
           have HR5:=hid hR5;have HT5:=hid hT5;have HB5:=hid (HB.out.grown hg5 HB.out.size (fun q e=>by cases e;exact Nat.le_refl _));clear hR5 hT5 hg5 HRT HT HB;go_wp2_with fail;(with_reducible refine(KF.out m hmk f5 w5 HR5.out HT5.out).mono ?_)
           rintro e w6 ⟨rfl,f6,hR6,hT6,hg6⟩
           have HR6:=hid hR6;have HT6:=hid hT6;have HB6:=hid (HB5.out.grown hg6 HB5.out.size (fun q e=>by cases e;exact Nat.le_refl _));clear hR6 hT6 hg6 HR5 HT5 HB5;have KT:=hid (fun W=>touch_any (bxI (gt L i)).1 (bxI (gt L i)).2.1 (bxI (gt L i)).2.2.1 (bxI (gt L i)).2.2.2 (bxI (gt L m)).1 (bxI (gt L m)).2.1 (bxI (gt L m)).2.2.1 (bxI (gt L m)).2.2.2 W (HV.out i hlt) (HV.out m hmk));obtain⟨b,off,rfl,hb,p0,p1,p2,p3⟩:=BReads.elem RA.out hlt;obtain⟨b',off',e,hb',q0,q1,q2,q3⟩:=BReads.elem RA.out hmk;cases e
           rw[HD.out.2 i hlt] at p0 p1 p2 p3;rw[HD.out.2 m hmk] at q0 q1 q2 q3;have hz6:=HB6.out.size;have P0:=(HB6.out.cell (p:=⟨b,off+i*4,none⟩) hb).trans p0;have P1:=(HB6.out.cell (p:=⟨b,off+i*4+1,none⟩) hb).trans p1;have P2:=(HB6.out.cell (p:=⟨b,off+i*4+2,none⟩) hb).trans p2;have P3:=(HB6.out.cell (p:=⟨b,off+i*4+3,none⟩) hb).trans p3;have Q0:=(HB6.out.cell (p:=⟨b,off+m*4,none⟩) hb).trans q0;have Q1:=(HB6.out.cell (p:=⟨b,off+m*4+1,none⟩) hb).trans q1;have Q2:=(HB6.out.cell (p:=⟨b,off+m*4+2,none⟩) hb).trans q2;have Q3:=(HB6.out.cell (p:=⟨b,off+m*4+3,none⟩) hb).trans q3;have hb6:b<w6.heap.size:=by omega
           clear p0 p1 p2 p3 q0 q1 q2 q3;have HTL:Hid (tL L i m=tchB ((bxI (gt L i)).1,(bxI (gt L i)).2.1,(bxI (gt L i)).2.2.1,(bxI (gt L i)).2.2.2) ((bxI (gt L m)).1,(bxI (gt L m)).2.1,(bxI (gt L m)).2.2.1,(bxI (gt L m)).2.2.2)):=hid rfl;rw[←HTL.out] at KT;clear HTL;generalize (bxI (gt L i)).1=i0 at*;generalize (bxI (gt L i)).2.1=i1 at*;generalize (bxI (gt L i)).2.2.1=i2 at*;generalize (bxI (gt L i)).2.2.2=i3 at*;generalize (bxI (gt L m)).1=m0 at*;generalize (bxI (gt L m)).2.1=m1 at*;generalize (bxI (gt L m)).2.2.1=m2 at*;generalize (bxI (gt L m)).2.2.2=m3 at*;obtain⟨T,hT⟩: ∃T,T=tL L i m:=⟨_,rfl⟩;rw[←hT] at KT HS;clear hT;have hCi:C i<k:=by have:=HIC.out.le i;omega
           have hCm:C m<k:=by have:=HIC.out.le m;omega
           have HMG:=hid (fun h=>Rt.merge (i:=i) (k:=m) HT6.out HIC.out h);have HSM:=hid (fun h=>mrg_same (c:=C) (i:=i) (k:=m) h);obtain⟨x,hx⟩: ∃x,x=C i:=⟨_,rfl⟩;obtain⟨y,hy⟩: ∃y,y=C m:=⟨_,rfl⟩;rw[←hx,←hy] at HMG HSM;simp only[←hx,←hy];rw[←hx] at hCi;rw[←hy] at hCm;clear hx hy;by_cases hxy:x=y
           · subst hxy
             have nb:((x:Int) != (x:Int))=false:=by simp
             have HR7:Hid (PQ.row (tL L) (PQ.cl (tL L) i) i (m+1)=C):=hid (by rw[HS.out,HSM.out rfl];simp);clear HSM HMG HS KT;go_upto_region 18 with (fail)
             refine wp_region_bv w6 (by kernel_rfl) (by kernel_rfl) (Below.refl _ _) ?_;(repeat (go_big_quiet_step (fail)))
             refine wpQuiet_nil ?_;intro w9 hb9;clear P0 P1 P2 P3 Q0 Q1 Q2 Q3;go_wp2;go_roundw
             case rel=>exact⟨m+1,f6,om_,by go_num,HR6.out.below hb9 HR6.out.lt HR6.out.ltq,by rw[HR7.out];exact HT6.out,HB6.out.trans (hb9.mono hz6)⟩
             case measure=>simp[intOf];omega
           · have nb:((x:Int) != (y:Int))=true:=by simp;omega
             have HMG2:=hid (HMG.out hxy);clear HSM HMG;go_upto_region 18 with (fail)
             have c0: ∀s:BV w6,s.w.cell? ⟨b,off+i*4,none⟩=some (vi vk i0):=fun s=>(s.hb.cell (p:=⟨b,off+i*4,none⟩) hb6).trans P0;have c1: ∀s:BV w6,s.w.cell? ⟨b,off+i*4+1,none⟩=some (vi vk i1):=fun s=>(s.hb.cell (p:=⟨b,off+i*4+1,none⟩) hb6).trans P1;have c2: ∀s:BV w6,s.w.cell? ⟨b,off+i*4+2,none⟩=some (vi vk i2):=fun s=>(s.hb.cell (p:=⟨b,off+i*4+2,none⟩) hb6).trans P2;have c3: ∀s:BV w6,s.w.cell? ⟨b,off+i*4+3,none⟩=some (vi vk i3):=fun s=>(s.hb.cell (p:=⟨b,off+i*4+3,none⟩) hb6).trans P3;have d0: ∀s:BV w6,s.w.cell? ⟨b,off+m*4,none⟩=some (vi vk m0):=fun s=>(s.hb.cell (p:=⟨b,off+m*4,none⟩) hb6).trans Q0;have d1: ∀s:BV w6,s.w.cell? ⟨b,off+m*4+1,none⟩=some (vi vk m1):=fun s=>(s.hb.cell (p:=⟨b,off+m*4+1,none⟩) hb6).trans Q1;have d2: ∀s:BV w6,s.w.cell? ⟨b,off+m*4+2,none⟩=some (vi vk m2):=fun s=>(s.hb.cell (p:=⟨b,off+m*4+2,none⟩) hb6).trans Q2;have d3: ∀s:BV w6,s.w.cell? ⟨b,off+m*4+3,none⟩=some (vi vk m3):=fun s=>(s.hb.cell (p:=⟨b,off+m*4+3,none⟩) hb6).trans Q3;clear P0 P1 P2 P3 Q0 Q1 Q2 Q3;refine wp_region_bv w6 (by kernel_rfl) (by kernel_rfl) (Below.refl _ _) ?_;(repeat (go_big_quiet_step (first|(go_at_call 57;with_reducible exact quiet_bv (KT.out _))|fail)))
             refine wpQuiet_nil ?_;intro w9 hb9;clear c0 c1 c2 c3 d0 d1 d2 d3;have HR9:=hid (HR6.out.below hb9 HR6.out.lt HR6.out.ltq);have HB9:=hid (HB6.out.trans (hb9.mono hz6));clear hb9 HR6 HB6 hz6 hb6;cases T with
             |false=>
              have HR7:Hid (PQ.row (tL L) (PQ.cl (tL L) i) i (m+1)=C):=hid (by rw[HS.out];simp);go_wp2;go_roundw
              case rel=>exact⟨m+1,f6,om_,by go_num,HR9.out,by rw[HR7.out];exact HT6.out,HB9.out⟩
              case measure=>simp[intOf];omega
             |true=>
              have HR7:Hid (PQ.row (tL L) (PQ.cl (tL L) i) i (m+1)=PQ.mrg C i m):=hid (by rw[HS.out];simp);obtain⟨X,hX⟩: ∃X,X=max x y:=⟨_,rfl⟩;obtain⟨Y,hY⟩: ∃Y,Y=min x y:=⟨_,rfl⟩;rw[←hX,←hY] at HMG2;have mX:max (x:Int) (y:Int)=(X:Int):=by omega
              have mY:min (x:Int) (y:Int)=(Y:Int):=by omega
              have hXk:X<k:=by omega
              clear hX hY;have bx:=HR9.out.box;have x0:=HR9.out.cell X hXk;have fr0:=HR9.out.fr X hXk;go_wp2;go_roundw
              case rel=>exact⟨m+1,_,om_,by go_num,HR9.out.set X Y hXk,by rw[HR7.out];exact HMG2.out,HB9.out.setCell (by simp) _⟩
              case measure=>simp[intOf];omega
         · obtain rfl:m=i:=by omega
           go_wp2;go_roundw
           case rel=>exact⟨m+1,f',om_,by go_num,HRT.out,HT.out,HB.out⟩
           case measure=>simp[intOf];omega
      · obtain rfl:i=k:=by omega
        have eg:=enters_of func56 (by kernel_rfl) rfl;obtain⟨C,hC⟩: ∃C,C=PQ.cl (tL L) i:=⟨_,rfl⟩;have HCC:Hid (PQ.IsC C):=hid (by rw[hC];exact(PQ.cl_ok (tL_sym L i) i (Nat.le_refl _)).1);have HRP:Hid (R=(PQ.prtI C i).map fun P=>P.map (gt L)):=hid (by rw[HRR.out];unfold partsL partsI;rw[HL.out,hC]);rw[←hC] at HT;clear hC;have KF:=hid (fun(j:Nat) (hj:j<i) (f:Nat→Nat) (W:World) (hR:RootAt W (w1.heap.size+1) w1.heap.size i f) (hT:Rt C f i)=>find_any C i (w1.heap.size+1) w1.heap.size j f W hj hR hT);go_wp2;go_step3
        go_wp2;go_loopg [13,14,82] i (fun gg s13 s14 s82 wq=> ∃(p:Nat) (f':Nat→Nat) (vs:List Value),p+gg=i∧s82=vi vk p∧PSt w1 wq i C f' s13 s14 ((PQ.prtI C p).map fun P=>P.map (gt L)) vs (PQ.ldr C p))
        case atStart=>exact⟨0,f,[],om_,rfl,HRT.out,HT.out,Rws.nil _ _,own_nil _ _ _ _,HB.out⟩
        case round=>
         obtain⟨p,f',vs,hp,rfl,hP⟩:=hrel;clear HRT HT HB;have HP:=hid hP;clear hP;by_cases hlt:p<i
         · obtain⟨b,off,rfl,hb,x1,x2,x3⟩:=HR.out.elem hlt
           have hbs:=B1.out.size;have y1:=(HP.out.b.cell (p:=⟨b,off+p*3,none⟩) so_).trans ((B1.out.cell (p:=⟨b,off+p*3,none⟩) hb).trans x1);have y2:=(HP.out.b.cell (p:=⟨b,off+p*3+1,none⟩) so_).trans ((B1.out.cell (p:=⟨b,off+p*3+1,none⟩) hb).trans x2);have y3:=(HP.out.b.cell (p:=⟨b,off+p*3+2,none⟩) so_).trans ((B1.out.cell (p:=⟨b,off+p*3+2,none⟩) hb).trans x3);clear x1 x2 x3;obtain⟨X,hX⟩: ∃X,X=gt L p:=⟨_,rfl⟩;rw[←hX] at y1 y2 y3;have HX:=hid hX;clear hX;obtain⟨cl,cr,cc⟩:=X;simp only[] at y1 y2 y3;obtain⟨A5,c5,hv5,ra5,-,-⟩:=own_form HP.out.s;subst hv5;obtain⟨A6,c6,hv6,-,-,-⟩:=own_form HP.out.o.row;subst hv6;have hlen6:(List.map (fun P=>List.map (gt L) P) (PQ.prtI C p)).length=PQ.rnk C p:=by rw[List.length_map,PQ.prtI_length]
           have hrk:PQ.rnk C p≤p:=by unfold PQ.rnk;exact Nat.le_trans (List.length_filter_le _ _) (by simp)
           have HL6:=hid hlen6;have HRK:=hid hrk;obtain⟨N,hN⟩: ∃N,N=PQ.rnk C p:=⟨_,rfl⟩;have hld:(PQ.ldr C p).length=N:=hN.symm;have HN:=hid hN;rw[hld] at ra5;have hN4:N≤4000:=by omega
           rw[←hN] at hlen6;simp only[hld,hlen6];have HLD:=hid hld;clear hN hld hlen6 hrk ra5;generalize hg8:wr.heap.size=g8 at*;obtain⟨W8,hW8⟩: ∃W8,W8=wr.alloc (.cells #[vi vk cl,vi vk cr,vi vk cc] 58):=⟨_,rfl⟩;have HP8:=hid (HP.out.alloc (.cells #[vi vk cl,vi vk cr,vi vk cc] 58));rw[←hW8] at HP8;have z0:W8.cell? ⟨g8,0,none⟩=some (vi vk cl):=by rw[hW8,←hg8];simp
           have z1:W8.cell? ⟨g8,1,none⟩=some (vi vk cr):=by rw[hW8,←hg8];simp
           have z2:W8.cell? ⟨g8,2,none⟩=some (vi vk cc):=by rw[hW8,←hg8];simp
           have hz8:w1.heap.size+2≤g8∧g8<W8.heap.size:=by
            have:=HP.out.r.ltq;rw[hW8];simp;omega
           have HW8:=hid hW8;have HP7:=HP;clear hW8 HP;obtain⟨LL,hLL⟩: ∃LL,LL=List.map (fun P=>List.map (gt L) P) (PQ.prtI C p):=⟨_,rfl⟩;rw[←hLL] at HP8;have HLL:=hid hLL;have hLN:Hid (LL.length=N):=hid (by rw[hLL,List.length_map,PQ.prtI_length,←HN.out]);rw[hLN.out,HLD.out] at HP8;have HBL:Hid (Blk W8 g8 58 #[vi vk cl,vi vk cr,vi vk cc]):=hid (by rw[HW8.out,←hg8];exact Blk.new _ _ _);clear HP7 hLL;go_wp2;rw[←HW8.out];clear HW8 z0 z1 z2 y1 y2 y3 hg8;go_loopg [89] N (fun gg s89 wq=> ∃(k:Nat) (f2:Nat→Nat),k+gg=N∧s89=vi vk k∧(∀m r,m<k→(PQ.ldr C p)[m]? =some r→r≠C p)∧PSt w1 wq i C f2 (.slice A6 N c6) (.slice A5 N c5) LL vs (PQ.ldr C p)∧Blk wq g8 58 #[vi vk cl,vi vk cr,vi vk cc])
           case atStart=>exact⟨0,f',om_,rfl,fun m r h=>by omega,HP8.out,HBL.out⟩
           case round=>
            obtain⟨k,f2,hkg,rfl,hno,hP,hB⟩:=hrel;clear HP8 HBL;have HP:=hid hP;have HBL:=hid hB;have HNO:=hid hno;clear hP hB hno;have HS:Hid (wr.ownsRow (w1.heap.size+2) 3 1 (.slice A5 N c5) N (ivsG (PQ.ldr C p))):=hid (by have:=HP.out.s;rw[HLD.out] at this;exact this);by_cases hkN:k<N
            · have hkl:k<(PQ.ldr C p).length:=by rw[HLD.out];exact hkN
              obtain⟨r,hr⟩: ∃r,r=(PQ.ldr C p)[k]:=⟨_,rfl⟩;have hrk:=List.getElem?_eq_getElem hkl;rw[←hr] at hrk;have HRK2:=hid hrk;clear hr;obtain⟨b5,off5,hA5,hb5,e5⟩:=Reads.elem1 (Reads.of_own HS.out) (ivsG_at hrk);subst hA5;clear hrk;by_cases hrc:r=C p
              · subst hrc
                have hcl:C p<p:=ldr_in HRK2.out;have HK:=hid (ldr_pos HCC.out HRK2.out hcl);obtain⟨M,hM1,hM2⟩:=PQ.prtI_succ_old HCC.out (show C p≠p by omega);rw[←HK.out] at hM1 hM2;have hMl:=PQ.prtI_len _ _ _ _ hM1;have HLP:Hid (List.map (fun P=>List.map (gt L) P) (PQ.prtI C (p+1))=LL.set k (List.map (gt L) M++[gt L p])∧PQ.ldr C (p+1)=PQ.ldr C p∧gl LL k=List.map (gt L) M):=hid ⟨by rw[hM2,List.map_set,HLL.out];simp,by rw[PQ.ldr_succ,if_neg om_],by unfold gl;rw[HLL.out];simp[hM1]⟩;obtain⟨Mn,hMn⟩: ∃Mn,Mn=M.length:=⟨_,rfl⟩;rw[←hMn] at hMl;have HMN:Hid ((List.map (gt L) M).length=Mn):=hid (by rw[List.length_map,hMn]);clear hM1 hM2 hMn;go_wp2_with fail;(with_reducible refine(KF.out p hlt f2 wr HP.out.r HP.out.t).mono ?_)
                rintro e w6 ⟨rfl,f6,hR6,hT6,hg6⟩
                have HP6:=hid (HP.out.find hR6 hT6 hg6);have HB6:=hid (HBL.out.grown hg6 (fun e=>by injection e with e;omega));clear hR6 hT6 hg6 HP HBL HS;have HQ6:Hid (w6.ownsRow (w1.heap.size+2) 22 1 (.slice A6 N c6) N vs):=hid (by have:=HP6.out.o.row;rw[hLN.out] at this;exact this);obtain⟨q6,cap6,hv6,hq6,hq6l⟩:=own_some HQ6.out om_;injection hv6 with e1 e2 e3
                subst e1 e3;have hvl:vs.length=N:=by have:=HQ6.out.1;omega
                obtain⟨u,hu⟩: ∃u,vs[k]? =some u:=⟨_,List.getElem?_eq_getElem om_⟩;have hone:=HP6.out.o.one k u hu;rw[HLP.out.2.2,HMN.out] at hone;obtain⟨Au,cu,hvu,-,-⟩:=own_form hone;subst hvu;have HONE:=hid hone;have HU:=hid hu;obtain⟨o1,o2⟩:=own_cell HQ6.out k _ hu;have t0:=HB6.out.cell 0;have t1:=HB6.out.cell 1;have t2:=HB6.out.cell 2;simp only[List.getElem?_toArray,List.getElem?_cons_zero,List.getElem?_cons_succ] at t0 t1 t2;clear hone hu hvl;have gm1:Mn+1≤maxLen:=by simp only[maxLen];omega
                have gm2:(Mn+1)*24≤140737488355328:=by omega
                have gm3:w1.heap.size+2≤(w6.drew.alloc (.cells #[vi vk cl,vi vk cr,vi vk cc] 58)).heap.size:=by have:=HP6.out.r.ltq;simp;omega
                go_upto_region 31 with (fail)
                have bd6:Below w6.heap.size w6 w6.drew:=bl_drew (Below.refl _ _);have HQA:=(own_bl HQ6.out bd6 (Nat.le_refl _)).alloc (.cells #[vi vk cl,vi vk cr,vi vk cc] 58);have HOA:=(own_bl HONE.out bd6 (Nat.le_refl _)).alloc (.cells #[vi vk cl,vi vk cr,vi vk cc] 58);have HRA:Reads (w6.drew.alloc (.cells #[vi vk cl,vi vk cr,vi vk cc] 58)) (w6.heap.size+1) 3 (some ⟨w6.heap.size,0,none⟩) 1 (cv (cl,cr,cc)):=reads_new w6.drew _ _ _ _;go_region_law (refine step_app _ rfl (.tmp 104) (.tmp 106) _ rfl (w1.heap.size+2) 58 iC _ 3 24 underlying22 hiC hzC hz1C hzbC rfl dc_ (.slice Au Mn cu) Mn (cvs (List.map (gt L) M)) (by simp[Act.eval,Act.put]) HOA (w6.heap.size+1) (some ⟨w6.heap.size,0,none⟩) 1 1 (cv (cl,cr,cc)) (by simp[Act.eval,Act.put]) HRA (cv_one _) gm1 gm2 gm3 ?_;intro v7 w7 hown7 hg7 hat7;obtain⟨A7,c7,hv7,-,-⟩:=own_form hown7;subst hv7;obtain⟨o3,o4⟩:=own_cell (own_grown' HQA hg7 (fun q hq e=>own_own_ne HQA HOA tne hq e)) k _ HU.out)
                all_goals
                 have b7:=((bd6.alloc (Nat.le_refl _) (.cells #[vi vk cl,vi vk cr,vi vk cc] 58)).mono (show w1.heap.size+2≤w6.heap.size by omega)).grown hg7 gm3 (own_base HONE.out);have hrow7:=own_grown' HQA hg7 (fun q hq e=>own_own_ne HQA HOA tne hq e);obtain⟨cs7,hblk7⟩:=own_Blk hrow7;have hs7:=own_grown' ((own_bl HP6.out.s bd6 (Nat.le_refl _)).alloc (.cells #[vi vk cl,vi vk cr,vi vk cc] 58)) hg7 (fun q hq e=>own_own_ne ((own_bl HP6.out.s bd6 (Nat.le_refl _)).alloc (.cells #[vi vk cl,vi vk cr,vi vk cc] 58)) HOA dc_ hq e);have b8:=b7.setCell (p:=⟨q6,k,none⟩) hq6 (.slice A7 (Mn+1) c7);have hz6:=HP6.out.r.ltq;have hown8:w7.ownsRow (w1.heap.size+2) 58 3 (.slice A7 (Mn+1) c7) (List.map (gt L) M++[gt L p]).length (cvs (List.map (gt L) M++[gt L p])):=by
                  rw[List.length_append,HMN.out,cvs_append,←HX.out];simpa [cvs] using hown7
                 go_wp2;go_roundg (i-(p+1))
                 case measure=>omega
                 case rel=>
                  refine⟨p+1,f6,vs.set k (.slice A7 (Mn+1) c7),om_,by go_num,⟨HP6.out.r.below b8 om_ om_,HP6.out.t,?_,?_,HP6.out.b.trans (b8.mono om_)⟩⟩
                  · rw[HLP.out.1]
                    exact((HP6.out.o.bl bd6).alloc (.cells #[vi vk cl,vi vk cr,vi vk cc] 58)).grow (by rw[hLN.out]) HU.out hg7 hown8 hat7
                  · rw[HLP.out.2.1]
                    exact ownsRow_far hs7 hblk7 dc_
              · have hne:((r:Int)==(C p:Int))=false:=by simp;omega
                go_wp2_with fail;(with_reducible refine(KF.out p hlt f2 wr HP.out.r HP.out.t).mono ?_)
                rintro e w6 ⟨rfl,f6,hR6,hT6,hg6⟩
                have HP6:=hid (HP.out.find hR6 hT6 hg6);have HB6:=hid (HBL.out.grown hg6 (fun e=>by injection e with e;omega));clear hR6 hT6 hg6 HP HBL HS;go_wp2;go_roundg (N-(k+1))
                case measure=>omega
                case rel=>
                 refine⟨k+1,f6,om_,by go_num,fun m r' hm hr'=>?_,HP6.out,HB6.out⟩;by_cases e:m<k
                 · exact HNO.out m r' e hr'
                 · obtain rfl:m=k:=by omega
                   rw[HRK2.out] at hr';injection hr' with hr'
                   rw[←hr'];exact hrc
            · obtain rfl:k=N:=by omega
              have hcp:C p=p:=ldr_none HCC.out (fun m r hm h=>HNO.out m r (by rw[HN.out];exact hm) h);have KFp:=hid (KF.out p hlt f2 wr HP.out.r HP.out.t);rw[hcp] at KFp;have HCP:=hid hcp;have HLP:Hid (List.map (fun P=>List.map (gt L) P) (PQ.prtI C (p+1))=LL++[[gt L p]]∧PQ.ldr C (p+1)=PQ.ldr C p++[p]):=hid ⟨by rw[PQ.prtI_succ_new HCC.out hcp,List.map_append,HLL.out];rfl,by rw[PQ.ldr_succ,if_pos hcp]⟩;clear hcp;go_wp2_with fail;(with_reducible refine KFp.out.mono ?_)
              rintro e w6 ⟨rfl,f6,hR6,hT6,hg6⟩
              have HP6:=hid (HP.out.find hR6 hT6 hg6);have HB6:=hid (HBL.out.grown hg6 (fun e=>by injection e with e;omega));have HS6:=hid (own_grown' HS.out hg6 (fun q hq e=>by have:=own_base HS.out q hq;cases e;omega));clear hR6 hT6 hg6 HP HBL HS;have hz6:=HP6.out.r.ltq;go_wp2_with (at_builtin;first
               |(refine wpList_append_any _ rfl (.tmp 110) (.tmp 114) _ rfl (w1.heap.size+2) 3 iI _ 1 8 underlying98 hiI hzI hz1I hzbI rfl dc_ (.slice A5 k c5) k (ivsG (PQ.ldr C p)) rfl (HS6.out.alloc _) (w6.heap.size+1) (some ⟨w6.heap.size,0,none⟩) 1 1 [vi vk (p:Int)] rfl (reads1_new w6 _ _) (by simp[Value.oneCell']) (by simp only[maxLen];omega) om_ (by simp;omega) ?_;intro v7 w7 hown7 hg7 hat7;have b7:=(Below.refl (w1.heap.size+2) (w6.alloc (.cells #[vi vk (p:Int)] 3))).grown hg7 (by simp;omega) (own_base HS6.out);have HR7:=hid ((HP6.out.r.below (bl_alloc w6 (.cells #[vi vk (p:Int)] 3)) HP6.out.r.lt HP6.out.r.ltq).below b7 om_ om_);have HO7:=hid ((HP6.out.o.alloc (.cells #[vi vk (p:Int)] 3)).other (HS6.out.alloc _) dc_ dc_ hg7);have HB7:=hid ((HB6.out.alloc (.cells #[vi vk (p:Int)] 3)).grown hg7 (fun e=>own_blk_ne (HS6.out.alloc _) (HB6.out.alloc (.cells #[vi vk (p:Int)] 3)) dc_ e.symm));have D7:=hid ((HP6.out.b.alloc HP6.out.b.size (.cells #[vi vk (p:Int)] 3)).trans (b7.mono om_));have HS7:=hid hown7;have HQ7:Hid (w7.ownsRow (w1.heap.size+2) 22 1 (.slice A6 k c6) k vs):=hid (by have:=HO7.out.row;rw[hLN.out] at this;exact this);have hz7:=HR7.out.ltq;obtain⟨A7,c7,hv7,-,-⟩:=own_form hown7;subst hv7;clear hown7 hg7 hat7 b7;have t0:=HB7.out.cell 0;have t1:=HB7.out.cell 1;have t2:=HB7.out.cell 2;simp only[List.getElem?_toArray,List.getElem?_cons_zero,List.getElem?_cons_succ] at t0 t1 t2)
               |(refine wpList_append_any _ rfl (.tmp 116) (.tmp 119) _ rfl (w1.heap.size+2) 22 iS _ 1 24 underlying59 hiS hzS hz1S hzbS rfl dc_ (.slice A6 k c6) k vs rfl ((HQ7.out.alloc _).alloc _) (w7.heap.size+1+1) (some ⟨w7.heap.size+1,0,none⟩) 1 1 [.slice (some ⟨w7.heap.size,0,none⟩) 1 1] rfl (by simpa using reads1_new (w7.alloc (.cells #[vi vk cl,vi vk cr,vi vk cc] 58)) (.slice (some ⟨w7.heap.size,0,none⟩) 1 1) 22) (by simp[Value.oneCell']) (by simp only[maxLen];omega) om_ (by simp;omega) ?_;intro v8 w8 hown8 hg8 hat8)
               |fail)
              have b8:=((bl_alloc w7 (.cells #[vi vk cl,vi vk cr,vi vk cc] 58)).alloc (by simp) (.cells #[.slice (some ⟨w7.heap.size,0,none⟩) 1 1] 22)).mono (show w1.heap.size+2≤w7.heap.size by omega);have b9:=b8.grown hg8 (by simp;omega) (own_base HQ7.out);have hu:=((own_new w7 (w1.heap.size+2) 58 3 1 w7.heap.size #[vi vk cl,vi vk cr,vi vk cc] rfl om_ rfl (by simp[maxLen])).alloc (.cells #[.slice (some ⟨w7.heap.size,0,none⟩) 1 1] 22));have HQ8:=(HQ7.out.alloc (.cells #[vi vk cl,vi vk cr,vi vk cc] 58)).alloc (.cells #[.slice (some ⟨w7.heap.size,0,none⟩) 1 1] 22);have HS8:=(HS7.out.alloc (.cells #[vi vk cl,vi vk cr,vi vk cc] 58)).alloc (.cells #[.slice (some ⟨w7.heap.size,0,none⟩) 1 1] 22);have HO8:=(HO7.out.alloc (.cells #[vi vk cl,vi vk cr,vi vk cc] 58)).alloc (.cells #[.slice (some ⟨w7.heap.size,0,none⟩) 1 1] 22);go_roundg (i-(p+1))
              case measure=>omega
              case rel=>
               refine⟨p+1,f6,vs++[.slice (some ⟨w7.heap.size,0,none⟩) 1 1],om_,by go_num,⟨HR7.out.below b9 om_ om_,HP6.out.t,?_,?_,D7.out.trans (b9.mono om_)⟩⟩
               · rw[HLP.out.1]
                 refine HO8.snoc hg8 (by rw[hLN.out];exact hown8) ?_ (fun m u' hm q hq e=>?_)
                 · rw[←HX.out]
                   exact own_grown' hu hg8 (fun q hq e=>own_own_ne HQ8 hu tne e hq)
                 · have:=own_lt' (HO7.out.one m u' hm) hq
                   injection e with e
                   have e:w7.heap.size=q:=e;omega
               · rw[HLP.out.2,List.length_append,HLD.out]
                 have h9:=own_grown' HS8 hg8 (fun q hq e=>own_own_ne HQ8 HS8 dc_ e hq);simpa [ivsG] using h9
         · obtain rfl:p=i:=by omega
           have hres:=HRP.out;rw[←hres] at HP;obtain⟨A6,c6,hv6,-,-,-⟩:=own_form HP.out.o.row;subst hv6;go_wp2;try rw[Exit.noGoto_ret]
           refine bodyPost_ret (v:=.tuple #[.slice A6 R.length c6,vi vk 0]) (by simp[results,results22,go_sem]) rfl ⟨_,vs,rfl,HP.out.o.mono (by have:=B1.out.size;omega),B1.out.trans (HP.out.b.mono B1.out.size)⟩
end
end Go.Proofs.YtdeiofgddhbdaaaGreatDoor
