/- The walk of the reference's around, with how many cells there are at most. -/
import Derived.Test.YtdeiofgddhbdaaaGreatHRj
set_option linter.unusedSimpArgs false
set_option linter.unusedVariables false
set_option maxHeartbeats 4000000
set_option maxRecDepth 100000
open Go.RowKit
open Go.Lib (hid)
open Go.Proofs.Tryz
open Go.Value renaming int→vi
open Go.IntKind renaming i64→vk
namespace Go.Proofs.YtdeiofgddhbdaaaGreat
theorem puEc{p:Prop}(h:p:=by simp only[Act.put,List.setIfInBounds_toArray,List.set_cons_zero,List.set_cons_succ]):p:=h
theorem flat_take{α β:Type}(f:α→List β)(K:List α)(k:Nat):((K.take k).flatMap f).length≤(K.flatMap f).length:=by
 conv=>rhs;rw[←List.take_append_drop k K,List.flatMap_append,List.length_append]
 exact Nat.le_add_right _ _
def RaJ11(m:Int)(A9:List Cl)(W2:World)(x0 x1 x2 x3 x4 x5 x6:Value)(a:Act)(M:Nat→Bool)(a':Act)(w':World):Prop:=
 ∃(v46 v47 v48 v49 v50 v51 v52 v53 v45 v54 v55 v15 v16:Value) (u9:Value) (n9:Int) (L9:List Cl),a'=(((((((((((((a.put (some 46) v46).put (some 47) v47).put (some 48) v48).put (some 49) v49).put (some 50) v50).put (some 51) v51).put (some 52) v52).put (some 53) v53).put (some 45) v45).put (some 54) v54).put (some 55) v55).put (some 15) v15).put (some 16) v16)∧Below W2.heap.size W2 w'∧
  (M 7=true→v53=.tuple #[u9,vi vk n9]∧n9=m-(L9.length:Int)∧w'.ownsRow W2.heap.size 55 3 u9 L9.length (cvs L9)∧((0≤m-(L9.length:Int)→L9=A9)∧L9.length≤A9.length)∧((L9.length:Int)≤m+1∨L9.length≤1))∧
  (M 8=true→M 7=true∧v45=.tuple #[u9,vi vk n9])∧
  (M 9=true→M 7=true∧v54=u9)∧
  (M 10=true→M 7=true∧v55=vi vk n9)∧
  (M 11=true→M 7=true∧v15=u9)∧
  (M 12=true→M 7=true∧v16=vi vk n9)∧
  (M 0=true→v46=x0)∧
  (M 1=true→v47=x1)∧
  (M 2=true→v48=x2)∧
  (M 3=true→v49=x3)∧
  (M 4=true→v50=x4)∧
  (M 5=true→v51=x5)∧
  (M 6=true→v52=x6)
theorem RaJ11.start{m:Int}{A9:List Cl}{W2:World}{x0 x1 x2 x3 x4 x5 x6:Value}(a:Act):RaJ11 m A9 W2 x0 x1 x2 x3 x4 x5 x6 a (fun _=>false) a W2.drew:=
 ⟨_,_,_,_,_,_,_,_,_,_,_,_,_,undef,0,[],by rw[putQ_self a 46,putQ_self a 47,putQ_self a 48,putQ_self a 49,putQ_self a 50,putQ_self a 51,putQ_self a 52,putQ_self a 53,putQ_self a 45,putQ_self a 54,putQ_self a 55,putQ_self a 15,putQ_self a 16],bl_drew (Below.refl _ _),nofun,nofun,nofun,nofun,nofun,nofun,nofun,nofun,nofun,nofun,nofun,nofun,nofun⟩
def RarS(mt:Cl→Bool)(lev:Int)(f:Nat)(x:Cl)(left:Int)(w:World)(e:Ending)(w':World):Prop:=
 ∃(v:Value) (L:List Cl),e=.returned (.tuple #[v,vi vk (left-(L.length:Int))])∧w'.ownsRow w.heap.size 55 3 v L.length (cvs L)∧Below w.heap.size w w'∧((0≤left-(L.length:Int)→L=arnL mt lev f x)∧L.length≤(arnL mt lev f x).length)∧((L.length:Int)≤left+1∨L.length≤1)
def RarOk2(f:Nat):Prop:= ∀(p0 p1 p2 p3 l r c lev left:Int) (w:World),VP (p0,p1,p2,p3)→Vl (l,r,c)→l+(f:Int)=lev→lev≤16→ -1000≤left→left≤1000→
 Calls Tryz.prog 51 #[.agg #[vi vk p0,vi vk p1,vi vk p2,vi vk p3],.agg #[vi vk l,vi vk r,vi vk c],vi vk lev,vi vk left] w (RarS (mtP (p0,p1,p2,p3)) lev f (l,r,c) left w)
theorem rar_step2(f:Nat)(ih: ∀f',f=f'+1→RarOk2 f'):RarOk2 f:=by
 intro p0 p1 p2 p3 l r c lev left w hp hx hl h16 l0 l1;have hv:=(vl_iff (l,r,c)).2 hx;have KB:=fun W=>refBox_any l r c W hv;rw[show boxV l r c=.agg #[vi vk (bxI (l,r,c)).1,vi vk (bxI (l,r,c)).2.1,vi vk (bxI (l,r,c)).2.2.1,vi vk (bxI (l,r,c)).2.2.2] from rfl] at KB;obtain⟨q,hq⟩: ∃q,bxI (l,r,c)=q:=⟨_,rfl⟩;have hqv:=bx_vp hx;have hmt:mtP (p0,p1,p2,p3) (l,r,c)=meetB (p0,p1,p2,p3) q:=by unfold mtP;rw[hq]
 rw[hq] at KB hqv;clear hq;obtain⟨q0,q1,q2,q3⟩:=q;simp only[] at KB;have KM:=fun W=>meet08_any p0 p1 p2 p3 q0 q1 q2 q3 W hp hqv;rw[←hmt] at KM;have g4:=(Blk.new w 40 #[vi vk p0,vi vk p1,vi vk p2,vi vk p3]).alloc (.cells #[vi vk l,vi vk r,vi vk c] 55);have g5:=Blk.new (w.alloc (.cells #[vi vk p0,vi vk p1,vi vk p2,vi vk p3] 40)) 55 #[vi vk l,vi vk r,vi vk c];simp only[World.size_alloc] at g5;have b0:=(bl_alloc w (.cells #[vi vk p0,vi vk p1,vi vk p2,vi vk p3] 40)).alloc (by simp) (.cells #[vi vk l,vi vk r,vi vk c] 55);have KB:=hid KB;have IH:=hid ih;have HX:=hid hx;have HP:=hid hp;obtain⟨E,hE⟩: ∃E:Int,(if mtP (p0,p1,p2,p3) (l,r,c)=true then(0:Int) else 23)=E:=⟨_,rfl⟩;rw[hE] at KM;have KM:=hid KM;clear ih hx hp hmt hqv hv;go_enter func51,ntmps51;go_upto_region 1 with (fail)
 obtain⟨W2,hW2⟩: ∃W2,(w.alloc (.cells #[vi vk p0,vi vk p1,vi vk p2,vi vk p3] 40)).alloc (.cells #[vi vk l,vi vk r,vi vk c] 55)=W2:=⟨_,rfl⟩;rw[hW2] at g4 g5 b0⊢;clear hW2;have G4:=hid g4;have G5:=hid g5;have B0:=hid b0;clear g4 g5 b0;refine wp_region_inv3 (by kernel_rfl) (RaI1 (E) W2 (.agg #[vi vk p0,vi vk p1,vi vk p2,vi vk p3]) (.agg #[vi vk l,vi vk r,vi vk c]) (.agg #[vi vk q0,vi vk q1,vi vk q2,vi vk q3])) (waits_bind (by kernel_rfl)) ?start ?step ?fin
 case start=>exact RaI1.start _
 case step=>
  rintro M i o a1' w' ho hL haf ⟨v18,v19,v20,v21,v17,v22,v23,v10,v11,r0,r1,r2,r3,rfl,hT,eA,e3,e4,e5,e6,e9,e0,e1,e2⟩
  have HT:=hid hT;have EA:=hid eA;have E3:=hid e3;have E4:=hid e4;have E5:=hid e5;have E6:=hid e6;have E9:=hid e9;have E0:=hid e0;have E1:=hid e1;have E2:=hid e2;clear hT eA e3 e4 e5 e6 e9 e0 e1 e2;rcases i with _|_|_|_|_|_|_|_|_|_|i
  all_goals (simp at ho;try subst ho)
  all_goals (try simp[Region.binds] at haf)
  · have hq:=G4.out.below HT.out G4.out.lt
    have k0:=hq.cell 0;have k1:=hq.cell 1;have k2:=hq.cell 2;have k3:=hq.cell 3;simp only[List.getElem?_toArray,List.getElem?_cons_zero,List.getElem?_cons_succ] at k0 k1 k2 k3;clear hq;go_wp2;unfold RaI1;exact⟨(.agg #[vi vk p0,vi vk p1,vi vk p2,vi vk p3]),v19,v20,v21,v17,v22,v23,v10,v11,r0,r1,r2,r3,puEc,HT.out,fun h=>(by obtain⟨g9,q1,q2,q3⟩:=EA.out (by simpa [mkd] using h);exact⟨g9,q1,q2,fun h'=>q3 (by simpa [mkd] using h')⟩),kq E3,kr_ E4,kr_ E5,kr_ E6,kr_ E9,rf_,kq E1,kq E2⟩
  · have hq:=G5.out.below HT.out G5.out.lt
    have k0:=hq.cell 0;have k1:=hq.cell 1;have k2:=hq.cell 2;simp only[List.getElem?_toArray,List.getElem?_cons_zero,List.getElem?_cons_succ] at k0 k1 k2;clear hq;go_wp2;unfold RaI1;exact⟨v18,(.agg #[vi vk l,vi vk r,vi vk c]),v20,v21,v17,v22,v23,v10,v11,r0,r1,r2,r3,puEc,HT.out,fun h=>(by obtain⟨g9,q1,q2,q3⟩:=EA.out (by simpa [mkd] using h);exact⟨g9,q1,q2,fun h'=>q3 (by simpa [mkd] using h')⟩),kq E3,kr_ E4,kr_ E5,kr_ E6,kr_ E9,kq E0,rf_,kq E2⟩
  · obtain rfl:=(E1.out (by simp[haf])).symm
    go_wp2_with fail;(with_reducible refine(KB.out _).mono ?_)
    rintro e w9 ⟨rfl,hb9⟩
    go_wp2;unfold RaI1;exact⟨v18,(.agg #[vi vk l,vi vk r,vi vk c]),(.agg #[vi vk q0,vi vk q1,vi vk q2,vi vk q3]),v21,v17,v22,v23,v10,v11,r0,r1,r2,r3,puEc,HT.out.trans ((hb9).mono HT.out.size),fun h=>(by obtain⟨g9,q1,q2,q3⟩:=EA.out (by simpa [mkd] using h);exact⟨g9,q1,q2,fun h'=>(q3 (by simpa [mkd] using h')).below (hb9) (q3 (by simpa [mkd] using h')).lt⟩),kq E3,kr_ E4,kr_ E5,kr_ E6,kr_ E9,kq E0,rf_,rf_⟩
  · obtain rfl:=(E0.out (by simp[haf])).symm
    obtain rfl:=(E2.out (by simp[haf])).symm;go_wp2_with fail;(with_reducible refine(KM.out _).mono ?_)
    rintro e w9 ⟨t0,t1,t2,t3,rfl,hb9⟩
    go_wp2;unfold RaI1;exact⟨(.agg #[vi vk p0,vi vk p1,vi vk p2,vi vk p3]),v19,(.agg #[vi vk q0,vi vk q1,vi vk q2,vi vk q3]),(.tuple #[.agg #[vi vk t0,vi vk t1,vi vk t2,vi vk t3],vi vk E]),v17,v22,v23,v10,v11,t0,t1,t2,t3,puEc,HT.out.trans ((hb9).mono HT.out.size),fun h=>(by obtain⟨g9,q1,q2,q3⟩:=EA.out (by simpa [mkd] using h);exact⟨g9,q1,q2,fun h'=>(q3 (by simpa [mkd] using h')).below (hb9) (q3 (by simpa [mkd] using h')).lt⟩),fun _=>⟨rfl,trivial⟩,fun h=>(by have q:=(E4.out (by simpa [mkd] using h)).1;rw[hL] at q;cases q),fun h=>(by have q:=(E5.out (by simpa [mkd] using h)).1;rw[hL] at q;cases q),fun h=>(by have q:=(E6.out (by simpa [mkd] using h)).1;rw[hL] at q;cases q),fun h=>(by have q:=(E9.out (by simpa [mkd] using h)).1;rw[hL] at q;cases q),rf_,kq E1,rf_⟩
  · obtain⟨rfl,hpost⟩:=E3.out (by simp[haf])
    clear hpost;have hE:M 3=true:=by have q:M 3=true:=(by simp[haf]);first|exact q|exact(E3.out q).1
    go_wp2;unfold RaI1;exact⟨v18,v19,v20,(.tuple #[.agg #[vi vk r0,vi vk r1,vi vk r2,vi vk r3],vi vk E]),(.tuple #[.agg #[vi vk r0,vi vk r1,vi vk r2,vi vk r3],vi vk E]),v22,v23,v10,v11,r0,r1,r2,r3,puEc,HT.out,fun h=>(by obtain⟨g9,q1,q2,q3⟩:=EA.out (by simpa [mkd] using h);exact⟨g9,q1,q2,fun h'=>q3 (by simpa [mkd] using h')⟩),fun h=>(by have q:=E3.out (by simpa [mkd] using h);exact⟨rfl,q.2⟩),fun _=>⟨by simpa [mkd] using hE,rfl⟩,kr_ E5,kr_ E6,kr_ E9,kq E0,kq E1,kq E2⟩
  · obtain rfl:=(E4.out (by simp[haf])).2.symm
    have hE:M 3=true:=by have q:M 4=true:=(by simp[haf]);first|exact q|exact(E4.out q).1
    go_wp2;unfold RaI1;exact⟨v18,v19,v20,v21,(.tuple #[.agg #[vi vk r0,vi vk r1,vi vk r2,vi vk r3],vi vk E]),(.agg #[vi vk r0,vi vk r1,vi vk r2,vi vk r3]),v23,v10,v11,r0,r1,r2,r3,puEc,HT.out,fun h=>(by obtain⟨g9,q1,q2,q3⟩:=EA.out (by simpa [mkd] using h);exact⟨g9,q1,q2,fun h'=>q3 (by simpa [mkd] using h')⟩),kq E3,fun h=>(by have q:=E4.out (by simpa [mkd] using h);exact⟨by simpa [mkd] using q.1,rfl⟩),fun _=>⟨by simpa [mkd] using hE,rfl⟩,kr_ E6,kr_ E9,kq E0,kq E1,kq E2⟩
  · obtain rfl:=(E4.out (by simp[haf])).2.symm
    have hE:M 3=true:=by have q:M 4=true:=(by simp[haf]);first|exact q|exact(E4.out q).1
    go_wp2;unfold RaI1;exact⟨v18,v19,v20,v21,(.tuple #[.agg #[vi vk r0,vi vk r1,vi vk r2,vi vk r3],vi vk E]),v22,(vi vk E),v10,v11,r0,r1,r2,r3,puEc,HT.out,fun h=>(by obtain⟨g9,q1,q2,q3⟩:=EA.out (by simpa [mkd] using h);exact⟨g9,q1,q2,fun h'=>q3 (by simpa [mkd] using h')⟩),kq E3,fun h=>(by have q:=E4.out (by simpa [mkd] using h);exact⟨by simpa [mkd] using q.1,rfl⟩),kr_ E5,fun _=>⟨by simpa [mkd] using hE,rfl⟩,kr_ E9,kq E0,kq E1,kq E2⟩
  · have NB:=hid (Blk.new w' 40 #[vi vk 0,vi vk 0,vi vk 0,vi vk 0])
    have HB9:=hid (bl_alloc w' (.cells #[vi vk 0,vi vk 0,vi vk 0,vi vk 0] 40));go_wp2;unfold RaI1;exact⟨v18,v19,v20,v21,v17,v22,v23,(.pointer (some ⟨w'.heap.size,0,none⟩)),v11,r0,r1,r2,r3,puEc,HT.out.trans ((HB9.out).mono HT.out.size),fun _=>⟨_,rfl,HT.out.size,fun _=>NB.out⟩,kq E3,kr_ E4,kr_ E5,kr_ E6,kr_ E9,kq E0,kq E1,kq E2⟩
  · obtain rfl:=(E5.out (by simp[haf])).2.symm
    obtain⟨g9,rfl,hg9,hb9⟩:=EA.out (by simp[haf]);have hB9:=hb9 hL;have k0:=hB9.cell 0;have f0:=hB9.frozen 0;have k1:=hB9.cell 1;have f1:=hB9.frozen 1;have k2:=hB9.cell 2;have f2:=hB9.frozen 2;have k3:=hB9.cell 3;have f3:=hB9.frozen 3;simp only[List.getElem?_toArray,List.getElem?_cons_zero,List.getElem?_cons_succ] at k0 k1 k2 k3;clear hB9 hb9;go_wp2;unfold RaI1;exact⟨v18,v19,v20,v21,v17,(.agg #[vi vk r0,vi vk r1,vi vk r2,vi vk r3]),v23,(.pointer (some ⟨g9,0,none⟩)),v11,r0,r1,r2,r3,puEc,(((HT.out.setCell hg9 _).setCell hg9 _).setCell hg9 _).setCell hg9 _,fun _=>⟨g9,rfl,hg9,fun h=>(by simp[mkd] at h)⟩,kq E3,kr_ E4,fun h=>(by have q:=E5.out (by simpa [mkd] using h);exact⟨by simpa [mkd] using q.1,rfl⟩),kr_ E6,kr_ E9,kq E0,kq E1,kq E2⟩
  · obtain rfl:=(E6.out (by simp[haf])).2.symm
    have hE:M 3=true:=by have q:M 6=true:=(by simp[haf]);first|exact q|exact(E6.out q).1
    go_wp2;unfold RaI1;exact⟨v18,v19,v20,v21,v17,v22,(vi vk E),v10,(vi vk E),r0,r1,r2,r3,puEc,HT.out,fun h=>(by obtain⟨g9,q1,q2,q3⟩:=EA.out (by simpa [mkd] using h);exact⟨g9,q1,q2,fun h'=>q3 (by simpa [mkd] using h')⟩),kq E3,kr_ E4,kr_ E5,fun h=>(by have q:=E6.out (by simpa [mkd] using h);exact⟨by simpa [mkd] using q.1,rfl⟩),fun _=>⟨by simpa [mkd] using hE,rfl⟩,kq E0,kq E1,kq E2⟩
 case fin=>
  rintro M a1' w1 hall ⟨v18,v19,v20,v21,v17,v22,v23,v10,v11,r0,r1,r2,r3,rfl,hT,eA,e3,e4,e5,e6,e9,e0,e1,e2⟩
  obtain rfl:=(e0 (hall 0 dc_)).symm;obtain rfl:=(e1 (hall 1 dc_)).symm;obtain rfl:=(e2 (hall 2 dc_)).symm;obtain⟨rfl,hpost⟩:=e3 (hall 3 dc_);obtain rfl:=(e4 (hall 4 dc_)).2.symm;obtain rfl:=(e5 (hall 5 dc_)).2.symm;obtain rfl:=(e6 (hall 6 dc_)).2.symm;obtain rfl:=(e9 (hall 9 dc_)).2.symm;obtain⟨g9,rfl,-,-⟩:=eA (hall 7 dc_);clear hpost;have B1:=hid (B0.out.trans (hT.mono B0.out.size));have G14:=hid (G4.out.below hT G4.out.lt);have g15:=G5.out.below hT G5.out.lt;have y0:w1.cell? ⟨w.heap.size+1,0,none⟩=some (vi vk l):=g15.cell 0;have y1:w1.cell? ⟨w.heap.size+1,1,none⟩=some (vi vk r):=g15.cell 1;have y2:w1.cell? ⟨w.heap.size+1,2,none⟩=some (vi vk c):=g15.cell 2;clear hT eA KB KM G4 G5 B0 g15;cases hm:mtP (p0,p1,p2,p3) (l,r,c) with
  |false=>
   rw[hm] at hE;simp only[Bool.false_eq_true,if_false] at hE;subst hE;have hA:arnL (mtP (p0,p1,p2,p3)) lev f (l,r,c)=[]:=by cases f<;>(unfold arnL;rw[hm];simp)
   have HA:=hid hA;clear hm hA;go_wp2;go_ret2
   exact⟨_,[],by simp,own_nil _ _ _ _,B1.out,⟨fun _=>HA.out.symm,by simp⟩,.inr (by simp)⟩
  |true=>
   rw[hm] at hE;simp only[if_true] at hE;subst hE;have HMT:=hid hm;clear hm;by_cases hll:l=lev
   · subst hll
     have hA:arnL (mtP (p0,p1,p2,p3)) l f (l,r,c)=[(l,r,c)]:=by cases f<;>(unfold arnL;rw[if_pos HMT.out,if_pos rfl])
     have HA:=hid hA;have HO:=hid (own_new w1 w.heap.size 55 3 1 _ #[vi vk l,vi vk r,vi vk c] rfl B1.out.size rfl dc_);have BB:=hid (B1.out.alloc B1.out.size (.cells #[vi vk l,vi vk r,vi vk c] 55));have hw:wrap64 (left-1)=left-1:=IntWalk.wrap64_in _ om_;clear hA;go_wp2;go_ret2
     exact⟨_,[(l,r,c)],rfl,HO.out,BB.out,⟨fun _=>HA.out.symm,by rw[HA.out];exact Nat.le_refl _⟩,.inr (by simp)⟩
   · have hbe:(l==lev)=false:=by simpa using hll
     obtain⟨f',rfl⟩: ∃f',f=f'+1:=⟨f-1,om_⟩;have IH2:=hid (IH.out f' rfl);obtain⟨v0,v1,v2,v3,v4,v5⟩:=vldB_true.1 ((vl_iff (l,r,c)).2 HX.out);have hpw:=pw_bd v1;simp only[] at v0 v1 v2 v3 v4 v5 hpw;have hl16:l<16:=by omega
     have KC:=hid (fun W=>refChildren_any l r c W v0 v1 v2 om_ v4 om_);rw[show kids l r c=kidsC (l,r,c) from rfl] at KC;have HA:Hid (arnL (mtP (p0,p1,p2,p3)) lev (f'+1) (l,r,c)=(kidsC (l,r,c)).flatMap (arnL (mtP (p0,p1,p2,p3)) lev f')):=hid (by unfold arnL;rw[if_pos HMT.out,if_neg hll]);have HKV:Hid (AllV (kidsC (l,r,c))):=hid (kids_vl HX.out hl16);have HKL:Hid (∀x∈kidsC (l,r,c),x.1+(f':Int)=lev):=hid (kid_lev (by simpa using hl));have hkn:(kidsC (l,r,c)).length=4:=rfl;obtain⟨i0,hi0,hz0,hz1,hzb⟩:=info_parts Tryz.infoCell;generalize kidsC (l,r,c)=K at KC HA HKV HKL hkn;clear v0 v1 v2 v3 v4 v5 hpw hl hll IH HMT;go_wp2_with fail;(with_reducible refine(KC.out _).mono ?_)
     rintro e w3 ⟨vk,rfl,hownk,hb3⟩
     rw[hkn] at hownk;obtain⟨Ak,ck,rfl,hrk,-,-⟩:=own_form hownk;have RK:=hid hrk;have B3:=hid (B1.out.trans (hb3.mono B1.out.size));have G34:=hid (G14.out.below hb3 G14.out.lt);clear hownk hrk hb3 B1 G14 y0 y1 y2 KC;go_wp2;go_loopg [3,13,14,15,16] 4 (fun gz s3 s13 s14 s15 s16 wr=> ∃(k:Nat) (L:List Cl) (u:Value),k≤4∧k+gz=4∧s14=vi vk k∧s3=vi vk (left-(L.length:Int))∧s13=u∧wr.ownsRow w3.heap.size 55 3 u L.length (cvs L)∧Below w3.heap.size w3 wr∧((0≤left-(L.length:Int)→L=(K.take k).flatMap (arnL (mtP (p0,p1,p2,p3)) lev f'))∧L.length≤((K.take k).flatMap (arnL (mtP (p0,p1,p2,p3)) lev f')).length)∧((L.length:Int)≤left+1∨L.length≤1))
     case atStart=>exact⟨0,[],_,om_,om_,rfl,by simp,rfl,own_nil _ _ _ _,Below.refl _ _,⟨fun _=>by simp,by simp⟩,.inr (by simp)⟩
     case round=>
      obtain⟨k,L,u,hk4,hkg,rfl,rfl,rfl,hown,hbr,hall,hbd⟩:=hrel;obtain⟨m,hm⟩: ∃m:Int,left-(L.length:Int)=m:=⟨_,rfl⟩;have hLlen:L.length≤2000:=by omega
      have HOW:=hid hown;have HAL:=hid hall;have HBR:=hid hbr;have HBD:=hid hbd;rw[hm];have hmb: -2000≤m∧m≤1000:=by omega
      have HM:=hid hm;clear hown hall hbr hbd hm;by_cases hk:k<4
      · have d0:decide ((k:Int)<4)=true:=decide_eq_true om_
        by_cases hm0:0≤m
        · have d1:decide (0≤m)=true:=decide_eq_true hm0
          obtain⟨b,off,rfl,hb,x0,x1,x2⟩:=RK.out.elem hk;have hmem:gt K k∈K:=by simp[gt,show k<K.length by omega]
          have hxv:=HKV.out _ hmem;have hxl:=HKL.out _ hmem;obtain⟨x,hx'⟩: ∃x,gt K k=x:=⟨_,rfl⟩;have hgk:Hid (gt K k=x):=hid hx';rw[hx'] at x0 x1 x2 hxv hxl;clear hx' hmem;have IH3:=hid (fun W=>IH2.out p0 p1 p2 p3 x.1 x.2.1 x.2.2 lev m W HP.out hxv hxl h16 om_ om_);have X0:=hid x0;have X1:=hid x1;have X2:=hid x2;obtain⟨x_0,x_1,x_2⟩:=x;simp only[] at X0 X1 X2 IH3 hxl;clear x0 x1 x2 hxv hxl;go_upto_region 11 with (fail)
          refine wp_region_inv3 (by kernel_rfl) (RaJ11 (m) (arnL (mtP (p0,p1,p2,p3)) lev f' (x_0,x_1,x_2)) wr (.agg #[vi vk p0,vi vk p1,vi vk p2,vi vk p3]) (.slice (some ⟨b,off,none⟩) 4 ck) (vi vk (k:Int)) (.pointer (some ⟨b,off+k*3,none⟩)) (.agg #[vi vk x_0,vi vk x_1,vi vk x_2]) (vi vk lev) (vi vk m)) (waits_bind (by kernel_rfl)) ?start ?step ?fin
          case start=>exact RaJ11.start _
          case step=>
           rintro M i o a1' w' ho hL haf ⟨v46,v47,v48,v49,v50,v51,v52,v53,v45,v54,v55,v15,v16,u9,n9,L9,rfl,hT,e7,e8,e9,e10,e11,e12,e0,e1,e2,e3,e4,e5,e6⟩
           have HT:=hid hT;have E7:=hid e7;have E8:=hid e8;have E9:=hid e9;have E10:=hid e10;have E11:=hid e11;have E12:=hid e12;have E0:=hid e0;have E1:=hid e1;have E2:=hid e2;have E3:=hid e3;have E4:=hid e4;have E5:=hid e5;have E6:=hid e6;clear hT e7 e8 e9 e10 e11 e12 e0 e1 e2 e3 e4 e5 e6;rcases i with _|_|_|_|_|_|_|_|_|_|_|_|_|i
           all_goals (simp at ho;try subst ho)
           all_goals (try simp[Region.binds] at haf)
           · have hw9:=HBR.out.trans (HT.out.mono HBR.out.size)
             have hq:=G34.out.below hw9 (G34.out.lt);have k0:=hq.cell 0;have k1:=hq.cell 1;have k2:=hq.cell 2;have k3:=hq.cell 3;simp only[List.getElem?_toArray,List.getElem?_cons_zero,List.getElem?_cons_succ] at k0 k1 k2 k3;clear hq hw9;go_wp2;unfold RaJ11;exact⟨(.agg #[vi vk p0,vi vk p1,vi vk p2,vi vk p3]),v47,v48,v49,v50,v51,v52,v53,v45,v54,v55,v15,v16,u9,n9,L9,puEc,HT.out,kq E7,kr_ E8,kr_ E9,kr_ E10,kr_ E11,kr_ E12,rf_,kq E1,kq E2,kq E3,kq E4,kq E5,kq E6⟩
           · go_wp2
             unfold RaJ11;exact⟨v46,(.slice (some ⟨b,off,none⟩) 4 ck),v48,v49,v50,v51,v52,v53,v45,v54,v55,v15,v16,u9,n9,L9,puEc,HT.out,kq E7,kr_ E8,kr_ E9,kr_ E10,kr_ E11,kr_ E12,kq E0,rf_,kq E2,kq E3,kq E4,kq E5,kq E6⟩
           · go_wp2
             unfold RaJ11;exact⟨v46,v47,(vi vk (k:Int)),v49,v50,v51,v52,v53,v45,v54,v55,v15,v16,u9,n9,L9,puEc,HT.out,kq E7,kr_ E8,kr_ E9,kr_ E10,kr_ E11,kr_ E12,kq E0,kq E1,rf_,kq E3,kq E4,kq E5,kq E6⟩
           · obtain rfl:=(E1.out (by simp[haf])).symm
             obtain rfl:=(E2.out (by simp[haf])).symm;go_wp2;unfold RaJ11;exact⟨v46,(.slice (some ⟨b,off,none⟩) 4 ck),(vi vk (k:Int)),(.pointer (some ⟨b,off+k*3,none⟩)),v50,v51,v52,v53,v45,v54,v55,v15,v16,u9,n9,L9,puEc,HT.out,kq E7,kr_ E8,kr_ E9,kr_ E10,kr_ E11,kr_ E12,kq E0,rf_,rf_,rf_,kq E4,kq E5,kq E6⟩
           · obtain rfl:=(E3.out (by simp[haf])).symm
             have hw9:=HBR.out.trans (HT.out.mono HBR.out.size);have k0:=(hw9.cell (p:=⟨b,off+k*3,none⟩) hb).trans X0.out;have k1:=(hw9.cell (p:=⟨b,off+k*3+1,none⟩) hb).trans X1.out;have k2:=(hw9.cell (p:=⟨b,off+k*3+2,none⟩) hb).trans X2.out;clear hw9;go_wp2;unfold RaJ11;exact⟨v46,v47,v48,(.pointer (some ⟨b,off+k*3,none⟩)),(.agg #[vi vk x_0,vi vk x_1,vi vk x_2]),v51,v52,v53,v45,v54,v55,v15,v16,u9,n9,L9,puEc,HT.out,kq E7,kr_ E8,kr_ E9,kr_ E10,kr_ E11,kr_ E12,kq E0,kq E1,kq E2,rf_,rf_,kq E5,kq E6⟩
           · go_wp2
             unfold RaJ11;exact⟨v46,v47,v48,v49,v50,(vi vk lev),v52,v53,v45,v54,v55,v15,v16,u9,n9,L9,puEc,HT.out,kq E7,kr_ E8,kr_ E9,kr_ E10,kr_ E11,kr_ E12,kq E0,kq E1,kq E2,kq E3,kq E4,rf_,kq E6⟩
           · go_wp2
             unfold RaJ11;exact⟨v46,v47,v48,v49,v50,v51,(vi vk m),v53,v45,v54,v55,v15,v16,u9,n9,L9,puEc,HT.out,kq E7,kr_ E8,kr_ E9,kr_ E10,kr_ E11,kr_ E12,kq E0,kq E1,kq E2,kq E3,kq E4,kq E5,rf_⟩
           · obtain rfl:=(E0.out (by simp[haf])).symm
             obtain rfl:=(E4.out (by simp[haf])).symm;obtain rfl:=(E5.out (by simp[haf])).symm;obtain rfl:=(E6.out (by simp[haf])).symm;go_wp2_with fail;(with_reducible refine(IH3.out _).mono ?_)
             rintro e w9 ⟨v9,L9,rfl,hown9,hb9,hall9,hbd9⟩
             have HO9:=hid hown9;have HAL9:=hid hall9;have HBD9:=hid hbd9;clear hown9 hall9 hbd9;go_wp2;unfold RaJ11;exact⟨(.agg #[vi vk p0,vi vk p1,vi vk p2,vi vk p3]),v47,v48,v49,(.agg #[vi vk x_0,vi vk x_1,vi vk x_2]),(vi vk lev),(vi vk m),(.tuple #[v9,vi vk (m-(L9.length:Int))]),v45,v54,v55,v15,v16,v9,m-(L9.length:Int),L9,puEc,HT.out.trans ((hb9).mono HT.out.size),fun _=>⟨rfl,rfl,own_mono HO9.out HT.out.size,HAL9.out,HBD9.out⟩,fun h=>(by have q:=(E8.out (by simpa [mkd] using h)).1;rw[hL] at q;cases q),fun h=>(by have q:=(E9.out (by simpa [mkd] using h)).1;rw[hL] at q;cases q),fun h=>(by have q:=(E10.out (by simpa [mkd] using h)).1;rw[hL] at q;cases q),fun h=>(by have q:=(E11.out (by simpa [mkd] using h)).1;rw[hL] at q;cases q),fun h=>(by have q:=(E12.out (by simpa [mkd] using h)).1;rw[hL] at q;cases q),rf_,kq E1,kq E2,kq E3,rf_,rf_,rf_⟩
           · obtain⟨rfl,hpost⟩:=E7.out (by simp[haf])
             clear hpost;have hE:M 7=true:=by have q:M 7=true:=(by simp[haf]);first|exact q|exact(E7.out q).1
             go_wp2;unfold RaJ11;exact⟨v46,v47,v48,v49,v50,v51,v52,(.tuple #[u9,vi vk n9]),(.tuple #[u9,vi vk n9]),v54,v55,v15,v16,u9,n9,L9,puEc,HT.out,fun h=>(by have q:=E7.out (by simpa [mkd] using h);exact⟨rfl,q.2⟩),fun _=>⟨by simpa [mkd] using hE,rfl⟩,kr_ E9,kr_ E10,kr_ E11,kr_ E12,kq E0,kq E1,kq E2,kq E3,kq E4,kq E5,kq E6⟩
           · obtain rfl:=(E8.out (by simp[haf])).2.symm
             have hE:M 7=true:=by have q:M 8=true:=(by simp[haf]);first|exact q|exact(E8.out q).1
             go_wp2;unfold RaJ11;exact⟨v46,v47,v48,v49,v50,v51,v52,v53,(.tuple #[u9,vi vk n9]),(u9),v55,v15,v16,u9,n9,L9,puEc,HT.out,kq E7,fun h=>(by have q:=E8.out (by simpa [mkd] using h);exact⟨by simpa [mkd] using q.1,rfl⟩),fun _=>⟨by simpa [mkd] using hE,rfl⟩,kr_ E10,kr_ E11,kr_ E12,kq E0,kq E1,kq E2,kq E3,kq E4,kq E5,kq E6⟩
           · obtain rfl:=(E8.out (by simp[haf])).2.symm
             have hE:M 7=true:=by have q:M 8=true:=(by simp[haf]);first|exact q|exact(E8.out q).1
             go_wp2;unfold RaJ11;exact⟨v46,v47,v48,v49,v50,v51,v52,v53,(.tuple #[u9,vi vk n9]),v54,(vi vk n9),v15,v16,u9,n9,L9,puEc,HT.out,kq E7,fun h=>(by have q:=E8.out (by simpa [mkd] using h);exact⟨by simpa [mkd] using q.1,rfl⟩),kr_ E9,fun _=>⟨by simpa [mkd] using hE,rfl⟩,kr_ E11,kr_ E12,kq E0,kq E1,kq E2,kq E3,kq E4,kq E5,kq E6⟩
           · obtain rfl:=(E9.out (by simp[haf])).2.symm
             have hE:M 7=true:=by have q:M 9=true:=(by simp[haf]);first|exact q|exact(E9.out q).1
             go_wp2;unfold RaJ11;exact⟨v46,v47,v48,v49,v50,v51,v52,v53,v45,(u9),v55,(u9),v16,u9,n9,L9,puEc,HT.out,kq E7,kr_ E8,fun h=>(by have q:=E9.out (by simpa [mkd] using h);exact⟨by simpa [mkd] using q.1,rfl⟩),kr_ E10,fun _=>⟨by simpa [mkd] using hE,rfl⟩,kr_ E12,kq E0,kq E1,kq E2,kq E3,kq E4,kq E5,kq E6⟩
           · obtain rfl:=(E10.out (by simp[haf])).2.symm
             have hE:M 7=true:=by have q:M 10=true:=(by simp[haf]);first|exact q|exact(E10.out q).1
             go_wp2;unfold RaJ11;exact⟨v46,v47,v48,v49,v50,v51,v52,v53,v45,v54,(vi vk n9),v15,(vi vk n9),u9,n9,L9,puEc,HT.out,kq E7,kr_ E8,kr_ E9,fun h=>(by have q:=E10.out (by simpa [mkd] using h);exact⟨by simpa [mkd] using q.1,rfl⟩),kr_ E11,fun _=>⟨by simpa [mkd] using hE,rfl⟩,kq E0,kq E1,kq E2,kq E3,kq E4,kq E5,kq E6⟩
          case fin=>
           rintro M a1' w9 hall ⟨v46,v47,v48,v49,v50,v51,v52,v53,v45,v54,v55,v15,v16,u9,n9,L9,rfl,hT,e7,e8,e9,e10,e11,e12,e0,e1,e2,e3,e4,e5,e6⟩
           obtain rfl:=(e0 (hall 0 dc_)).symm;obtain rfl:=(e1 (hall 1 dc_)).symm;obtain rfl:=(e2 (hall 2 dc_)).symm;obtain rfl:=(e3 (hall 3 dc_)).symm;obtain rfl:=(e4 (hall 4 dc_)).symm;obtain rfl:=(e5 (hall 5 dc_)).symm;obtain rfl:=(e6 (hall 6 dc_)).symm;obtain⟨rfl,hpost⟩:=e7 (hall 7 dc_);obtain rfl:=(e8 (hall 8 dc_)).2.symm;obtain rfl:=(e9 (hall 9 dc_)).2.symm;obtain rfl:=(e10 (hall 10 dc_)).2.symm;obtain rfl:=(e11 (hall 11 dc_)).2.symm;obtain rfl:=(e12 (hall 12 dc_)).2.symm;obtain⟨hn9,ho9,ha9,hd9⟩:=hpost;have HO9:=hid ho9;have B9:=hid (HBR.out.trans (hT.mono HBR.out.size));have hHA:0≤m-(L9.length:Int)→L++L9=(K.take (k+1)).flatMap (arnL (mtP (p0,p1,p2,p3)) lev f'):=fun h=>by
            rw[take_gt K k om_,List.flatMap_append,List.flatMap_cons,List.flatMap_nil,List.append_nil,hgk.out,←ha9.1 h,←HAL.out.1 (by have:=HM.out;omega)]
           have hHL:(L++L9).length≤((K.take (k+1)).flatMap (arnL (mtP (p0,p1,p2,p3)) lev f')).length:=by
            rw[take_gt K k om_,List.flatMap_append,List.flatMap_cons,List.flatMap_nil,List.append_nil,hgk.out,List.length_append,List.length_append];exact Nat.add_le_add HAL.out.2 ha9.2
           have HHA:=hid hHA;have HHL:=hid hHL;have hlen9:L9.length≤2000:=by omega
           obtain⟨A9,c9,rfl,hr9,-,-⟩:=own_form ho9;have R9:=hid hr9;have OU:=hid (own_bl HOW.out hT (Nat.le_refl _));have hbz:w3.heap.size≤w9.heap.size:=B9.out.size;clear hT hHA hHL ha9 ho9 hr9 HOW HAL;go_wp2_with (at_builtin;(refine wpList_append_any _ rfl (.tmp 56) (.tmp 57) _ rfl w3.heap.size 55 i0 _ 3 24 underlying44 hi0 hz0 hz1 hzb rfl dc_ u13 L.length (cvs L) rfl OU.out w9.heap.size A9 L9.length c9 (cvs L9) rfl R9.out (cvs_one _) (by simp only[maxLen];omega) om_ hbz ?_);intro v2 w2' hown2 hg2 hat2;rw[←cvs_append,←List.length_append] at hown2);go_roundg (4-(k+1))
           case measure=>omega
           case rel=>exact⟨k+1,L++L9,v2,om_,om_,by go_num,congrArg (Value.int IntKind.i64) (by rw[List.length_append];have:=HM.out;omega),rfl,hown2,B9.out.grown hg2 hbz (own_base OU.out),⟨fun h=>HHA.out (by have:=HM.out;rw[List.length_append] at h;omega),HHL.out⟩,by rw[List.length_append];have:=HM.out;have:=HBD.out;omega⟩
        · have d1:decide (0≤m)=false:=decide_eq_false hm0
          have HMN:=hid (show¬0≤left-(L.length:Int) by have:=HM.out;omega);have HLE:=hid (show L.length≤(arnL (mtP (p0,p1,p2,p3)) lev (f'+1) (l,r,c)).length by rw[HA.out];exact Nat.le_trans HAL.out.2 (flat_take _ _ _));have B9:=hid (B3.out.trans (HBR.out.mono B3.out.size));have OW:=hid (own_mono HOW.out B3.out.size);clear HOW HAL HBR;go_wp2;go_ret2
          exact⟨u13,L,by rw[HM.out];rfl,OW.out,B9.out,⟨fun h=>absurd h (by have:=HMN.out;omega),HLE.out⟩,HBD.out⟩
      · have hk4':k=4:=by omega
        subst hk4';have HAF:Hid ((0≤left-(L.length:Int)→L=arnL (mtP (p0,p1,p2,p3)) lev (f'+1) (l,r,c))∧L.length≤(arnL (mtP (p0,p1,p2,p3)) lev (f'+1) (l,r,c)).length):=hid ⟨fun h=>by
         rw[HA.out,HAL.out.1 h,List.take_of_length_le om_],by rw[HA.out];exact Nat.le_trans HAL.out.2 (flat_take _ _ _)⟩
        have B9:=hid (B3.out.trans (HBR.out.mono B3.out.size));have OW:=hid (own_mono HOW.out B3.out.size);clear HOW HAL HBR;go_wp2;go_ret2
        exact⟨u13,L,by rw[HM.out];rfl,OW.out,B9.out,HAF.out,HBD.out⟩
theorem rar_ok2(f:Nat):RarOk2 f:=by
 induction f with
 |zero=>exact rar_step2 0 (fun f' h=>absurd h om_)
 |succ f ih=>exact rar_step2 (f+1) (fun f' h=>by cases h;exact ih)
def RArS(p:Bx)(lev most:Int)(w:World)(e:Ending)(w':World):Prop:=
 ∃(v:Value) (L:List Cl) (E:Int),e=.returned (.tuple #[v,vi vk E])∧w'.ownsRow w.heap.size 55 3 v L.length (cvs L)∧Below w.heap.size w w'∧
  ((E=0∧L=canonC (covL (arnA (mtP p) lev))∧((arnA (mtP p) lev).length:Int)≤most)∨(E= -1∧most<((arnA (mtP p) lev).length:Int)))
theorem rAround2_any(p0 p1 p2 p3 lev most:Int)(w:World)(hp:VP (p0,p1,p2,p3))(h0:0≤lev)(h16:lev≤16)(m0:0≤most)(m1:most≤1000):
 Calls Tryz.prog 28 #[.agg #[vi vk p0,vi vk p1,vi vk p2,vi vk p3],vi vk lev,vi vk most] w (RArS (p0,p1,p2,p3) lev most w):=by
 have KV:=hid (fun W=>rValid08_vp p0 p1 p2 p3 W hp);have d0:decide (lev<0)=false:=decide_eq_false om_;have d1:decide (16<lev)=false:=decide_eq_false om_;have K1:=hid (fun W=>rar_ok2 lev.toNat p0 p1 p2 p3 0 0 0 lev most W hp (top_vl 0 om_ om_) om_ h16 om_ om_);have K2:=hid (fun left (l0: -1000≤left) (l1:left≤1000) W=>rar_ok2 lev.toNat p0 p1 p2 p3 0 0 1 lev left W hp (top_vl 1 om_ om_) om_ h16 l0 l1);have HV:=hid (arnA_v (mt:=mtP (p0,p1,p2,p3)) h0 h16);have G0:=hid (Blk.new w 40 #[vi vk p0,vi vk p1,vi vk p2,vi vk p3]);obtain⟨i0,hi0,hz0,hz1,hzb⟩:=info_parts Tryz.infoCell;clear hp;go_enter func28,ntmps28;go_wp2_with fail;(with_reducible refine(KV.out _).mono ?_)
 rintro e w1 ⟨rfl,hb1⟩
 have B1:=hid (one_bl hb1);have G1:=hid (G0.out.below hb1 G0.out.lt);have y0:w1.cell? ⟨w.heap.size,0,none⟩=some (vi vk p0):=G1.out.cell 0;have y1:w1.cell? ⟨w.heap.size,1,none⟩=some (vi vk p1):=G1.out.cell 1;have y2:w1.cell? ⟨w.heap.size,2,none⟩=some (vi vk p2):=G1.out.cell 2;have y3:w1.cell? ⟨w.heap.size,3,none⟩=some (vi vk p3):=G1.out.cell 3;clear hb1 KV G0;go_wp2_with fail;(with_reducible refine(K1.out _).mono ?_)
 rintro e w2 ⟨va,La,rfl,hoa,hb2,ha,hba⟩
 have B2:=hid (B1.out.trans (hb2.mono B1.out.size));have G2:=hid (G1.out.below hb2 G1.out.lt);obtain⟨m,hm⟩: ∃m:Int,most-(La.length:Int)=m:=⟨_,rfl⟩;rw[hm] at ha⊢;have hmb: -1000≤m∧m≤1000:=by omega
 have hla:La.length≤2000:=by omega
 obtain⟨Aa,ca,rfl,hra,-,-⟩:=own_form hoa;have RA:=hid hra;have HA:=hid ha;have HM:=hid hm;have K3:=hid (K2.out m hmb.1 hmb.2);have y0:w2.cell? ⟨w.heap.size,0,none⟩=some (vi vk p0):=G2.out.cell 0;have y1:w2.cell? ⟨w.heap.size,1,none⟩=some (vi vk p1):=G2.out.cell 1;have y2:w2.cell? ⟨w.heap.size,2,none⟩=some (vi vk p2):=G2.out.cell 2;have y3:w2.cell? ⟨w.heap.size,3,none⟩=some (vi vk p3):=G2.out.cell 3;clear hoa hra hb2 ha hm hba B1 G1 K1 K2;go_wp2_with fail;(with_reducible refine(K3.out _).mono ?_)
 rintro e w3 ⟨vb,Lb,rfl,hob,hb3,hb,hbb⟩
 have B3:=hid (B2.out.trans (hb3.mono B2.out.size));have RA3:=hid ((RA.out.below hb3).more hb3.size);obtain⟨n,hn⟩: ∃n:Int,m-(Lb.length:Int)=n:=⟨_,rfl⟩;rw[hn] at hb⊢;have hlb:Lb.length≤2000:=by omega
 obtain⟨Ab,cb,rfl,hrb,-,-⟩:=own_form hob;have RB3:=hid hrb;have HB:=hid hb;have HN:=hid hn;clear hob hrb hb3 hb hn hbb K3 RA B2 G2 y0 y1 y2 y3;have HLL:=hid (show(La.length:Int)+(Lb.length:Int)≤((arnA (mtP (p0,p1,p2,p3)) lev).length:Int) by
  have h1:=HA.out.2;have h2:=HB.out.2;unfold arnA;rw[List.length_append];omega)
 by_cases hneg:m<0∨n<0
 · have hD:Hid (decide (m<0)=true∨decide (n<0)=true):=hid (hneg.imp decide_eq_true decide_eq_true)
   have HMN:=hid hneg;by_cases hmn:m<0
   · have e0:decide (m<0)=true:=decide_eq_true hmn
     clear hneg hmn;go_wp2;go_ret2
     exact⟨_,[],-1,rfl,own_nil _ _ _ _,B3.out,.inr ⟨rfl,by have:=HLL.out;have:=HM.out;have:=HN.out;have:=HMN.out;omega⟩⟩
   · have e0:decide (m<0)=false:=decide_eq_false hmn
     have e1:decide (n<0)=true:=decide_eq_true om_;clear hneg hmn;go_wp2;go_ret2
     exact⟨_,[],-1,rfl,own_nil _ _ _ _,B3.out,.inr ⟨rfl,by have:=HLL.out;have:=HM.out;have:=HN.out;have:=HMN.out;omega⟩⟩
 · have e0:decide (m<0)=false:=decide_eq_false om_
   have e1:decide (n<0)=false:=decide_eq_false om_;have hAA:La++Lb=arnA (mtP (p0,p1,p2,p3)) lev:=by
    rw[HA.out.1 om_,HB.out.1 om_];rfl
   have hv:AllV (La++Lb):=by rw[hAA];exact HV.out
   have hlen:((La++Lb).length:Int)≤most:=by rw[List.length_append];have:=HM.out;have:=HN.out;omega
   have HAA:=hid hAA;have HVV:=hid hv;have HLE:=hid hlen;have hML:madeL 1 (La++Lb) []=canonC (covL (La++Lb)):=made_or _ hv;have hcl:=canonC_len _ hv;have hc4:(canonC (covL (La++Lb))).length≤4000:=by omega
   have HC4:=hid hc4;have HML:=hid hML;have hsum:La.length+Lb.length≤1000:=by rw[List.length_append] at hlen;omega
   clear hneg hAA hv hlen hML hcl hc4;go_wp2_with (at_builtin;first|(refine wpList_append_any _ rfl (.tmp 44) (.tmp 45) _ rfl w3.heap.size 55 i0 _ 3 24 underlying44 hi0 hz0 hz1 hzb rfl dc_ (.slice (some ⟨w3.heap.size,0,none⟩) 0 0) 0 [] rfl (own_new w3 w3.heap.size 55 3 0 _ #[] rfl (Nat.le_refl _) rfl (by simp[maxLen])) w3.heap.size Aa La.length ca (cvs La) rfl (RA3.out.alloc (Nat.le_refl _) _) (cvs_one _) (by simp only[maxLen];omega) om_ (by simp) ?_;intro v4 w4 hown4 hg4 hat4;rw[Nat.zero_add,List.nil_append] at hown4;have HB4:=hid (((Below.refl w3.heap.size w3).alloc (Nat.le_refl _) _).grown hg4 (by simp) (fun k hk=>by simp[Value.ownBlock] at hk;omega));have RB4:=hid ((RB3.out.below HB4.out).more HB4.out.size);have HO4:=hid hown4;have hs4:=HB4.out.size;clear hown4 hg4 hat4)|(refine wpList_append_any _ rfl (.tmp 46) (.tmp 47) _ rfl w3.heap.size 55 i0 _ 3 24 underlying44 hi0 hz0 hz1 hzb rfl dc_ v4 La.length (cvs La) rfl HO4.out w4.heap.size Ab Lb.length cb (cvs Lb) rfl RB4.out (cvs_one _) (by simp only[maxLen];omega) om_ hs4 ?_;intro v5 w5 hown5 hg5 hat5;rw[←cvs_append,←List.length_append] at hown5;have HB5:=hid (HB4.out.grown hg5 hs4 (own_base HO4.out));have HO5:=hid hown5;clear hown5 hg5 hat5)|fail);obtain⟨A5,c5,rfl,hr5,-,-⟩:=own_form HO5.out;have KMD:=hid (Made_any 1 A5 none (La++Lb).length 0 c5 0 (La++Lb) [] w5 hr5 Reads.none_ (by rw[List.length_append];omega) om_ (lv_of HVV.out) (fun y hy=>by cases hy) (.inl rfl));rw[HML.out] at KMD;clear hr5 RA3 RB3 HO4 RB4 HB4;(with_reducible refine(KMD.out).mono ?_)
   rintro e w6 ⟨v6,rfl,hown6,hb6⟩
   have B6:=hid (B3.out.trans ((HB5.out.trans (hb6.mono HB5.out.size)).mono B3.out.size));have hs5:=B3.out.size;have O6:=hid (own_mono hown6 (Nat.le_trans hs5 HB5.out.size));obtain⟨A6,c6,rfl,-,-⟩:=own_form hown6;have hd4:decide (4000<((canonC (covL (La++Lb))).length:Int))=false:=decide_eq_false (by have:=HC4.out;omega);clear hown6 hb6;go_wp2;go_ret2
   exact⟨_,_,0,rfl,O6.out,B6.out,.inl ⟨rfl,by rw[HAA.out],by rw[←HAA.out];exact HLE.out⟩⟩
end Go.Proofs.YtdeiofgddhbdaaaGreat
