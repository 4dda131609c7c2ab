/- The reference's sight of a text. -/
import Derived.Test.YtbpnacacnncopaaGreatDoorHXo
set_option linter.unusedSimpArgs false
set_option linter.unusedVariables false
set_option maxHeartbeats 4000000
set_option maxRecDepth 100000
open Go.RowKit
open Go.Lib (hid)
open Go.Proofs.Tryz
open Go.Value renaming int→vi
open Go.IntKind renaming i64→vk
namespace Go.Proofs.YtbpnacacnncopaaGreatDoor
section
open Go.Shelf Frm
open Lib (decDigits)
theorem ret_sgR{tmps:Array Value}{w:World}{g:Nat}{cs:Array Value}(hp:tmps.getD 2 undef=.pointer (some ⟨g,0,none⟩))(h:Blk w g 25 cs)(hs:cs.size=11):
 (results Tryz.f12 tmps).run Tryz.prog w=.ok (.tuple #[.agg cs,tmps.getD 3 undef]) w:=by
 have hi:(Tryz.prog.info? 25).map (·.size)=some 11:=by kernel_rfl
 rw[results_cell_tmp results12,hp];have:=run_loadVar_row (P:=Tryz.prog) w g 25 25 cs (0,0) (.struct (Tryz.prog.fieldsOf 25)) h (by kernel_rfl) rfl (by rw[hs];exact hi);simp[asAddr,this,Result.andThen]
def WdC(w:World)(b off:Nat)(W:List Bs):Prop:= ∀(j:Nat) (x:Bs),W[j]? =some x→w.cell? ⟨b,off+j,none⟩=some (tx x)
theorem WdC.bel{w w':World}{b off:Nat}{W:List Bs}(h:WdC w b off W)(hb:Below w.heap.size w w'):WdC w' b off W:=fun j x hx=>cell_later hb (h j x hx)
theorem words_blk{w:World}{q:Nat}{a b c:Bs}(hB:Blk w q 9 #[tx a,tx b,tx c]):WordsAt w w.heap.size (some ⟨q,0,none⟩) [a,b,c]:=by
 refine .inr ⟨q,0,rfl,hB.lt,fun j x hx=>?_⟩;rw[Nat.zero_add,hB.cell j];match j,hx with
 |0,hx=>simpa using hx
 |1,hx=>simpa using hx
 |2,hx=>simpa using hx
 |j+3,hx=>simp at hx
def WhR(L:List Bs)(x:Bs)(v:Value):Prop:= ∃(k:Int) (ok:Bool),v=vi vk k∧(k==0)= !ok∧(ok=true→1≤k∧k≤3∧x=wordAt L k)∧(ok=false→ ¬ ∃k:Int,1≤k∧k≤3∧x=wordAt L k)
def PwS(Y:Array Value)(x1 x8:Bs)(i:Nat)(v:Value)(w:World):Prop:=
 if i=0 then∃q,v=.slice (some ⟨q,0,none⟩) 3 3∧Blk w q 9 #[tx [99,101,110,116,101,114],tx [108,111,119,101,114],tx [117,112,112,101,114]]
 else if i=5 then∃q,v=.slice (some ⟨q,0,none⟩) 3 3∧Blk w q 9 #[tx [110,97,116,117,114,97,108],tx [97,114,116,105,102,105,99,105,97,108],tx [115,104,111,114,101]]
 else if i=4∨i=10 then WhR limbL x1 v
 else if i=9∨i=11 then WhR horL x8 v
 else v=Y.getD i undef
theorem PwS.keep{Y:Array Value}{x1 x8:Bs}{w w':World}(hb:Below w.heap.size w w')(i:Nat)(v:Value)(h:PwS Y x1 x8 i v w):PwS Y x1 x8 i v w':=by
 unfold PwS at h⊢;split
 · rename_i e
   rw[if_pos e] at h;obtain⟨q,h1,h2⟩:=h;exact⟨q,h1,h2.below hb h2.lt⟩
 · rename_i e
   rw[if_neg e] at h;split
   · rename_i e
     rw[if_pos e] at h;obtain⟨q,h1,h2⟩:=h;exact⟨q,h1,h2.below hb h2.lt⟩
   · rename_i e
     rw[if_neg e] at h;exact h
def PwI(W:World)(Y:Array Value)(x1 x8:Bs)(a:Act)(M:Nat→Bool)(a':Act)(w':World):Prop:=
 ∃v:Nat→Value,a'=((((((((((((a.put (some 71) (v 0)).put (some 72) (v 1)).put (some 73) (v 2)).put (some 74) (v 3)).put (some 75) (v 4)).put (some 76) (v 5)).put (some 77) (v 6)).put (some 78) (v 7)).put (some 79) (v 8)).put (some 80) (v 9)).put (some 13) (v 10)).put (some 14) (v 11))∧Below W.heap.size W w'∧ ∀i,M i=true→PwS Y x1 x8 i (v i) w'
def pwSlots:Array Nat:=#[71,72,73,74,75,76,77,78,79,80,13,14]
theorem PwI.start(W:World)(Y:Array Value)(x1 x8:Bs)(a:Act):PwI W Y x1 x8 a (fun _=>false) a W:=
 ⟨fun i=>a.tmps.getD (pwSlots.getD i 0) undef,by
   simp only[pwSlots,Array.getD_eq_getD_getElem?,List.getElem?_toArray,List.getElem?_cons_zero,List.getElem?_cons_succ,Option.getD_some];simp only[←Array.getD_eq_getD_getElem?,putQ_self],Below.refl _ _,fun i h=>by cases h⟩
def fil(M:Nat→Bool)(x0:Bs)(k1 k2 k3 k4 k5 k6 ze zs zt zp:Int):Array Value:=#[tx x0,vi vk k1,vi vk k2,vi vk k3,vi vk k4,vi vk k5,vi vk k6,vi vk (if M 13=true then ze else 0),vi vk (if M 15=true then zs else 0),vi vk (if M 17=true then zt else 0),vi vk (if M 19=true then zp else 0)]
def PfI(W:World)(Y:Array Value)(X:Nat)(x0:Bs)(k1 k2 k3 k4 k5 k6 ze zs zt zp:Int)(a:Act)(M:Nat→Bool)(a':Act)(w':World):Prop:=
 ∃v:Nat→Value,a'=((((((((((((((((a.put (some 134) (v 0)).put (some 135) (v 1)).put (some 136) (v 2)).put (some 137) (v 3)).put (some 138) (v 4)).put (some 139) (v 5)).put (some 140) (v 6)).put (some 141) (v 7)).put (some 142) (v 8)).put (some 143) (v 9)).put (some 144) (v 10)).put (some 145) (v 11)).put (some 146) (v 12)).put (some 147) (v 14)).put (some 148) (v 16)).put (some 149) (v 18))∧Kps X W w'∧Blk w' X 25 (fil M x0 k1 k2 k3 k4 k5 k6 ze zs zt zp)∧ ∀i,M i=true→v i=Y.getD i undef
def pfSlots:Array Nat:=#[134,135,136,137,138,139,140,141,142,143,144,145,146,0,147,0,148,0,149,0]
theorem PfI.start(W:World)(Y:Array Value)(X:Nat)(x0:Bs)(k1 k2 k3 k4 k5 k6 ze zs zt zp:Int)(a:Act)(h:Blk W X 25 #[tx x0,vi vk k1,vi vk k2,vi vk k3,vi vk k4,vi vk k5,vi vk k6,vi vk 0,vi vk 0,vi vk 0,vi vk 0]):PfI W Y X x0 k1 k2 k3 k4 k5 k6 ze zs zt zp a (fun _=>false) a W:=
 ⟨fun i=>a.tmps.getD (pfSlots.getD i 0) undef,by
   simp only[pfSlots,Array.getD_eq_getD_getElem?,List.getElem?_toArray,List.getElem?_cons_zero,List.getElem?_cons_succ,Option.getD_some];simp only[←Array.getD_eq_getD_getElem?,putQ_self],Kps.refl _ _,h,fun i h=>by cases h⟩
theorem stepV{Y:Array Value}{M:Nat→Bool}{v:Nat→Value}{i:Nat}{x:Value}(h: ∀j,M j=true→v j=Y.getD j undef)(hx:x=Y.getD i undef): ∀j,mkd M i j=true→upd v i x j=Y.getD j undef:=by
 intro j hj;unfold upd;by_cases e:j=i
 · subst e
   rw[if_pos rfl];exact hx
 · rw[if_neg e]
   rw[mkd_ne e] at hj;exact h j hj
theorem fil_keep{M:Nat→Bool}{i:Nat}{x0:Bs}{k1 k2 k3 k4 k5 k6 ze zs zt zp:Int}(h:i≠13∧i≠15∧i≠17∧i≠19):fil (mkd M i) x0 k1 k2 k3 k4 k5 k6 ze zs zt zp=fil M x0 k1 k2 k3 k4 k5 k6 ze zs zt zp:=by
 unfold fil;rw[mkd_ne (Ne.symm h.1),mkd_ne (Ne.symm h.2.1),mkd_ne (Ne.symm h.2.2.1),mkd_ne (Ne.symm h.2.2.2)]
def ints1(L:List Int):List Value:=L.map fun z=>vi vk z
theorem ints1_app(L M:List Int):ints1 (L++M)=ints1 L++ints1 M:=by simp[ints1]
theorem ints1_one(L:List Int): ∀u∈ints1 L,u.oneCell'=true:=by
 intro u hu;obtain⟨x,-,rfl⟩:=List.mem_map.1 hu;rfl
theorem reads_int1(w:World)(z:Int)(t:TypeId):Reads (w.alloc (.cells #[vi vk z] t)) (w.alloc (.cells #[vi vk z] t)).heap.size 1 (some ⟨w.heap.size,0,none⟩) 1 (ints1 [z]):=by
 refine⟨rfl,fun _=>⟨_,rfl,by simp,fun j u hu=>?_⟩⟩;match j,hu with
 |0,hu=>simp[ints1] at hu;subst hu;simp[Addr.add]
 |j+1,hu=>simp[ints1] at hu
theorem infoI1:(Tryz.prog.info? 3).map (fun i=>(i.zero,i.size,i.bytes))=some (some (vi vk 0),1,8):=by kernel_rfl
theorem own_int4{w:World}{base:Nat}{v:Value}{a b c d:Int}(h:w.ownsRow base 3 1 v 4 (ints1 [a,b,c,d])): ∃q cc,v=.slice (some ⟨q,0,none⟩) 4 cc∧4≤cc∧base≤q∧w.cell? ⟨q,0,none⟩=some (vi vk a)∧w.cell? ⟨q,1,none⟩=some (vi vk b)∧w.cell? ⟨q,2,none⟩=some (vi vk c)∧w.cell? ⟨q,3,none⟩=some (vi vk d):=by
 rcases h.2 with ⟨_,h⟩|⟨g,cap,cur,rfl,hg,h1,h2,h3,h4,h5⟩
 · cases h
 · have hc: ∀j z,(ints1 [a,b,c,d])[j]? =some z→w.cell? ⟨g,j,none⟩=some z:=fun j z hz=>by
    rw[←h5,List.getElem?_take] at hz;split at hz
    · have:cur[j]? =some z:=by rw[←Array.getElem?_toList];exact hz
      simp[World.cell?,h1,this]
    · cases hz
   exact⟨g,cap,rfl,h2,hg,hc 0 _ rfl,hc 1 _ rfl,hc 2 _ rfl,hc 3 _ rfl⟩
theorem kps_cell{g q i:Nat}{w w':World}{v:Value}(h:Kps g w w')(hq:q≠g)(hc:w.cell? ⟨q,i,none⟩=some v):w'.cell? ⟨q,i,none⟩=some v:=by
 have hlt:=World.block_lt_of_cell? _ _ hc;have hb:=h.block q hq hlt;rw[←hc];unfold World.cell?;rw[hb]
theorem rparse22_any(t:Bs)(w:World)(hl:t.length≤300):Calls Tryz.prog 12 #[tx t] w fun e w'=>CpsR t e∧Below w.heap.size w w':=by
 have b00:=bl_alloc w (.cells #[tx [],vi vk 0,vi vk 0,vi vk 0,vi vk 0,vi vk 0,vi vk 0,vi vk 0,vi vk 0,vi vk 0,vi vk 0] 25);have R0:=hid (Blk.new w 25 #[tx [],vi vk 0,vi vk 0,vi vk 0,vi vk 0,vi vk 0,vi vk 0,vi vk 0,vi vk 0,vi vk 0,vi vk 0]);have KS:=hid (fun W=>rwords_any t W om_);have hsz0:(w.alloc (.cells #[tx [],vi vk 0,vi vk 0,vi vk 0,vi vk 0,vi vk 0,vi vk 0,vi vk 0,vi vk 0,vi vk 0,vi vk 0] 25)).heap.size=w.heap.size+1:=by simp
 have HSZ:=hid hsz0;have B0:=hid b00;have hwl:=wrd_len 32 t;have hgt: ∀s,GoodT s t→(SW.wrd 32 t).length=13:=fun s ⟨w0,w1,w2,w3,w4,w5,w6,w7,w8,w9,w10,w11,w12,h,_⟩=>by rw[h];rfl
 have hT:=fun(s:Sgt) (w0 w1 w2 w3 w4 w5 w6 w7 w8 w9 w10 w11 w12:Bs) (h:SW.wrd 32 t=[w0,w1,w2,w3,w4,w5,w6,w7,w8,w9,w10,w11,w12])=>(show GoodT s t↔Good s w0 w1 w2 w3 w4 w5 w6 w7 w8 w9 w10 w11 w12 from
  ⟨fun⟨v0,v1,v2,v3,v4,v5,v6,v7,v8,v9,v10,v11,v12,h2,h3⟩=>by
    rw[h] at h2;simp only[List.cons.injEq,and_true] at h2;obtain⟨rfl,rfl,rfl,rfl,rfl,rfl,rfl,rfl,rfl,rfl,rfl,rfl,rfl⟩:=h2;exact h3,fun h3=>⟨w0,w1,w2,w3,w4,w5,w6,w7,w8,w9,w10,w11,w12,h,h3⟩⟩)
 have P1:=hid (fun s (h1:GoodT s t) (h2:siS s=true)=>(show CpsR t (.returned (.tuple #[sgS s,vi vk 0])) from .inl ⟨s,h1,h2,rfl⟩));have P2:=hid (fun s (h1:GoodT s t) (h2:siS s=false)=>(show CpsR t (.returned (.tuple #[sg0,vi vk 1])) from .inr (.inl ⟨s,h1,h2,rfl⟩)));have P3:=hid (fun(h1: ¬ ∃s,GoodT s t)=>(show CpsR t (.returned (.tuple #[sg0,vi vk 7])) from .inr (.inr ⟨h1,rfl⟩)));generalize CpsR t=PR at*;obtain⟨W,hW⟩: ∃W,SW.wrd 32 t=W:=⟨_,rfl⟩;rw[hW] at KS hwl;simp only[hW] at hgt hT;clear hW b00 hsz0;obtain⟨m,hm⟩: ∃m,W.length=m:=⟨_,rfl⟩;rw[hm] at KS;have HM:=hid hm;clear hm;go_enter func12,ntmps12;go_upto_region 1 with fail
 generalize w.alloc (.cells #[tx [],vi vk 0,vi vk 0,vi vk 0,vi vk 0,vi vk 0,vi vk 0,vi vk 0,vi vk 0,vi vk 0,vi vk 0] 25)=w0 at*;go_wp2_with fail;(with_reducible refine(KS.out _).mono ?_)
 rintro e w1 ⟨⟨A,c,rfl,hA,hc1,hc2⟩,hb⟩
 have HA:=hid hA;have R1:=hid (R0.out.below hb R0.out.lt);have B1:=hid (B0.out.trans (hb.mono B0.out.size));clear hA hb R0 B0 KS;by_cases h13:m=13
 case neg=>
  have HNO:=hid (P3.out (fun⟨s,h⟩=>h13 (HM.out.symm.trans (hgt s h))));have d0:((m:Int) != 13)=true:=by simp;omega
  clear hgt hT hwl P1 P2 P3 h13;go_upto_region 3 with fail
  iterate 4 go_step
  refine wpList_store_row rfl _ (.tmp 2) (.tmp 32) rfl _ _ rfl rfl _ _ R1.out (by kernel_rfl) (by rfl) (by simp[Value.oneCell']) ?_;simp only[Act.put,List.setIfInBounds_toArray,List.set_cons_zero,List.set_cons_succ];have ZZ:=hid (Blk.rowW R1.out #[tx [],vi vk 0,vi vk 0,vi vk 0,vi vk 0,vi vk 0,vi vk 0,vi vk 0,vi vk 0,vi vk 0,vi vk 0]);have BB:=hid (bl_setRowW (g:=w.heap.size) B1.out (Nat.le_refl _) #[tx [],vi vk 0,vi vk 0,vi vk 0,vi vk 0,vi vk 0,vi vk 0,vi vk 0,vi vk 0,vi vk 0,vi vk 0]);generalize w1.setRow w.heap.size #[tx [],vi vk 0,vi vk 0,vi vk 0,vi vk 0,vi vk 0,vi vk 0,vi vk 0,vi vk 0,vi vk 0,vi vk 0]=wz at*;go_wp2;exact bodyPost_ret_by (ret_sgR rfl ZZ.out rfl) rfl ⟨HNO.out,BB.out⟩
 case pos=>
  subst h13;have h13:=HM.out;clear HM;obtain⟨b,off,rfl,hbq,hcell⟩: ∃b off,A=some ⟨b,off,none⟩∧b<w1.heap.size∧ ∀(j:Nat) (x:Bs),W[j]? =some x→w1.cell? ⟨b,off+j,none⟩=some (tx x):=by
   rcases HA.out with h|h
   · rw[h] at h13;cases h13
   · exact h
  have QW:=hid (show WdC w1 b off W from hcell);clear HA hcell hbq;obtain⟨x0,x1,x2,x3,x4,x5,x6,x7,x8,x9,x10,x11,x12,rfl⟩: ∃x0 x1 x2 x3 x4 x5 x6 x7 x8 x9 x10 x11 x12,W=[x0,x1,x2,x3,x4,x5,x6,x7,x8,x9,x10,x11,x12]:=by
   match W,h13 with
   | [y0,y1,y2,y3,y4,y5,y6,y7,y8,y9,y10,y11,y12],_=>exact⟨y0,y1,y2,y3,y4,y5,y6,y7,y8,y9,y10,y11,y12,rfl⟩
  have hT2:=fun s=>hT s x0 x1 x2 x3 x4 x5 x6 x7 x8 x9 x10 x11 x12 rfl;have HT:=hid hT2;have lx0:=hwl x0 (by simp);have lx1:=hwl x1 (by simp);have lx2:=hwl x2 (by simp);have lx3:=hwl x3 (by simp);have lx4:=hwl x4 (by simp);have lx5:=hwl x5 (by simp);have lx6:=hwl x6 (by simp);have lx7:=hwl x7 (by simp);have lx8:=hwl x8 (by simp);have lx9:=hwl x9 (by simp);have lx10:=hwl x10 (by simp);have lx11:=hwl x11 (by simp);have lx12:=hwl x12 (by simp);clear hT hT2 hgt h13 hwl;have y0:w1.cell? ⟨b,off,none⟩=some (tx x0):=QW.out 0 _ rfl;have KN:=hid (fun W=>rName_any x0 W om_);obtain⟨nb,hnb⟩: ∃nb,naB x0=nb:=⟨_,rfl⟩;rw[hnb] at KN;have HNB:=hid hnb;clear hnb;cases nb with
  |false=>
   have HNO:=hid (P3.out (fun⟨s,hs⟩=>by
    have h:=(HT.out s).1 hs;have:=h.h0.2;rw[HNB.out] at this;cases this))
   go_upto_region 3 with (go_at_call 27;(with_reducible refine(KN.out _).mono ?_);rintro e w2 ⟨rfl,rfl⟩)
   iterate 4 go_step
   refine wpList_store_row rfl _ (.tmp 2) (.tmp 32) rfl _ _ rfl rfl _ _ R1.out (by kernel_rfl) (by rfl) (by simp[Value.oneCell']) ?_;simp only[Act.put,List.setIfInBounds_toArray,List.set_cons_zero,List.set_cons_succ];have ZZ:=hid (Blk.rowW R1.out #[tx [],vi vk 0,vi vk 0,vi vk 0,vi vk 0,vi vk 0,vi vk 0,vi vk 0,vi vk 0,vi vk 0,vi vk 0]);have BB:=hid (bl_setRowW (g:=w.heap.size) B1.out (Nat.le_refl _) #[tx [],vi vk 0,vi vk 0,vi vk 0,vi vk 0,vi vk 0,vi vk 0,vi vk 0,vi vk 0,vi vk 0,vi vk 0]);generalize w2.setRow w.heap.size #[tx [],vi vk 0,vi vk 0,vi vk 0,vi vk 0,vi vk 0,vi vk 0,vi vk 0,vi vk 0,vi vk 0,vi vk 0]=wz at*;go_wp2;exact bodyPost_ret_by (ret_sgR rfl ZZ.out rfl) rfl ⟨HNO.out,BB.out⟩
  |true=>
   go_upto_region 4 with (go_at_call 27;(with_reducible refine(KN.out _).mono ?_);rintro e w2 ⟨rfl,rfl⟩)
   clear y0 KN;obtain⟨pa1,ja1,ga1,ca1⟩:=cat_any x2 [32] 300 om_ (by simp) om_;obtain⟨pb1,jb1,gb1,cb1⟩:=cat_any pa1 x3 1300 om_ om_ om_;have HP1:=hid (show pb1=x2++32::x3 by rw[←jb1,←ja1];simp);obtain⟨t1,E1,ok1,hk1,he1,f1,n1⟩:=rckP_fix pb1;rw[HP1.out] at f1 n1;have K1:=hid hk1;have F1:=hid f1;have N1:=hid n1;have HE1:=hid he1;clear hk1 f1 n1 ja1 jb1 ga1 gb1 he1;go_upto_region 4 with fail
   have y2: ∀s:BQ w2,s.w.cell? ⟨b,off+2,none⟩=some (tx x2):=fun s=>cell_later s.hb (QW.out 2 _ rfl);have y3: ∀s:BQ w2,s.w.cell? ⟨b,off+3,none⟩=some (tx x3):=fun s=>cell_later s.hb (QW.out 3 _ rfl);refine wp_region_bq w2 (by kernel_rfl) (by kernel_rfl) (Below.refl _ _) ?_;repeat (go_big_quiet_step (first|(go_at_call 44;with_reducible exact quiet_bq (K1.out _))|fail))
   refine wpQuiet_nil ?_;intro w3 hb;have Qw3:=hid (QW.out.bel hb);have Rw3:=hid (R1.out.below hb R1.out.lt);have Bw3:=hid (B1.out.trans (hb.mono B1.out.size));clear hb y2 y3 K1 ca1 cb1 QW R1 B1;obtain⟨pa2,ja2,ga2,ca2⟩:=cat_any x4 [32] 300 om_ (by simp) om_;obtain⟨pb2,jb2,gb2,cb2⟩:=cat_any pa2 x5 1300 om_ om_ om_;have HP2:=hid (show pb2=x4++32::x5 by rw[←jb2,←ja2];simp);obtain⟨t2,E2,ok2,hk2,he2,f2,n2⟩:=rckP_fix pb2;rw[HP2.out] at f2 n2;have K2:=hid hk2;have F2:=hid f2;have N2:=hid n2;have HE2:=hid he2;clear hk2 f2 n2 ja2 jb2 ga2 gb2 he2;go_upto_region 5 with fail
   have y4: ∀s:BQ w3,s.w.cell? ⟨b,off+4,none⟩=some (tx x4):=fun s=>cell_later s.hb (Qw3.out 4 _ rfl);have y5: ∀s:BQ w3,s.w.cell? ⟨b,off+5,none⟩=some (tx x5):=fun s=>cell_later s.hb (Qw3.out 5 _ rfl);refine wp_region_bq w3 (by kernel_rfl) (by kernel_rfl) (Below.refl _ _) ?_;repeat (go_big_quiet_step (first|(go_at_call 44;with_reducible exact quiet_bq (K2.out _))|fail))
   refine wpQuiet_nil ?_;intro w4 hb;have Qw4:=hid (Qw3.out.bel hb);have Rw4:=hid (Rw3.out.below hb Rw3.out.lt);have Bw4:=hid (Bw3.out.trans (hb.mono Bw3.out.size));clear hb y4 y5 K2 ca2 cb2 Qw3 Rw3 Bw3;have y6:w4.cell? ⟨b,off+6,none⟩=some (tx x6):=Qw4.out 6 _ rfl;go_wp2_with fail;(refine(rangle_any x6 _ om_).mono ?_)
   rintro e w5 ⟨⟨k3,ok3,rfl,f,n⟩,hb⟩
   have F3:=hid f;have N3:=hid n;have Qw5:=hid (Qw4.out.bel hb);have Rw5:=hid (Rw4.out.below hb Rw4.out.lt);have Bw5:=hid (Bw4.out.trans (hb.mono Bw4.out.size));clear f n hb y6 Qw4 Rw4 Bw4;have y7:w5.cell? ⟨b,off+7,none⟩=some (tx x7):=Qw5.out 7 _ rfl;go_wp2_with fail;(refine(rangle_any x7 _ om_).mono ?_)
   rintro e w6 ⟨⟨k4,ok4,rfl,f,n⟩,hb⟩
   have F4:=hid f;have N4:=hid n;have Qw6:=hid (Qw5.out.bel hb);have Rw6:=hid (Rw5.out.below hb Rw5.out.lt);have Bw6:=hid (Bw5.out.trans (hb.mono Bw5.out.size));clear f n hb y7 Qw5 Rw5 Bw5;go_upto_region 8 with fail
   have KM:=hid rLimbs_any;have KZ:=hid rHorizons_any;have Q7:=hid (Qw6.out.bel (bl_drew (Below.refl _ _)));have R7:=hid Rw6.out.drew;have B7:=hid (bl_drew Bw6.out);obtain⟨W7,hW7⟩: ∃W7,w6.drew=W7:=⟨_,rfl⟩;rw[hW7] at Q7 R7 B7;have HW7:=hid hW7;clear hW7 Qw6 Rw6 Bw6;refine wp_region_inv3 (by kernel_rfl) (PwI W7 #[undef,(.slice (some ⟨b,off,none⟩) 13 c),(.pointer (some ⟨b,off+1,none⟩)),(tx x1),undef,undef,(.slice (some ⟨b,off,none⟩) 13 c),(.pointer (some ⟨b,off+8,none⟩)),(tx x8),undef,undef,undef] x1 x8) (waits_bind (by kernel_rfl)) ?start ?step ?fin
   case start=>rw[HW7.out];exact PwI.start _ _ _ _ _
   case step=>
    rintro M i o a1' w' ho hL haf ⟨v,rfl,hB,hS⟩
    have HB:=hid hB;have HS:=hid hS;clear hB hS;rcases i with _|_|_|_|_|_|_|_|_|_|_|_|i
    all_goals (simp at ho;try subst ho)
    all_goals (try simp[Region.binds] at haf)
    · go_wp2_with fail
      (with_reducible refine(KM.out _).mono ?_)
      rintro e9 w9 ⟨rfl,rfl⟩
      have hb9:=bl_alloc w' (.cells #[tx [99,101,110,116,101,114],tx [108,111,119,101,114],tx [117,112,112,101,114]] 9);go_wp2;exact⟨upd v 0 (.slice (some ⟨w'.heap.size,0,none⟩) 3 3),by simp[upd,Act.put],(HB.out.trans (hb9.mono HB.out.size)),stepS HS.out (fun j y h=>PwS.keep hb9 j y h) ⟨_,rfl,Blk.new w' _ _⟩⟩
    · go_wp2
      exact⟨upd v 1 (.slice (some ⟨b,off,none⟩) 13 c),by simp[upd,Act.put],HB.out,stepS HS.out (fun _ _ h=>h) (show _ from rfl)⟩
    · have e1:v 1=(.slice (some ⟨b,off,none⟩) 13 c):=HS.out 1 (by simp[haf])
      go_wp2;exact⟨upd v 2 (.pointer (some ⟨b,off+1,none⟩)),by simp[upd,Act.put,e1],HB.out,stepS HS.out (fun _ _ h=>h) (show _ from rfl)⟩
    · have e2:v 2=(.pointer (some ⟨b,off+1,none⟩)):=HS.out 2 (by simp[haf])
      have y:w'.cell? ⟨b,off+1,none⟩=some (tx x1):=cell_later HB.out (Q7.out 1 _ rfl);go_wp2;exact⟨upd v 3 (tx x1),by simp[upd,Act.put,e2],HB.out,stepS HS.out (fun _ _ h=>h) (show _ from rfl)⟩
    · have e3:v 3=(tx x1):=HS.out 3 (by simp[haf])
      obtain⟨q,e0,hq⟩: ∃q,v 0=.slice (some ⟨q,0,none⟩) 3 3∧Blk w' q 9 #[tx [99,101,110,116,101,114],tx [108,111,119,101,114],tx [117,112,112,101,114]]:=HS.out 0 (by simp[haf]);have K9:=hid (which3_any _ _ _ x1 _ w' (words_blk hq) dc_ dc_ dc_);clear hq;go_wp2_with fail;(refine(K9.out).mono ?_)
      rintro e9 w9 ⟨⟨k9,ok9,rfl,f1,f2,f3⟩,rfl⟩
      have hw9:Hid (WhR limbL x1 (vi vk k9)):=hid ⟨k9,ok9,rfl,f1,f2,f3⟩;clear f1 f2 f3 K9;go_wp2;exact⟨upd v 4 (vi vk k9),by simp[upd,Act.put,e3,e0],HB.out,stepS HS.out (fun _ _ h=>h) hw9.out⟩
    · go_wp2_with fail
      (with_reducible refine(KZ.out _).mono ?_)
      rintro e9 w9 ⟨rfl,rfl⟩
      have hb9:=bl_alloc w' (.cells #[tx [110,97,116,117,114,97,108],tx [97,114,116,105,102,105,99,105,97,108],tx [115,104,111,114,101]] 9);go_wp2;exact⟨upd v 5 (.slice (some ⟨w'.heap.size,0,none⟩) 3 3),by simp[upd,Act.put],(HB.out.trans (hb9.mono HB.out.size)),stepS HS.out (fun j y h=>PwS.keep hb9 j y h) ⟨_,rfl,Blk.new w' _ _⟩⟩
    · go_wp2
      exact⟨upd v 6 (.slice (some ⟨b,off,none⟩) 13 c),by simp[upd,Act.put],HB.out,stepS HS.out (fun _ _ h=>h) (show _ from rfl)⟩
    · have e6:v 6=(.slice (some ⟨b,off,none⟩) 13 c):=HS.out 6 (by simp[haf])
      go_wp2;exact⟨upd v 7 (.pointer (some ⟨b,off+8,none⟩)),by simp[upd,Act.put,e6],HB.out,stepS HS.out (fun _ _ h=>h) (show _ from rfl)⟩
    · have e7:v 7=(.pointer (some ⟨b,off+8,none⟩)):=HS.out 7 (by simp[haf])
      have y:w'.cell? ⟨b,off+8,none⟩=some (tx x8):=cell_later HB.out (Q7.out 8 _ rfl);go_wp2;exact⟨upd v 8 (tx x8),by simp[upd,Act.put,e7],HB.out,stepS HS.out (fun _ _ h=>h) (show _ from rfl)⟩
    · have e8:v 8=(tx x8):=HS.out 8 (by simp[haf])
      obtain⟨q,e5,hq⟩: ∃q,v 5=.slice (some ⟨q,0,none⟩) 3 3∧Blk w' q 9 #[tx [110,97,116,117,114,97,108],tx [97,114,116,105,102,105,99,105,97,108],tx [115,104,111,114,101]]:=HS.out 5 (by simp[haf]);have K9:=hid (which3_any _ _ _ x8 _ w' (words_blk hq) dc_ dc_ dc_);clear hq;go_wp2_with fail;(refine(K9.out).mono ?_)
      rintro e9 w9 ⟨⟨k9,ok9,rfl,f1,f2,f3⟩,rfl⟩
      have hw9:Hid (WhR horL x8 (vi vk k9)):=hid ⟨k9,ok9,rfl,f1,f2,f3⟩;clear f1 f2 f3 K9;go_wp2;exact⟨upd v 9 (vi vk k9),by simp[upd,Act.put,e8,e5],HB.out,stepS HS.out (fun _ _ h=>h) hw9.out⟩
    · have hw9:Hid (WhR limbL x1 (v 4)):=hid (HS.out 4 (by simp[haf]))
      go_wp2;exact⟨upd v 10 (v 4),by simp[upd,Act.put],HB.out,stepS HS.out (fun _ _ h=>h) hw9.out⟩
    · have hw9:Hid (WhR horL x8 (v 9)):=hid (HS.out 9 (by simp[haf]))
      go_wp2;exact⟨upd v 11 (v 9),by simp[upd,Act.put],HB.out,stepS HS.out (fun _ _ h=>h) hw9.out⟩
   case fin=>
    rintro M a1' w8 hall ⟨v,rfl,hB,hS⟩
    obtain⟨k5,ok5,e10,q5,f5,n5⟩:WhR limbL x1 (v 10):=hS 10 (hall 10 (by simp));obtain⟨k6,ok6,e11,q6,f6,n6⟩:WhR horL x8 (v 11):=hS 11 (hall 11 (by simp));have Q8:=hid (Q7.out.bel hB);have R8:=hid (R7.out.below hB R7.out.lt);have B8:=hid (B7.out.trans (hB.mono B7.out.size));have F5:=hid f5;have N5:=hid n5;have F6:=hid f6;have N6:=hid n6;clear hB hS hall f5 n5 f6 n6 Q7 R7 B7 KM KZ HW7;simp only[Act.put,List.setIfInBounds_toArray,List.set_cons_zero,List.set_cons_succ];rw[e10,e11];clear e10 e11;generalize v 0=v0;generalize v 1=v1;generalize v 2=v2;generalize v 3=v3;generalize v 4=v4;generalize v 5=v5;generalize v 6=v6;generalize v 7=v7;generalize v 8=v8;generalize v 9=v9;clear v;have he1:=HE1.out;have he2:=HE2.out;cases ok1 with
    |false=>
     simp only[Bool.not_false] at he1;have HNO:=hid (P3.out (fun⟨s,hs⟩=>by
      have h:=(HT.out s).1 hs;exact N1.out rfl ⟨s.lo,h.h2⟩))
     clear P1 P2 F1 N1 F2 N2 F3 N3 F4 N4 F5 N5 F6 N6 HT;go_upto_region 10 with fail
     iterate 4 go_step
     refine wpList_store_row rfl _ (.tmp 2) (.tmp 103) rfl _ _ rfl rfl _ _ R8.out (by kernel_rfl) (by rfl) (by simp[Value.oneCell']) ?_;simp only[Act.put,List.setIfInBounds_toArray,List.set_cons_zero,List.set_cons_succ];have ZZ:=hid (Blk.rowW R8.out #[tx [],vi vk 0,vi vk 0,vi vk 0,vi vk 0,vi vk 0,vi vk 0,vi vk 0,vi vk 0,vi vk 0,vi vk 0]);have BB:=hid (bl_setRowW (g:=w.heap.size) B8.out (Nat.le_refl _) #[tx [],vi vk 0,vi vk 0,vi vk 0,vi vk 0,vi vk 0,vi vk 0,vi vk 0,vi vk 0,vi vk 0,vi vk 0]);generalize w8.setRow w.heap.size #[tx [],vi vk 0,vi vk 0,vi vk 0,vi vk 0,vi vk 0,vi vk 0,vi vk 0,vi vk 0,vi vk 0,vi vk 0]=wz at*;go_wp2;exact bodyPost_ret_by (ret_sgR rfl ZZ.out rfl) rfl ⟨HNO.out,BB.out⟩
    |true=>
    simp only[Bool.not_true] at he1;cases ok2 with
    |false=>
     simp only[Bool.not_false] at he2;have HNO:=hid (P3.out (fun⟨s,hs⟩=>by
      have h:=(HT.out s).1 hs;exact N2.out rfl ⟨s.hi,h.h4⟩))
     clear P1 P2 F1 N1 F2 N2 F3 N3 F4 N4 F5 N5 F6 N6 HT;go_upto_region 10 with fail
     iterate 4 go_step
     refine wpList_store_row rfl _ (.tmp 2) (.tmp 103) rfl _ _ rfl rfl _ _ R8.out (by kernel_rfl) (by rfl) (by simp[Value.oneCell']) ?_;simp only[Act.put,List.setIfInBounds_toArray,List.set_cons_zero,List.set_cons_succ];have ZZ:=hid (Blk.rowW R8.out #[tx [],vi vk 0,vi vk 0,vi vk 0,vi vk 0,vi vk 0,vi vk 0,vi vk 0,vi vk 0,vi vk 0,vi vk 0]);have BB:=hid (bl_setRowW (g:=w.heap.size) B8.out (Nat.le_refl _) #[tx [],vi vk 0,vi vk 0,vi vk 0,vi vk 0,vi vk 0,vi vk 0,vi vk 0,vi vk 0,vi vk 0,vi vk 0]);generalize w8.setRow w.heap.size #[tx [],vi vk 0,vi vk 0,vi vk 0,vi vk 0,vi vk 0,vi vk 0,vi vk 0,vi vk 0,vi vk 0,vi vk 0]=wz at*;go_wp2;exact bodyPost_ret_by (ret_sgR rfl ZZ.out rfl) rfl ⟨HNO.out,BB.out⟩
    |true=>
    simp only[Bool.not_true] at he2;cases ok3 with
    |false=>
     have HNO:=hid (P3.out (fun⟨s,hs⟩=>by
      have h:=(HT.out s).1 hs;exact N3.out rfl ⟨s.hs,h.h6⟩))
     clear P1 P2 F1 N1 F2 N2 F3 N3 F4 N4 F5 N5 F6 N6 HT;go_upto_region 10 with fail
     iterate 4 go_step
     refine wpList_store_row rfl _ (.tmp 2) (.tmp 103) rfl _ _ rfl rfl _ _ R8.out (by kernel_rfl) (by rfl) (by simp[Value.oneCell']) ?_;simp only[Act.put,List.setIfInBounds_toArray,List.set_cons_zero,List.set_cons_succ];have ZZ:=hid (Blk.rowW R8.out #[tx [],vi vk 0,vi vk 0,vi vk 0,vi vk 0,vi vk 0,vi vk 0,vi vk 0,vi vk 0,vi vk 0,vi vk 0]);have BB:=hid (bl_setRowW (g:=w.heap.size) B8.out (Nat.le_refl _) #[tx [],vi vk 0,vi vk 0,vi vk 0,vi vk 0,vi vk 0,vi vk 0,vi vk 0,vi vk 0,vi vk 0,vi vk 0]);generalize w8.setRow w.heap.size #[tx [],vi vk 0,vi vk 0,vi vk 0,vi vk 0,vi vk 0,vi vk 0,vi vk 0,vi vk 0,vi vk 0,vi vk 0]=wz at*;go_wp2;exact bodyPost_ret_by (ret_sgR rfl ZZ.out rfl) rfl ⟨HNO.out,BB.out⟩
    |true=>
    cases ok4 with
    |false=>
     have HNO:=hid (P3.out (fun⟨s,hs⟩=>by
      have h:=(HT.out s).1 hs;exact N4.out rfl ⟨s.by_,h.h7⟩))
     clear P1 P2 F1 N1 F2 N2 F3 N3 F4 N4 F5 N5 F6 N6 HT;go_upto_region 10 with fail
     iterate 4 go_step
     refine wpList_store_row rfl _ (.tmp 2) (.tmp 103) rfl _ _ rfl rfl _ _ R8.out (by kernel_rfl) (by rfl) (by simp[Value.oneCell']) ?_;simp only[Act.put,List.setIfInBounds_toArray,List.set_cons_zero,List.set_cons_succ];have ZZ:=hid (Blk.rowW R8.out #[tx [],vi vk 0,vi vk 0,vi vk 0,vi vk 0,vi vk 0,vi vk 0,vi vk 0,vi vk 0,vi vk 0,vi vk 0]);have BB:=hid (bl_setRowW (g:=w.heap.size) B8.out (Nat.le_refl _) #[tx [],vi vk 0,vi vk 0,vi vk 0,vi vk 0,vi vk 0,vi vk 0,vi vk 0,vi vk 0,vi vk 0,vi vk 0]);generalize w8.setRow w.heap.size #[tx [],vi vk 0,vi vk 0,vi vk 0,vi vk 0,vi vk 0,vi vk 0,vi vk 0,vi vk 0,vi vk 0,vi vk 0]=wz at*;go_wp2;exact bodyPost_ret_by (ret_sgR rfl ZZ.out rfl) rfl ⟨HNO.out,BB.out⟩
    |true=>
    cases ok5 with
    |false=>
     simp only[Bool.not_false] at q5;have HNO:=hid (P3.out (fun⟨s,hs⟩=>by
      have h:=(HT.out s).1 hs;exact N5.out rfl ⟨s.limb,h.h1.2.1,h.h1.2.2,h.h1.1⟩))
     clear P1 P2 F1 N1 F2 N2 F3 N3 F4 N4 F5 N5 F6 N6 HT;go_upto_region 10 with fail
     iterate 4 go_step
     refine wpList_store_row rfl _ (.tmp 2) (.tmp 103) rfl _ _ rfl rfl _ _ R8.out (by kernel_rfl) (by rfl) (by simp[Value.oneCell']) ?_;simp only[Act.put,List.setIfInBounds_toArray,List.set_cons_zero,List.set_cons_succ];have ZZ:=hid (Blk.rowW R8.out #[tx [],vi vk 0,vi vk 0,vi vk 0,vi vk 0,vi vk 0,vi vk 0,vi vk 0,vi vk 0,vi vk 0,vi vk 0]);have BB:=hid (bl_setRowW (g:=w.heap.size) B8.out (Nat.le_refl _) #[tx [],vi vk 0,vi vk 0,vi vk 0,vi vk 0,vi vk 0,vi vk 0,vi vk 0,vi vk 0,vi vk 0,vi vk 0]);generalize w8.setRow w.heap.size #[tx [],vi vk 0,vi vk 0,vi vk 0,vi vk 0,vi vk 0,vi vk 0,vi vk 0,vi vk 0,vi vk 0,vi vk 0]=wz at*;go_wp2;exact bodyPost_ret_by (ret_sgR rfl ZZ.out rfl) rfl ⟨HNO.out,BB.out⟩
    |true=>
    simp only[Bool.not_true] at q5;cases ok6 with
    |false=>
     simp only[Bool.not_false] at q6;have HNO:=hid (P3.out (fun⟨s,hs⟩=>by
      have h:=(HT.out s).1 hs;exact N6.out rfl ⟨s.hor,h.h8.2.1,h.h8.2.2,h.h8.1⟩))
     clear P1 P2 F1 N1 F2 N2 F3 N3 F4 N4 F5 N5 F6 N6 HT;go_upto_region 10 with fail
     iterate 4 go_step
     refine wpList_store_row rfl _ (.tmp 2) (.tmp 103) rfl _ _ rfl rfl _ _ R8.out (by kernel_rfl) (by rfl) (by simp[Value.oneCell']) ?_;simp only[Act.put,List.setIfInBounds_toArray,List.set_cons_zero,List.set_cons_succ];have ZZ:=hid (Blk.rowW R8.out #[tx [],vi vk 0,vi vk 0,vi vk 0,vi vk 0,vi vk 0,vi vk 0,vi vk 0,vi vk 0,vi vk 0,vi vk 0]);have BB:=hid (bl_setRowW (g:=w.heap.size) B8.out (Nat.le_refl _) #[tx [],vi vk 0,vi vk 0,vi vk 0,vi vk 0,vi vk 0,vi vk 0,vi vk 0,vi vk 0,vi vk 0,vi vk 0]);generalize w8.setRow w.heap.size #[tx [],vi vk 0,vi vk 0,vi vk 0,vi vk 0,vi vk 0,vi vk 0,vi vk 0,vi vk 0,vi vk 0,vi vk 0]=wz at*;go_wp2;exact bodyPost_ret_by (ret_sgR rfl ZZ.out rfl) rfl ⟨HNO.out,BB.out⟩
    |true=>
    simp only[Bool.not_true] at q6;have y0:w8.cell? ⟨b,off,none⟩=some (tx x0):=Q8.out 0 _ rfl;go_upto_region 11 with fail
    have X9:=hid (Blk.new w8 25 #[tx x0,vi vk k5,vi vk t1,vi vk t2,vi vk k3,vi vk k4,vi vk k6,vi vk 0,vi vk 0,vi vk 0,vi vk 0]);have Q9:=hid (Q8.out.bel (bl_alloc w8 (.cells #[tx x0,vi vk k5,vi vk t1,vi vk t2,vi vk k3,vi vk k4,vi vk k6,vi vk 0,vi vk 0,vi vk 0,vi vk 0] 25)));have R9:=hid (R8.out.alloc (.cells #[tx x0,vi vk k5,vi vk t1,vi vk t2,vi vk k3,vi vk k4,vi vk k6,vi vk 0,vi vk 0,vi vk 0,vi vk 0] 25));have B9:=hid (B8.out.trans ((bl_alloc w8 (.cells #[tx x0,vi vk k5,vi vk t1,vi vk t2,vi vk k3,vi vk k4,vi vk k6,vi vk 0,vi vk 0,vi vk 0,vi vk 0] 25)).mono B8.out.size));go_upto_region 12 with fail
    generalize w8.alloc (.cells #[tx x0,vi vk k5,vi vk t1,vi vk t2,vi vk k3,vi vk k4,vi vk k6,vi vk 0,vi vk 0,vi vk 0,vi vk 0] 25)=w9 at*;obtain⟨X,hX⟩: ∃X,w8.heap.size=X:=⟨_,rfl⟩;have hX1:Hid (w.heap.size<X):=hid (by have:=B8.out.size;have:=R8.out.lt;omega);rw[hX] at X9⊢;clear hX Q8 R8 B8 y0;obtain⟨i0,hi0,hz0,hz1,hzb⟩:=info_parts infoI1;go_wp2;go_loopg [16,17] 4 (fun gz s16 s17 wr=> ∃(k:Nat) (L:List Int),k≤4∧4-k≤gz∧s17=vi vk ((9+k:Nat):Int)∧L.length=k∧wr.ownsRow w9.heap.size 3 1 s16 k (ints1 L)∧Below w9.heap.size w9 wr∧ ∀(j:Nat) (z:Int),L[j]? =some z→ ∃x,([x0,x1,x2,x3,x4,x5,x6,x7,x8,x9,x10,x11,x12]:List Bs)[9+j]? =some x∧x=Lib.itoa z∧x.length≤15)
    case atStart=>exact⟨0,[],om_,om_,rfl,rfl,⟨rfl,.inl ⟨rfl,rfl⟩⟩,Below.refl _ _,fun j z h=>by simp at h⟩
    case round=>
     obtain⟨k,L,hk,hg,rfl,hLk,hO,hB,hL⟩:=hrel;have OO:=hid hO;have BB:=hid hB;have LL:=hid hL;have LK:=hid hLk;clear hO hB hL hLk;by_cases hlt:k<4
     case neg=>
      obtain rfl:k=4:=by omega
      obtain⟨ze,zs,zt,zp,rfl⟩: ∃a b c d,L=[a,b,c,d]:=by
       have hL4:=LK.out;match L,hL4 with
       | [a,b,c,d],_=>exact⟨a,b,c,d,rfl⟩
      obtain⟨y9,hy9,f7⟩:=LL.out 0 ze rfl;obtain rfl:x9=y9:=by simpa using hy9
      obtain⟨y10,hy10,f8⟩:=LL.out 1 zs rfl;obtain rfl:x10=y10:=by simpa using hy10
      obtain⟨y11,hy11,f9⟩:=LL.out 2 zt rfl;obtain rfl:x11=y11:=by simpa using hy11
      obtain⟨y12,hy12,f10⟩:=LL.out 3 zp rfl;obtain rfl:x12=y12:=by simpa using hy12
      have F7:=hid f7;have F8:=hid f8;have F9:=hid f9;have F10:=hid f10;clear hy9 hy10 hy11 hy12 f7 f8 f9 f10 LL LK hlt;obtain⟨q,cc,hs16,hcc,hbq,c0,c1,c2,c3⟩:=own_int4 OO.out;subst hs16;have XA:Hid (Blk wr X 25 #[tx x0,vi vk k5,vi vk t1,vi vk t2,vi vk k3,vi vk k4,vi vk k6,vi vk 0,vi vk 0,vi vk 0,vi vk 0]):=hid ((BB.out.block X X9.out.lt).trans X9.out);have RA:Hid (Blk wr w.heap.size 25 #[tx [],vi vk 0,vi vk 0,vi vk 0,vi vk 0,vi vk 0,vi vk 0,vi vk 0,vi vk 0,vi vk 0,vi vk 0]):=hid ((BB.out.block _ R9.out.lt).trans R9.out);have BA:=hid (B9.out.trans (BB.out.mono B9.out.size));have hqX:q≠X:=by have:=X9.out.lt;omega
      have C0:=hid c0;have C1:=hid c1;have C2:=hid c2;have C3:=hid c3;have HQX:=hid hqX;clear c0 c1 c2 c3 hbq OO BB B9 R9 X9 Q9 hqX;go_upto_region 20 with fail
      replace XA:=hid (show Blk wr.drew X 25 #[tx x0,vi vk k5,vi vk t1,vi vk t2,vi vk k3,vi vk k4,vi vk k6,vi vk 0,vi vk 0,vi vk 0,vi vk 0] from XA.out.drew)
      replace RA:=hid RA.out.drew
      replace BA:=hid (bl_drew BA.out)
      replace C0:=hid (show wr.drew.cell? ⟨q,0,none⟩=some (vi vk ze) from C0.out)
      replace C1:=hid (show wr.drew.cell? ⟨q,1,none⟩=some (vi vk zs) from C1.out)
      replace C2:=hid (show wr.drew.cell? ⟨q,2,none⟩=some (vi vk zt) from C2.out)
      replace C3:=hid (show wr.drew.cell? ⟨q,3,none⟩=some (vi vk zp) from C3.out)
      obtain⟨WA,hWA⟩: ∃WA,wr.drew=WA:=⟨_,rfl⟩;rw[hWA] at XA RA BA C0 C1 C2 C3;have HWA:=hid hWA;clear hWA;have ix: ∀(j:Nat) W,j<4→(Instr.indexAt 62 (.slice (some ⟨q,0,none⟩) 4 cc) (vi vk (j:Int))).run Tryz.prog W=.ok (.pointer (some ⟨q,j,none⟩)) W:=fun j W hj=>by
       have hj2:j=0∨j=1∨j=2∨j=3:=by omega
       rcases hj2 with rfl|rfl|rfl|rfl<;>rfl
      refine wp_region_inv3 (by kernel_rfl) (PfI WA #[(.slice (some ⟨q,0,none⟩) 4 cc),(.pointer (some ⟨q,0,none⟩)),(vi vk ze),(.slice (some ⟨q,0,none⟩) 4 cc),(.pointer (some ⟨q,1,none⟩)),(vi vk zs),(.slice (some ⟨q,0,none⟩) 4 cc),(.pointer (some ⟨q,2,none⟩)),(vi vk zt),(.slice (some ⟨q,0,none⟩) 4 cc),(.pointer (some ⟨q,3,none⟩)),(vi vk zp),(.pointer (some ⟨X,7,none⟩)),undef,(.pointer (some ⟨X,8,none⟩)),undef,(.pointer (some ⟨X,9,none⟩)),undef,(.pointer (some ⟨X,10,none⟩)),undef] X x0 k5 t1 t2 k3 k4 k6 ze zs zt zp) (waits_bind (by kernel_rfl)) ?start2 ?step2 ?fin2
      case start2=>rw[HWA.out];exact PfI.start _ _ _ _ _ _ _ _ _ _ _ _ _ _ _ XA.out
      case step2=>
       rintro M i o a1' w' ho hL haf ⟨v,rfl,hK,hBX,hS⟩
       have HK:=hid hK;have HBX:=hid hBX;have HS:=hid hS;clear hK hBX hS;rcases i with _|_|_|_|_|_|_|_|_|_|_|_|_|_|_|_|_|_|_|_|i
       all_goals (simp at ho;try subst ho)
       all_goals (try simp[Region.binds] at haf)
       · go_wp2
         exact⟨upd v 0 (.slice (some ⟨q,0,none⟩) 4 cc),by simp[upd,Act.put],HK.out,by rw[fil_keep dc_];exact HBX.out,stepV HS.out (show _ from rfl)⟩
       · have e0:v 0=(.slice (some ⟨q,0,none⟩) 4 cc):=HS.out 0 (by simp[haf])
         go_wp2;exact⟨upd v 1 (.pointer (some ⟨q,0,none⟩)),by simp[upd,Act.put,e0],HK.out,by rw[fil_keep dc_];exact HBX.out,stepV HS.out (show _ from rfl)⟩
       · have e1:v 1=(.pointer (some ⟨q,0,none⟩)):=HS.out 1 (by simp[haf])
         have y:w'.cell? ⟨q,0,none⟩=some (vi vk ze):=kps_cell HK.out HQX.out C0.out;go_wp2;exact⟨upd v 2 (vi vk ze),by simp[upd,Act.put,e1],HK.out,by rw[fil_keep dc_];exact HBX.out,stepV HS.out (show _ from rfl)⟩
       · go_wp2
         exact⟨upd v 3 (.slice (some ⟨q,0,none⟩) 4 cc),by simp[upd,Act.put],HK.out,by rw[fil_keep dc_];exact HBX.out,stepV HS.out (show _ from rfl)⟩
       · have e3:v 3=(.slice (some ⟨q,0,none⟩) 4 cc):=HS.out 3 (by simp[haf])
         go_wp2;exact⟨upd v 4 (.pointer (some ⟨q,1,none⟩)),by simp[upd,Act.put,e3],HK.out,by rw[fil_keep dc_];exact HBX.out,stepV HS.out (show _ from rfl)⟩
       · have e4:v 4=(.pointer (some ⟨q,1,none⟩)):=HS.out 4 (by simp[haf])
         have y:w'.cell? ⟨q,1,none⟩=some (vi vk zs):=kps_cell HK.out HQX.out C1.out;go_wp2;exact⟨upd v 5 (vi vk zs),by simp[upd,Act.put,e4],HK.out,by rw[fil_keep dc_];exact HBX.out,stepV HS.out (show _ from rfl)⟩
       · go_wp2
         exact⟨upd v 6 (.slice (some ⟨q,0,none⟩) 4 cc),by simp[upd,Act.put],HK.out,by rw[fil_keep dc_];exact HBX.out,stepV HS.out (show _ from rfl)⟩
       · have e6:v 6=(.slice (some ⟨q,0,none⟩) 4 cc):=HS.out 6 (by simp[haf])
         go_wp2;exact⟨upd v 7 (.pointer (some ⟨q,2,none⟩)),by simp[upd,Act.put,e6],HK.out,by rw[fil_keep dc_];exact HBX.out,stepV HS.out (show _ from rfl)⟩
       · have e7:v 7=(.pointer (some ⟨q,2,none⟩)):=HS.out 7 (by simp[haf])
         have y:w'.cell? ⟨q,2,none⟩=some (vi vk zt):=kps_cell HK.out HQX.out C2.out;go_wp2;exact⟨upd v 8 (vi vk zt),by simp[upd,Act.put,e7],HK.out,by rw[fil_keep dc_];exact HBX.out,stepV HS.out (show _ from rfl)⟩
       · go_wp2
         exact⟨upd v 9 (.slice (some ⟨q,0,none⟩) 4 cc),by simp[upd,Act.put],HK.out,by rw[fil_keep dc_];exact HBX.out,stepV HS.out (show _ from rfl)⟩
       · have e9:v 9=(.slice (some ⟨q,0,none⟩) 4 cc):=HS.out 9 (by simp[haf])
         go_wp2;exact⟨upd v 10 (.pointer (some ⟨q,3,none⟩)),by simp[upd,Act.put,e9],HK.out,by rw[fil_keep dc_];exact HBX.out,stepV HS.out (show _ from rfl)⟩
       · have e10:v 10=(.pointer (some ⟨q,3,none⟩)):=HS.out 10 (by simp[haf])
         have y:w'.cell? ⟨q,3,none⟩=some (vi vk zp):=kps_cell HK.out HQX.out C3.out;go_wp2;exact⟨upd v 11 (vi vk zp),by simp[upd,Act.put,e10],HK.out,by rw[fil_keep dc_];exact HBX.out,stepV HS.out (show _ from rfl)⟩
       · go_wp2
         exact⟨upd v 12 (.pointer (some ⟨X,7,none⟩)),by simp[upd,Act.put],HK.out,by rw[fil_keep dc_];exact HBX.out,stepV HS.out (show _ from rfl)⟩
       · have e2:v 2=(vi vk ze):=HS.out 2 (by simp[haf])
         have e12:v 12=(.pointer (some ⟨X,7,none⟩)):=HS.out 12 (by simp[haf]);have f9:w'.frozen? ⟨X,7,none⟩=false:=HBX.out.frozen 7;have y9: ∃u,w'.cell? ⟨X,7,none⟩=some u:=⟨_,HBX.out.cell 7⟩;obtain⟨u9,y9⟩:=y9;go_wp2;exact⟨upd v 13 undef,by simp[upd,Act.put,e2,e12],HK.out.trans (Kps.set_ X 7 w' (vi vk ze)),by simpa [fil,mkd] using HBX.out.set_ 7 (vi vk ze),stepV HS.out (show _ from rfl)⟩
       · go_wp2
         exact⟨upd v 14 (.pointer (some ⟨X,8,none⟩)),by simp[upd,Act.put],HK.out,by rw[fil_keep dc_];exact HBX.out,stepV HS.out (show _ from rfl)⟩
       · have e5:v 5=(vi vk zs):=HS.out 5 (by simp[haf])
         have e14:v 14=(.pointer (some ⟨X,8,none⟩)):=HS.out 14 (by simp[haf]);have f9:w'.frozen? ⟨X,8,none⟩=false:=HBX.out.frozen 8;have y9: ∃u,w'.cell? ⟨X,8,none⟩=some u:=⟨_,HBX.out.cell 8⟩;obtain⟨u9,y9⟩:=y9;go_wp2;exact⟨upd v 15 undef,by simp[upd,Act.put,e5,e14],HK.out.trans (Kps.set_ X 8 w' (vi vk zs)),by simpa [fil,mkd] using HBX.out.set_ 8 (vi vk zs),stepV HS.out (show _ from rfl)⟩
       · go_wp2
         exact⟨upd v 16 (.pointer (some ⟨X,9,none⟩)),by simp[upd,Act.put],HK.out,by rw[fil_keep dc_];exact HBX.out,stepV HS.out (show _ from rfl)⟩
       · have e8:v 8=(vi vk zt):=HS.out 8 (by simp[haf])
         have e16:v 16=(.pointer (some ⟨X,9,none⟩)):=HS.out 16 (by simp[haf]);have f9:w'.frozen? ⟨X,9,none⟩=false:=HBX.out.frozen 9;have y9: ∃u,w'.cell? ⟨X,9,none⟩=some u:=⟨_,HBX.out.cell 9⟩;obtain⟨u9,y9⟩:=y9;go_wp2;exact⟨upd v 17 undef,by simp[upd,Act.put,e8,e16],HK.out.trans (Kps.set_ X 9 w' (vi vk zt)),by simpa [fil,mkd] using HBX.out.set_ 9 (vi vk zt),stepV HS.out (show _ from rfl)⟩
       · go_wp2
         exact⟨upd v 18 (.pointer (some ⟨X,10,none⟩)),by simp[upd,Act.put],HK.out,by rw[fil_keep dc_];exact HBX.out,stepV HS.out (show _ from rfl)⟩
       · have e11:v 11=(vi vk zp):=HS.out 11 (by simp[haf])
         have e18:v 18=(.pointer (some ⟨X,10,none⟩)):=HS.out 18 (by simp[haf]);have f9:w'.frozen? ⟨X,10,none⟩=false:=HBX.out.frozen 10;have y9: ∃u,w'.cell? ⟨X,10,none⟩=some u:=⟨_,HBX.out.cell 10⟩;obtain⟨u9,y9⟩:=y9;go_wp2;exact⟨upd v 19 undef,by simp[upd,Act.put,e11,e18],HK.out.trans (Kps.set_ X 10 w' (vi vk zp)),by simpa [fil,mkd] using HBX.out.set_ 10 (vi vk zp),stepV HS.out (show _ from rfl)⟩
      case fin2=>
       rintro M a1' wb hall ⟨v,rfl,hK,hBX,hS⟩
       have XB:Hid (Blk wb X 25 #[tx x0,vi vk k5,vi vk t1,vi vk t2,vi vk k3,vi vk k4,vi vk k6,vi vk ze,vi vk zs,vi vk zt,vi vk zp]):=hid (by
        have h13:=hall 13 (by simp);have h15:=hall 15 (by simp);have h17:=hall 17 (by simp);have h19:=hall 19 (by simp);unfold fil at hBX;rw[if_pos h13,if_pos h15,if_pos h17,if_pos h19] at hBX;exact hBX)
       have RB:=hid (RA.out.kps hK (Nat.ne_of_lt hX1.out));have BB:=hid (BA.out.trans (hK.below (Nat.le_of_lt hX1.out) BA.out.size));clear hK hBX hS hall XA RA BA C0 C1 C2 C3 HWA;simp only[Act.put,List.setIfInBounds_toArray,List.set_cons_zero,List.set_cons_succ];generalize v 0=vv0;generalize v 1=vv1;generalize v 2=vv2;generalize v 3=vv3;generalize v 4=vv4;generalize v 5=vv5;generalize v 6=vv6;generalize v 7=vv7;generalize v 8=vv8;generalize v 9=vv9;generalize v 10=vv10;generalize v 11=vv11;generalize v 12=vv12;generalize v 14=vv14;generalize v 16=vv16;generalize v 18=vv18;clear v;have hg:GoodT ⟨x0,k5,t1,t2,k3,k4,k6,ze,zs,zt,zp⟩ t:=(HT.out ⟨x0,k5,t1,t2,k3,k4,k6,ze,zs,zt,zp⟩).2 ⟨⟨rfl,HNB.out⟩,⟨(F5.out (by trivial)).2.2,(F5.out (by trivial)).1,(F5.out (by trivial)).2.1⟩,F1.out (by trivial),F2.out (by trivial),F3.out (by trivial),F4.out (by trivial),⟨(F6.out (by trivial)).2.2,(F6.out (by trivial)).1,(F6.out (by trivial)).2.1⟩,F7.out,F8.out,F9.out,F10.out⟩;have HG:=hid hg;have KV:=hid (fun W=>rValid_any x0 k5 t1 t2 k3 k4 k6 ze zs zt zp W om_);have hsi:siB x0 k5 t1 t2 k3 k4 k6 ze zs zt zp=siS ⟨x0,k5,t1,t2,k3,k4,k6,ze,zs,zt,zp⟩:=rfl;obtain⟨vb,hvb⟩: ∃vb,siS ⟨x0,k5,t1,t2,k3,k4,k6,ze,zs,zt,zp⟩=vb:=⟨_,rfl⟩;rw[hsi,hvb] at KV;have HVB:=hid hvb;clear hg hsi hvb;go_upto_region 21 with fail
       iterate 2 go_step
       refine wp_load_sg (.tmp 15) rfl rfl XB.out rfl ?_;simp only[Act.put,List.setIfInBounds_toArray,List.set_cons_zero,List.set_cons_succ];go_wp2_with fail;(refine(KV.out _).mono ?_)
       rintro e wv ⟨rfl,hb⟩
       have Xv:=hid (XB.out.below hb XB.out.lt);have Rv:=hid (RB.out.below hb RB.out.lt);have Bv:=hid (BB.out.trans (hb.mono BB.out.size));clear hb XB RB BB;cases vb with
       |false=>
        go_upto_region 22 with fail
        iterate 4 go_step
        refine wpList_store_row rfl _ (.tmp 2) (.tmp 153) rfl _ _ rfl rfl _ _ Rv.out (by kernel_rfl) (by rfl) (by simp[Value.oneCell']) ?_;simp only[Act.put,List.setIfInBounds_toArray,List.set_cons_zero,List.set_cons_succ];have ZZ:=hid (Blk.rowW Rv.out #[tx [],vi vk 0,vi vk 0,vi vk 0,vi vk 0,vi vk 0,vi vk 0,vi vk 0,vi vk 0,vi vk 0,vi vk 0]);have BB:=hid (bl_setRowW (g:=w.heap.size) Bv.out (Nat.le_refl _) #[tx [],vi vk 0,vi vk 0,vi vk 0,vi vk 0,vi vk 0,vi vk 0,vi vk 0,vi vk 0,vi vk 0,vi vk 0]);generalize wv.setRow w.heap.size #[tx [],vi vk 0,vi vk 0,vi vk 0,vi vk 0,vi vk 0,vi vk 0,vi vk 0,vi vk 0,vi vk 0,vi vk 0]=wz at*;go_wp2;exact bodyPost_ret_by (ret_sgR rfl ZZ.out rfl) rfl ⟨P2.out _ HG.out HVB.out,BB.out⟩
       |true=>
        go_upto_region 23 with fail
        iterate 2 go_step
        refine wp_load_sg (.tmp 15) rfl rfl Xv.out rfl ?_;simp only[Act.put,List.setIfInBounds_toArray,List.set_cons_zero,List.set_cons_succ];iterate 1 go_step
        refine wpList_store_row rfl _ (.tmp 2) (.tmp 154) rfl _ _ rfl rfl _ _ Rv.out (by kernel_rfl) (by rfl) (by simp[Value.oneCell']) ?_;simp only[Act.put,List.setIfInBounds_toArray,List.set_cons_zero,List.set_cons_succ];have ZZ:=hid (Blk.rowW Rv.out #[tx x0,vi vk k5,vi vk t1,vi vk t2,vi vk k3,vi vk k4,vi vk k6,vi vk ze,vi vk zs,vi vk zt,vi vk zp]);have BB:=hid (bl_setRowW (g:=w.heap.size) Bv.out (Nat.le_refl _) #[tx x0,vi vk k5,vi vk t1,vi vk t2,vi vk k3,vi vk k4,vi vk k6,vi vk ze,vi vk zs,vi vk zt,vi vk zp]);generalize wv.setRow w.heap.size #[tx x0,vi vk k5,vi vk t1,vi vk t2,vi vk k3,vi vk k4,vi vk k6,vi vk ze,vi vk zs,vi vk zt,vi vk zp]=wz at*;go_wp2;exact bodyPost_ret_by (ret_sgR rfl ZZ.out rfl) rfl ⟨P1.out _ HG.out HVB.out,BB.out⟩
     case pos=>
      have dk:decide (((9+k:Nat):Int)<13)=true:=decide_eq_true om_;have dk2:decide ((9:Int)+(k:Int)<13)=true:=decide_eq_true om_;have dk3:decide (9+k<13)=true:=decide_eq_true om_;have hk13:9+k<13:=by omega
      obtain⟨x,hx⟩: ∃x,([x0,x1,x2,x3,x4,x5,x6,x7,x8,x9,x10,x11,x12]:List Bs)[9+k]? =some x:=⟨_,List.getElem?_eq_getElem (by simp;omega)⟩;have hlx:x.length≤1000:=by
       have hm:=List.mem_of_getElem? hx;simp only[List.mem_cons,List.not_mem_nil,or_false] at hm;rcases hm with rfl|rfl|rfl|rfl|rfl|rfl|rfl|rfl|rfl|rfl|rfl|rfl|rfl<;>omega
      have yx:wr.cell? ⟨b,off+(9+k),none⟩=some (tx x):=cell_later BB.out (Q9.out _ _ hx);have HX:=hid hx;clear hx;go_wp2_with fail;(refine(rinteger_any x _ hlx).mono ?_)
      rintro e w2 ⟨⟨z,ok,rfl,f,n⟩,hb⟩
      have FF:=hid f;have NN:=hid n;have OO2:=hid (own_bel OO.out hb);have BB2:=hid (BB.out.trans (hb.mono BB.out.size));clear f n hb OO BB yx;cases ok with
      |false=>
       have HNO:=hid (P3.out (fun⟨s,hs⟩=>by
        have h:=(HT.out s).1 hs;refine NN.out rfl ?_;have hx:=HX.out;have h4:k=0∨k=1∨k=2∨k=3:=by omega
        rcases h4 with rfl|rfl|rfl|rfl
        · obtain rfl:x9=x:=by simpa using hx
          exact⟨s.eye,h.h9⟩
        · obtain rfl:x10=x:=by simpa using hx
          exact⟨s.shore,h.h10⟩
        · obtain rfl:x11=x:=by simpa using hx
          exact⟨s.temp,h.h11⟩
        · obtain rfl:x12=x:=by simpa using hx
          exact⟨s.press,h.h12⟩))
       have RA:Hid (Blk w2 w.heap.size 25 #[tx [],vi vk 0,vi vk 0,vi vk 0,vi vk 0,vi vk 0,vi vk 0,vi vk 0,vi vk 0,vi vk 0,vi vk 0]):=hid ((BB2.out.block _ R9.out.lt).trans R9.out);have BA:=hid (B9.out.trans (BB2.out.mono B9.out.size));clear R9 B9 BB2 OO2 NN FF X9 Q9 HT P1 P2;go_upto_region 18 with fail
       iterate 4 go_step
       refine wpList_store_row rfl _ (.tmp 2) (.tmp 129) rfl _ _ rfl rfl _ _ RA.out (by kernel_rfl) (by rfl) (by simp[Value.oneCell']) ?_;simp only[Act.put,List.setIfInBounds_toArray,List.set_cons_zero,List.set_cons_succ];have ZZ:=hid (Blk.rowW RA.out #[tx [],vi vk 0,vi vk 0,vi vk 0,vi vk 0,vi vk 0,vi vk 0,vi vk 0,vi vk 0,vi vk 0,vi vk 0]);have BB:=hid (bl_setRowW (g:=w.heap.size) BA.out (Nat.le_refl _) #[tx [],vi vk 0,vi vk 0,vi vk 0,vi vk 0,vi vk 0,vi vk 0,vi vk 0,vi vk 0,vi vk 0,vi vk 0]);generalize w2.setRow w.heap.size #[tx [],vi vk 0,vi vk 0,vi vk 0,vi vk 0,vi vk 0,vi vk 0,vi vk 0,vi vk 0,vi vk 0,vi vk 0]=wz at*;go_wp2;exact bodyPost_ret_by (ret_sgR rfl ZZ.out rfl) rfl ⟨HNO.out,BB.out⟩
      |true=>
       have O2:=hid (own_bel OO2.out (bl_alloc w2 (.cells #[vi vk z] 3)));have B2:=hid (BB2.out.trans ((bl_alloc w2 (.cells #[vi vk z] 3)).mono BB2.out.size));have R2:=hid (reads_int1 w2 z 3);clear OO2 BB2;go_wp2_with (at_builtin;(refine wpList_append_any _ rfl (.tmp 130) (.tmp 132) _ rfl w9.heap.size 3 i0 _ 1 8 underlying62 hi0 hz0 hz1 hzb rfl dc_ _ k (ints1 L) rfl O2.out (w2.alloc (.cells #[vi vk z] 3)).heap.size _ 1 1 (ints1 [z]) rfl R2.out (ints1_one _) (by simp only[maxLen];omega) om_ (by have:=B2.out.size;omega) ?_);intro v2 w3 hO hg2 hat);go_roundg (4-(k+1))
       case measure=>omega
       case rel=>
        refine⟨k+1,L++[z],om_,Nat.le_refl _,by go_num,by rw[List.length_append,LK.out];rfl,by rw[ints1_app];exact hO,B2.out.grown hg2 B2.out.size (fun q hq=>own_base O2.out q hq),fun j u hu=>?_⟩;rcases Nat.lt_or_ge j L.length with hj|hj
        · rw[List.getElem?_append_left hj] at hu
          exact LL.out j u hu
        · rw[List.getElem?_append_right hj] at hu
          obtain rfl:j=k:=by
           have:=(List.getElem?_eq_some_iff.1 hu).1;have:=LK.out;simp at*;omega
          rw[LK.out,Nat.sub_self] at hu;obtain rfl:z=u:=by simpa using hu
          exact⟨x,HX.out,FF.out (by trivial)⟩
end
end Go.Proofs.YtbpnacacnncopaaGreatDoor
