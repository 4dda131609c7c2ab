/- The walk of forms.Fix, over what its callees answer. -/
import Derived.Test.YtdeiofgddhbdaaaGreatDoorHJc
import Derived.Test.YtdeiofgddhbdaaaGreatDoorHPq
set_option linter.unusedSimpArgs false
set_option linter.unusedVariables false
set_option maxHeartbeats 4000000
set_option maxRecDepth 100000
open Go.RowKit
open Go.Lib (hid)
open Go.Proofs.Tryz
open Go.Value renaming int→vi
open Go.IntKind renaming i64→vk
namespace Go.Proofs.YtdeiofgddhbdaaaGreatDoor
theorem puIm{p:Prop}(h:p:=by simp only[Act.put,List.setIfInBounds_toArray,List.set_cons_zero,List.set_cons_succ]):p:=h
section
open Go.Shelf Frm
open Lib (decDigits)
def txs(L:List Bs):List Value:=L.map tx
theorem txs_app(L M:List Bs):txs (L++M)=txs L++txs M:=by simp[txs]
theorem txs_one(L:List Bs): ∀u∈txs L,u.oneCell'=true:=by
 intro u hu;obtain⟨x,_,rfl⟩:=List.mem_map.1 hu;rfl
theorem Tryz.infoStr:(Tryz.prog.info? 9).map (fun i=>(i.zero,i.size,i.bytes))=some (some (.string ⟨#[]⟩),1,16):=by kernel_rfl
theorem reads_tx(w:World)(z:Bs)(t:TypeId):Reads (w.alloc (.cells #[tx z] t)) (w.alloc (.cells #[tx z] t)).heap.size 1 (some ⟨w.heap.size,0,none⟩) 1 (txs [z]):=by
 refine⟨rfl,fun _=>⟨_,rfl,by simp,fun j u hu=>?_⟩⟩;match j,hu with
 |0,hu=>simp[txs] at hu;subst hu;simp[Addr.add]
 |j+1,hu=>simp[txs] at hu
theorem join2_any(b c:Nat)(x y:Bs)(w:World)(hb:b<w.heap.size)(h0:w.cell? ⟨b,0,none⟩=some (tx x))(h1:w.cell? ⟨b,1,none⟩=some (tx y))(hc:2≤c)(hx:x.length≤100000)(hy:y.length≤100000):
 Calls Tryz.prog 58 #[.slice (some ⟨b,0,none⟩) 2 c,tx [32]] w fun e w'=>e=.returned (tx (x++32::y))∧Below w.heap.size w w':=by
 have h:=Any.strings_Join Tryz.lays156 Tryz.Builder_Extra_156 b 0 c [⟨x.toArray⟩,⟨y.toArray⟩] ⟨#[32]⟩ w (fun j z hz=>by
  match j,hz with
  |0,hz=>simp at hz;subst hz;exact h0
  |1,hz=>simp at hz;subst hz;exact h1
  |j+2,hz=>simp at hz) hb (by simp) hc (by simp[Lib.join];omega)
 have e:Lib.join ([(⟨x.toArray⟩:ByteArray),⟨y.toArray⟩].map (·.data.toList)) (⟨#[32]⟩:ByteArray).data.toList=x++32::y:=by simp[Lib.join]
 rw[e] at h;exact h
theorem kd{M:Nat→Bool}{i:Nat}(H:Hid (M 8=true→M 4=true∧M 6=true∧M 7=true))(h8:(8==i)=false:=by decide):mkd M i 8=true→mkd M i 4=true∧mkd M i 6=true∧mkd M i 7=true:=fun h=>by
 have q:=H.out (by rwa [mkd_ne (by simpa using h8)] at h);simp[mkd,q]
theorem ke{M:Nat→Bool}{i:Nat}(H:Hid (M 11=true→M 8=true))(h8:(11==i)=false:=by decide):mkd M i 11=true→mkd M i 8=true:=fun h=>by
 have q:=H.out (by rwa [mkd_ne (by simpa using h8)] at h);simp[mkd,q]
theorem kf{M:Nat→Bool}{i:Nat}(H:Hid (M 7=true→M 6=true))(h8:(7==i)=false:=by decide):mkd M i 7=true→mkd M i 6=true:=fun h=>by
 have q:=H.out (by rwa [mkd_ne (by simpa using h8)] at h);simp[mkd,q]
theorem kn{M:Nat→Bool}{i j:Nat}{p:Prop}(H:Hid (M j=false→p))(h8:(j==i)=false:=by decide):mkd M i j=false→p:=fun h=>H.out (by rwa [mkd_ne (by simpa using h8)] at h)
theorem kp{M:Nat→Bool}{i j:Nat}{p:Prop}(H:Hid (M j=true→p))(h8:(j==i)=false:=by decide):mkd M i j=true→p:=fun h=>H.out (by rwa [mkd_ne (by simpa using h8)] at h)
theorem km{M:Nat→Bool}{i j k:Nat}{p:Prop}(H:Hid (M j=true→M k=false→p))(h8:(j==i)=false:=by decide)(h9:(k==i)=false:=by decide):mkd M i j=true→mkd M i k=false→p:=fun h h'=>H.out (by rwa [mkd_ne (by simpa using h8)] at h) (by rwa [mkd_ne (by simpa using h9)] at h')
def WdI(w:World)(B g b:Nat)(c:Nat)(sv:Value)(x y z:Bs)(L:List Bs)(e:Int)(a:Act)(M:Nat→Bool)(a':Act)(w':World):Prop:=
 ∃(v4 v5 v6 v7 v8 v9 v10 v11 v12 v13 v14:Value),a'=(((((((((((a.put (some 4) v4).put (some 5) v5).put (some 6) v6).put (some 7) v7).put (some 8) v8).put (some 9) v9).put (some 10) v10).put (some 11) v11).put (some 12) v12).put (some 13) v13).put (some 14) v14)∧Below B w w'∧
  (M 8=true→M 4=true∧M 6=true∧M 7=true)∧
  (M 11=true→M 8=true)∧
  (M 7=true→M 6=true)∧
  (M 8=false→b<w'.heap.size∧w'.cell? ⟨b,0,none⟩=some (tx x)∧w'.cell? ⟨b,1,none⟩=some (tx y))∧
  (M 8=false→w'.ownsRow B 9 1 sv L.length (txs L))∧
  (M 8=true→w'.ownsRow B 9 1 v12 (L.length+1) (txs (L++[z])))∧
  (M 11=false→Blk w' g 64 #[sv,vi vk e])∧
  (M 11=true→Blk w' g 64 #[v12,vi vk e])∧
  (M 7=true→M 8=false→ ∃b,v11=.slice (some ⟨b,0,none⟩) 1 1∧Reads w' w'.heap.size 1 (some ⟨b,0,none⟩) 1 (txs [z]))∧
  (M 0=true→v4=.pointer (some ⟨g,0,none⟩))∧
  (M 1=true→v5=.pointer (some ⟨g,0,none⟩))∧
  (M 2=true→v6=.pointer (some ⟨g,0,none⟩))∧
  (M 3=true→v7=.pointer (some ⟨g,0,none⟩))∧
  (M 4=true→v8=sv)∧
  (M 5=true→v9=.slice (some ⟨b,0,none⟩) 2 c)∧
  (M 6=true→v10=tx z)∧
  (M 9=true→v13=.pointer (some ⟨g,0,none⟩))∧
  (M 10=true→v14=.pointer (some ⟨g,0,none⟩))
theorem WdI.start{w:World}{B g b c:Nat}{sv:Value}{x y z:Bs}{L:List Bs}{e:Int}(a:Act)(hB:B≤w.heap.size)(hA:b<w.heap.size∧w.cell? ⟨b,0,none⟩=some (tx x)∧w.cell? ⟨b,1,none⟩=some (tx y))(hO:w.ownsRow B 9 1 sv L.length (txs L))(hG:Blk w g 64 #[sv,vi vk e]):WdI w B g b c sv x y z L e a (fun _=>false) a w.drew:=
 ⟨_,_,_,_,_,_,_,_,_,_,_,by rw[putQ_self a 4,putQ_self a 5,putQ_self a 6,putQ_self a 7,putQ_self a 8,putQ_self a 9,putQ_self a 10,putQ_self a 11,putQ_self a 12,putQ_self a 13,putQ_self a 14],(bl_drew (Below.refl _ _)).mono hB,nofun,nofun,nofun,fun _=>hA,fun _=>hO,nofun,fun _=>hG,nofun,nofun,nofun,nofun,nofun,nofun,nofun,nofun,nofun,nofun,nofun⟩
def Wr(w:World)(B g:Nat)(L:List Bs)(e:Int):Prop:= ∃sv,B≤g∧B≤w.heap.size∧Blk w g 64 #[sv,vi vk e]∧w.ownsRow B 9 1 sv L.length (txs L)
theorem Wr.below{w w':World}{B g:Nat}{L:List Bs}{e:Int}(h:Wr w B g L e)(hb:Below w.heap.size w w'):Wr w' B g L e:=by
 obtain⟨sv,h0,h1,h2,h3⟩:=h;exact⟨sv,h0,Nat.le_trans h1 hb.size,h2.below hb h2.lt,own_bl h3 hb (Nat.le_refl _)⟩
theorem words_any(B g b c:Nat)(x y:Bs)(L:List Bs)(e:Int)(w:World)(h:Wr w B g L e)(hb:b<w.heap.size)(h0:w.cell? ⟨b,0,none⟩=some (tx x))(h1:w.cell? ⟨b,1,none⟩=some (tx y))(hc:2≤c)(hx:x.length≤100000)(hy:y.length≤100000)(hL:L.length≤100000):
 Calls Tryz.prog 23 #[.pointer (some ⟨g,0,none⟩),.slice (some ⟨b,0,none⟩) 2 c] w fun e' w'=>e'=.returned (.tuple #[])∧Wr w' B g (L++[x++32::y]) e∧Below B w w':=by
 obtain⟨sv,hgB,hBw,hG,hO⟩:=h;have KJ:=hid (fun(W:World) (q0:b<W.heap.size) (q1:W.cell? ⟨b,0,none⟩=some (tx x)) (q2:W.cell? ⟨b,1,none⟩=some (tx y))=>join2_any b c x y W q0 q1 q2 hc hx hy);obtain⟨z,hz⟩: ∃z,x++32::y=z:=⟨_,rfl⟩;rw[hz] at KJ⊢;obtain⟨i0,hi0,hz0,hz1,hzb⟩:=info_parts Tryz.infoStr;have hgb:b≠g∨True:=.inr trivial;clear hz hgb;go_enter func23,ntmps23;refine wp_region_inv3 (by kernel_rfl) (WdI w B g b c sv x y z L e) (waits_bind (by kernel_rfl)) ?start ?step ?fin
 case start=>exact WdI.start _ hBw ⟨hb,h0,h1⟩ hO hG
 case step=>
  clear hG hO hb h0 h1;rintro M i o a1' w' ho hL haf ⟨v4,v5,v6,v7,v8,v9,v10,v11,v12,v13,v14,rfl,hB,hD,hE,hF,hA,hO,hN,hG,hS,hR,e0,e1,e2,e3,e4,e5,e6,e9,e10⟩
  have HB:=hid hB;have HD:=hid hD;have HE:=hid hE;have HF:=hid hF;have HA:=hid hA;have HO:=hid hO;have HN:=hid hN;have HG:=hid hG;have HS:=hid hS;have HR:=hid hR;have E0:=hid e0;have E1:=hid e1;have E2:=hid e2;have E3:=hid e3;have E4:=hid e4;have E5:=hid e5;have E6:=hid e6;have E9:=hid e9;have E10:=hid e10;clear hB hD hE hF hA hO hN hG hS hR e0 e1 e2 e3 e4 e5 e6 e9 e10;rcases i with _|_|_|_|_|_|_|_|_|_|_|_|i
  all_goals (simp at ho;try subst ho)
  all_goals (try simp[Region.binds] at haf)
  · go_wp2
    unfold WdI;exact⟨(.pointer (some ⟨g,0,none⟩)),v5,v6,v7,v8,v9,v10,v11,v12,v13,v14,puIm,HB.out,kd HD,ke HE,kf HF,kn HA,kn HO,kp HN,kn HG,kp HS,km HR,rf_,kq E1,kq E2,kq E3,kq E4,kq E5,kq E6,kq E9,kq E10⟩
  · go_wp2
    unfold WdI;exact⟨v4,(.pointer (some ⟨g,0,none⟩)),v6,v7,v8,v9,v10,v11,v12,v13,v14,puIm,HB.out,kd HD,ke HE,kf HF,kn HA,kn HO,kp HN,kn HG,kp HS,km HR,kq E0,rf_,kq E2,kq E3,kq E4,kq E5,kq E6,kq E9,kq E10⟩
  · obtain rfl:=(E1.out (by simp[haf])).symm
    go_wp2;unfold WdI;exact⟨v4,(.pointer (some ⟨g,0,none⟩)),(.pointer (some ⟨g,0,none⟩)),v7,v8,v9,v10,v11,v12,v13,v14,puIm,HB.out,kd HD,ke HE,kf HF,kn HA,kn HO,kp HN,kn HG,kp HS,km HR,kq E0,rf_,rf_,kq E3,kq E4,kq E5,kq E6,kq E9,kq E10⟩
  · obtain rfl:=(E2.out (by simp[haf])).symm
    go_wp2;unfold WdI;exact⟨v4,v5,(.pointer (some ⟨g,0,none⟩)),(.pointer (some ⟨g,0,none⟩)),v8,v9,v10,v11,v12,v13,v14,puIm,HB.out,kd HD,ke HE,kf HF,kn HA,kn HO,kp HN,kn HG,kp HS,km HR,kq E0,kq E1,rf_,rf_,kq E4,kq E5,kq E6,kq E9,kq E10⟩
  · obtain rfl:=(E3.out (by simp[haf])).symm
    have n8:M 8=false:=by cases h8:M 8 with|false=>rfl|true=>exact absurd (HD.out h8).1 (by simp[hL])
    have n11:M 11=false:=by cases h8:M 11 with|false=>rfl|true=>exact absurd (HE.out h8) (by simp[n8])
    have y0:w'.cell? ⟨g,0,none⟩=some sv:=(HG.out n11).cell 0;go_wp2;unfold WdI;exact⟨v4,v5,v6,(.pointer (some ⟨g,0,none⟩)),(sv),v9,v10,v11,v12,v13,v14,puIm,HB.out,kd HD,ke HE,kf HF,kn HA,kn HO,kp HN,kn HG,kp HS,km HR,kq E0,kq E1,kq E2,rf_,rf_,kq E5,kq E6,kq E9,kq E10⟩
  · go_wp2
    unfold WdI;exact⟨v4,v5,v6,v7,v8,(.slice (some ⟨b,0,none⟩) 2 c),v10,v11,v12,v13,v14,puIm,HB.out,kd HD,ke HE,kf HF,kn HA,kn HO,kp HN,kn HG,kp HS,km HR,kq E0,kq E1,kq E2,kq E3,kq E4,rf_,kq E6,kq E9,kq E10⟩
  · obtain rfl:=(E5.out (by simp[haf])).symm
    have n8:M 8=false:=by cases h8:M 8 with|false=>rfl|true=>exact absurd (HD.out h8).2.1 (by simp[hL])
    have n7:M 7=false:=by cases h8:M 7 with|false=>rfl|true=>exact absurd (HF.out h8) (by simp[hL])
    have n11:M 11=false:=by cases h8:M 11 with|false=>rfl|true=>exact absurd (HE.out h8) (by simp[n8])
    have hA:=HA.out n8;have hO:=HO.out n8;have hG:=HG.out n11;have K9:=hid (KJ.out w' hA.1 hA.2.1 hA.2.2);go_wp2_with fail;(with_reducible refine(K9.out).mono ?_)
    rintro e9 w9 ⟨rfl,hb9⟩
    have B9:=HB.out.trans (hb9.mono (Nat.le_trans hBw HB.out.size));have lt9:=hb9.size;go_wp2;unfold WdI;exact⟨v4,v5,v6,v7,v8,(.slice (some ⟨b,0,none⟩) 2 c),(tx z),v11,v12,v13,v14,puIm,B9,fun h=>absurd h (by simp[mkd,n8]),fun h=>absurd h (by simp[mkd,n11]),fun h=>absurd h (by simp[mkd,n7]),fun _=>⟨om_,(hb9.cell (p:=⟨b,0,none⟩) hA.1).trans hA.2.1,(hb9.cell (p:=⟨b,1,none⟩) hA.1).trans hA.2.2⟩,fun _=>own_bl hO hb9 (Nat.le_refl _),fun h=>absurd h (by simp[mkd,n8]),fun _=>hG.below hb9 hG.lt,fun h=>absurd h (by simp[mkd,n11]),fun h=>absurd h (by simp[mkd,n7]),kq E0,kq E1,kq E2,kq E3,kq E4,rf_,rf_,kq E9,kq E10⟩
  · obtain rfl:=(E6.out (by simp[haf])).symm
    have n8:M 8=false:=by cases h8:M 8 with|false=>rfl|true=>exact absurd (HD.out h8).2.2 (by simp[hL])
    have n11:M 11=false:=by cases h8:M 11 with|false=>rfl|true=>exact absurd (HE.out h8) (by simp[n8])
    have hA:=HA.out n8;have hO:=HO.out n8;have hG:=HG.out n11;have hBs:=HB.out.size;have m6:M 6=true:=by simp[haf]
    go_wp2;unfold WdI;exact⟨v4,v5,v6,v7,v8,v9,(tx z),(.slice (some ⟨w'.heap.size,0,none⟩) 1 1),v12,v13,v14,puIm,HB.out.alloc om_ _,fun h=>absurd h (by simp[mkd,n8]),fun h=>absurd h (by simp[mkd,n11]),fun _=>by simp[mkd,m6],fun _=>⟨by simp;omega,(World.cell?_alloc_lt w' _ ⟨b,0,none⟩ hA.1).trans hA.2.1,(World.cell?_alloc_lt w' _ ⟨b,1,none⟩ hA.1).trans hA.2.2⟩,fun _=>own_bl hO (bl_alloc _ _) (Nat.le_refl _),fun h=>absurd h (by simp[mkd,n8]),fun _=>hG.alloc _,fun h=>absurd h (by simp[mkd,n11]),fun _ _=>⟨_,rfl,reads_tx w' z _⟩,kq E0,kq E1,kq E2,kq E3,kq E4,kq E5,rf_,kq E9,kq E10⟩
  · obtain rfl:=(E4.out (by simp[haf])).symm
    have m47:M 4=true∧M 7=true:=by simp[haf]
    have m6:=HF.out m47.2;have n11:M 11=false:=by cases h8:M 11 with|false=>rfl|true=>exact absurd (HE.out h8) (by simp[hL])
    have hO:=HO.out hL;have hG:=HG.out n11;have hBs:=HB.out.size;obtain⟨b7,rfl,hR⟩:=HR.out m47.2 hL;have hne:=own_blk_ne hO hG dc_;simp only[Act.put,List.setIfInBounds_toArray,List.set_cons_zero,List.set_cons_succ];refine wpList_append_any _ rfl (.tmp 8) (.tmp 11) _ rfl B 9 i0 _ 1 16 underlying24 hi0 hz0 hz1 hzb rfl dc_ sv L.length (txs L) (by simp[Act.eval]) hO w'.heap.size (some ⟨b7,0,none⟩) 1 1 (txs [z]) (by simp[Act.eval]) hR (txs_one _) (by simp only[maxLen];omega) om_ om_ ?_;intro u9 w9 hown9 hg9 hob9;go_wp2;have hB9:Below B w w9:=HB.out.grown hg9 om_ (fun k hk=>own_base hO k hk);unfold WdI;exact⟨v4,v5,v6,v7,(sv),v9,v10,(.slice (some ⟨b7,0,none⟩) 1 1),u9,v13,v14,puIm,hB9,fun _=>by simp[mkd,m47,m6],fun h=>absurd h (by simp[mkd,n11]),kf HF,fun h=>absurd h (by simp[mkd]),fun h=>absurd h (by simp[mkd]),fun _=>by rw[txs_app];exact hown9,fun _=>hG.grown hg9 (fun q=>hne q.symm),fun h=>absurd h (by simp[mkd,n11]),fun _ h=>absurd h (by simp[mkd]),kq E0,kq E1,kq E2,kq E3,rf_,kq E5,kq E6,kq E9,kq E10⟩
  · obtain rfl:=(E0.out (by simp[haf])).symm
    go_wp2;unfold WdI;exact⟨(.pointer (some ⟨g,0,none⟩)),v5,v6,v7,v8,v9,v10,v11,v12,(.pointer (some ⟨g,0,none⟩)),v14,puIm,HB.out,kd HD,ke HE,kf HF,kn HA,kn HO,kp HN,kn HG,kp HS,km HR,rf_,kq E1,kq E2,kq E3,kq E4,kq E5,kq E6,rf_,kq E10⟩
  · obtain rfl:=(E9.out (by simp[haf])).symm
    go_wp2;unfold WdI;exact⟨v4,v5,v6,v7,v8,v9,v10,v11,v12,(.pointer (some ⟨g,0,none⟩)),(.pointer (some ⟨g,0,none⟩)),puIm,HB.out,kd HD,ke HE,kf HF,kn HA,kn HO,kp HN,kn HG,kp HS,km HR,kq E0,kq E1,kq E2,kq E3,kq E4,kq E5,kq E6,rf_,rf_⟩
  · obtain rfl:=(E10.out (by simp[haf])).symm
    have m8:M 8=true:=by simp[haf]
    have hG:=HG.out hL;have hN:=HN.out m8;obtain⟨A5,c5,rfl,-,-,-⟩:=own_form hN;have y0:w'.cell? ⟨g,0,none⟩=some sv:=hG.cell 0;have z0:=hG.frozen 0;go_wp2;unfold WdI;exact⟨v4,v5,v6,v7,v8,v9,v10,v11,(.slice A5 (L.length+1) c5),v13,(.pointer (some ⟨g,0,none⟩)),puIm,HB.out.setCell hgB _,kd HD,fun _=>by simp[mkd,m8],kf HF,fun h=>absurd h (by simp[mkd,m8]),fun h=>absurd h (by simp[mkd,m8]),fun _=>ownsRow_far hN hG dc_,fun h=>absurd h (by simp[mkd]),fun _=>hG.set_ 0 _,fun _ h=>absurd h (by simp[mkd,m8]),kq E0,kq E1,kq E2,kq E3,kq E4,kq E5,kq E6,kq E9,rf_⟩
 case fin=>
  rintro M a1' w' hall ⟨v4,v5,v6,v7,v8,v9,v10,v11,v12,v13,v14,rfl,hB,hD,hE,hF,hA,hO,hN,hG,hS,hR,e0,e1,e2,e3,e4,e5,e6,e9,e10⟩
  simp only[Act.put,List.setIfInBounds_toArray,List.set_cons_zero,List.set_cons_succ];go_wp2;exact bodyPost_end (results_none results23 _ _ _) rfl ⟨rfl,⟨v12,hgB,Nat.le_trans hBw hB.size,hS (hall 11 dc_),by rw[List.length_append];exact hN (hall 8 dc_)⟩,hB⟩
end
section
open Go.Shelf Frm
open Lib (decDigits)
def sideL(n:Int)(p m:Bs):Bs:=textL (n.natAbs:Int)++(if n<0 then m else p)
def ptL(a b:Int):Bs:=sideL a [78] [83]++32::sideL b [69] [87]
theorem side_len(n:Int)(p m:Bs)(hn:n.natAbs≤1099511627776)(hp:p.length≤1)(hm:m.length≤1):(sideL n p m).length≤41:=by
 have:=text_len (n:=(n.natAbs:Int)) om_;unfold sideL;rw[List.length_append];split<;>omega
theorem print_ok{lo hi:Int}(h1: -1099511627676≤lo)(h2:hi≤1099511627676):(printL lo hi).2=0:=by
 have n1:=rnd_near lo;have n2:=rnd_near hi;unfold printL;rw[if_neg om_];split<;>rfl
theorem print_len{lo hi:Int}(h0:lo≤hi)(_h1: -1099511627776≤lo)(_h2:hi≤1099511627776):(printL lo hi).1.length≤84:=by
 have n1:=rnd_near lo;have n2:=rnd_near hi;have hle:rnd lo≤rnd hi:=by unfold rnd;omega
 unfold printL;split
 · simp
 · have t1:=text_len (n:=rnd lo) om_
   have t2:=text_len (n:=rnd hi) om_;split
   · simp only[];omega
   · simp only[List.length_append,List.length_cons,List.length_nil];omega
theorem side_any(n:Int)(p m:Bs)(w:World)(hn:n.natAbs≤1099511627776)(hp:p.length≤1)(hm:m.length≤1)(ht:Tab w):
 Calls Tryz.prog 60 #[vi vk n,tx p,tx m] w fun e w'=>e=.returned (tx (sideL n p m))∧Below w.heap.size w w':=by
 have KT:=aText_any (n.natAbs:Int) w om_ ht;have hl:=text_len (n:=(n.natAbs:Int)) om_;obtain⟨r,hr⟩: ∃r,sideL n p m=r:=⟨_,rfl⟩;rw[hr];unfold sideL at hr;generalize textL (n.natAbs:Int)=T at KT hl hr;rcases Int.lt_or_le n 0 with hneg|hpos
 · have e1:wrap64 (-n)=(n.natAbs:Int):=by rw[IntWalk.wrap64_in _ om_];omega
   have d0:decide (n<0)=true:=decide_eq_true hneg;rw[if_pos hneg] at hr;have ha:=tx_add T m om_ om_;have KT:=hid KT;subst hr;generalize (n.natAbs:Int)=k at KT e1;clear hneg hl hn ht;go_enter func60,ntmps60;go_wp2_with fail;(with_reducible refine KT.out.mono ?_)
   rintro e w1 ⟨rfl,hb1⟩
   go_wp2;go_ret;exact⟨rfl,hb1⟩
 · obtain⟨k,rfl⟩: ∃k:Nat,n=(k:Int):=⟨n.toNat,om_⟩
   have d0:decide ((k:Int)<0)=false:=decide_eq_false om_;rw[if_neg om_] at hr;rw[Int.natAbs_natCast] at KT;have ha:=tx_add T p om_ om_;have KT:=hid KT;subst hr;clear hpos hl hn ht;go_enter func60,ntmps60;go_wp2_with fail;(with_reducible refine KT.out.mono ?_)
   rintro e w1 ⟨rfl,hb1⟩
   go_wp2;go_ret;exact⟨rfl,hb1⟩
theorem pText_any(a b:Int)(w:World)(hv:vptB a b=true)(ha: -10800000≤a∧a≤10800000)(hb: -10800000≤b∧b≤10800000)(ht:Tab w):
 Calls Tryz.prog 26 #[.agg #[vi vk a,vi vk b]] w fun e w'=>e=.returned (.tuple #[tx (ptL a b),vi vk 0])∧Below w.heap.size w w':=by
 have KV:=hid (fun W=>vpt_yes a b hv W);have KA:=hid (fun(W:World) (h:Below w.heap.size w W)=>side_any a [78] [83] W om_ (by simp) (by simp) (ht.stays h (Nat.le_refl _)));have KB:=hid (fun(W:World) (h:Below w.heap.size w W)=>side_any b [69] [87] W om_ (by simp) (by simp) (ht.stays h (Nat.le_refl _)));have l1:=side_len a [78] [83] om_ (by simp) (by simp);have l2:=side_len b [69] [87] om_ (by simp) (by simp);obtain⟨r,hr⟩: ∃r,ptL a b=r:=⟨_,rfl⟩;rw[hr];unfold ptL at hr;generalize sideL a [78] [83]=X at*;generalize sideL b [69] [87]=Y at*;have a1:=tx_add X [32] om_ (by simp);have a2:=tx_add (X++[32]) Y (by simp;omega) om_;rw[show X++[32]++Y=r by rw[←hr];simp] at a2;generalize X++[32]=X1 at a1 a2;clear hr l1 l2 ha hb hv ht;have G0:=hid (Blk.new w 50 #[vi vk a,vi vk b]);have B0:=hid (bl_alloc w (.cells #[vi vk a,vi vk b] 50));go_enter func26,ntmps26;go_upto_region 1 with (fail)
 generalize w.alloc (.cells #[vi vk a,vi vk b] 50)=w0 at G0 B0⊢;have y0:w0.cell? ⟨w.heap.size,0,none⟩=some (vi vk a):=G0.out.cell 0;have y1:w0.cell? ⟨w.heap.size,1,none⟩=some (vi vk b):=G0.out.cell 1;go_wp2_with fail;(with_reducible refine(KV.out _).mono ?_)
 rintro e w1 ⟨rfl,hb1⟩
 have B1:=hid (B0.out.trans (hb1.mono B0.out.size));have G1:=hid (G0.out.below hb1 G0.out.lt);clear hb1 KV G0 B0 y0 y1;go_upto_region 3 with (fail)
 have k0: ∀s:BV w1,s.w.cell? ⟨w.heap.size,0,none⟩=some (vi vk a):=fun s=>(s.hb.cell (p:=⟨w.heap.size,0,none⟩) G1.out.lt).trans (G1.out.cell 0);have k1: ∀s:BV w1,s.w.cell? ⟨w.heap.size,1,none⟩=some (vi vk b):=fun s=>(s.hb.cell (p:=⟨w.heap.size,1,none⟩) G1.out.lt).trans (G1.out.cell 1);have KA1:=hid (fun(s:BV w1)=>KA.out s.w (B1.out.trans (s.hb.mono B1.out.size)));have KB1:=hid (fun(s:BV w1)=>KB.out s.w (B1.out.trans (s.hb.mono B1.out.size)));clear KA KB;refine wp_region_bv w1 (by kernel_rfl) (by kernel_rfl) (Below.refl _ _) ?_;(repeat (go_big_quiet_step (first|(go_at_call 60;first|with_reducible exact quiet_bv (KA1.out _)|with_reducible exact quiet_bv (KB1.out _))|fail)))
 refine wpQuiet_nil ?_;intro wb hbb;have B2:=hid (B1.out.trans (hbb.mono B1.out.size));clear k0 k1 KA1 KB1 hbb;go_wp2;go_ret2
 exact⟨rfl,B2.out⟩
end
section
open Go.Shelf Frm
open Lib (decDigits)
theorem wkeep_any(B g:Nat)(x:Int)(L:List Bs)(w:World)(h:Wr w B g L 0):
 Calls Tryz.prog 27 #[.pointer (some ⟨g,0,none⟩),vi vk x] w fun e' w'=>e'=.returned (.tuple #[])∧Wr w' B g L x∧Below B w w':=by
 obtain⟨sv,hgB,hBw,hG,hO⟩:=h;have y0:w.cell? ⟨g,0,none⟩=some sv:=hG.cell 0;have y1:w.cell? ⟨g,1,none⟩=some (vi vk 0):=hG.cell 1;have z1:w.frozen? ⟨g,1,none⟩=false:=hG.frozen 1;have hA:=hid hG;have hB:=hid hO;clear hG hO;go_enter func27,ntmps27;go_wp2;exact bodyPost_end (results_none results27 _ _ _) rfl ⟨rfl,⟨sv,hgB,by simpa using hBw,hA.out.set_ 1 _,ownsRow_far hB.out hA.out dc_⟩,(Below.refl _ _).setCell hgB _⟩
theorem Wr.size{w:World}{B g:Nat}{L:List Bs}{e:Int}(h:Wr w B g L e):B≤w.heap.size:=by
 obtain⟨sv,h0,h1,h2,h3⟩:=h;exact h1
theorem Wr.alloc{w:World}{B g:Nat}{L:List Bs}{e:Int}(h:Wr w B g L e)(o:Obj):Wr (w.alloc o) B g L e:=h.below (bl_alloc w o)
theorem number_any(B g:Nat)(lab:Bs)(lo hi:Int)(L:List Bs)(w:World)(h:Wr w B g L 0)(h0:lo≤hi)(h1: -1099511627776≤lo)(h2:hi≤1099511627776)(hlab:lab.length≤1000)(hL:L.length≤100000)(ht:Tab w):
 Calls Tryz.prog 25 #[.pointer (some ⟨g,0,none⟩),tx lab,.agg #[vi vk lo,vi vk hi]] w fun e' w'=>e'=.returned (.tuple #[])∧Wr w' B g (L++[lab++32::(printL lo hi).1]) (printL lo hi).2∧Below B w w':=by
 have hpl:=print_len h0 h1 h2;have KP:=hid (fun(W:World) (hb:Below w.heap.size w W)=>aprint_any lo hi W h0 h1 h2 (ht.stays hb (Nat.le_refl _)));obtain⟨⟨t,x⟩,hp⟩: ∃p,printL lo hi=p:=⟨_,rfl⟩;rw[hp] at KP hpl⊢;simp only[] at KP hpl⊢;clear hp h0 h1 h2 ht;have hBw:=h.size;have G0:=hid (Blk.new w 33 #[vi vk lo,vi vk hi]);have B0:=hid (bl_alloc w (.cells #[vi vk lo,vi vk hi] 33));have R0:=hid (h.alloc (.cells #[vi vk lo,vi vk hi] 33));clear h;go_enter func25,ntmps25;go_upto_region 1 with (fail)
 generalize w.alloc (.cells #[vi vk lo,vi vk hi] 33)=w0 at G0 B0 R0⊢;have y0:w0.cell? ⟨w.heap.size,0,none⟩=some (vi vk lo):=G0.out.cell 0;have y1:w0.cell? ⟨w.heap.size,1,none⟩=some (vi vk hi):=G0.out.cell 1;have KP0:=hid (KP.out _ B0.out);clear KP;go_wp2_with fail;(with_reducible refine KP0.out.mono ?_)
 rintro e w1 ⟨rfl,hb1⟩
 have B1:=hid ((B0.out.trans (hb1.mono B0.out.size)).mono hBw);have R1:=hid (R0.out.below hb1);have KK:=hid (wkeep_any B g x L w1 R1.out);clear KP0 hb1 R0 B0 G0 y0 y1 R1;go_wp2_with fail;(with_reducible refine KK.out.mono ?_)
 rintro e w2 ⟨rfl,R2,hb2⟩
 have B2:=hid (B1.out.trans hb2);have hs:=R2.size;have R3:=hid (R2.alloc (.cells #[tx lab,tx t] 9));have B3:=hid (B2.out.trans ((bl_alloc w2 (.cells #[tx lab,tx t] 9)).mono hs));have KW:=hid (words_any B g w2.heap.size 2 lab t L x _ R3.out (by simp) (by simp) (by simp) dc_ om_ om_ hL);clear KK hb2 R2 B1;go_wp2_with fail;(with_reducible refine KW.out.mono ?_)
 rintro e w4 ⟨rfl,R4,hb4⟩
 go_wp2;exact bodyPost_end (results_none results25 _ _ _) rfl ⟨rfl,R4,B3.out.trans hb4⟩
theorem result_any(B g:Nat)(L:List Bs)(w:World)(h:Wr w B g L 0):
 Calls Tryz.prog 28 #[.pointer (some ⟨g,0,none⟩)] w fun e' w'=> ∃sv,e'=.returned (.tuple #[sv,vi vk 0])∧w'=w∧w.ownsRow B 9 1 sv L.length (txs L):=by
 obtain⟨sv,hgB,hBw,hG,hO⟩:=h;have y0:w.cell? ⟨g,0,none⟩=some sv:=hG.cell 0;have y1:w.cell? ⟨g,1,none⟩=some (vi vk 0):=hG.cell 1;have hB:=hid hO;clear hG hO;go_enter func28,ntmps28;go_wp2;go_ret2
 exact⟨sv,rfl,rfl,hB.out⟩
end
section
open Go.Shelf Frm
open Lib (decDigits)
def RetLs(LL:List Bs)(w:World)(e:Ending)(w':World):Prop:= ∃sv,e=.returned (.tuple #[sv,vi vk 0])∧w'.ownsRow w.heap.size 9 1 sv LL.length (txs LL)∧Below w.heap.size w w'
abbrev wCells:Bs:=[99,101,108,108,115]
abbrev wParts:Bs:=[112,97,114,116,115]
abbrev wLat:Bs:=[108,97,116,105,116,117,100,101]
abbrev wLon:Bs:=[108,111,110,103,105,116,117,100,101]
abbrev wCen:Bs:=[99,101,110,116,101,114]
abbrev wRad:Bs:=[114,97,100,105,117,115]
def fixN(n m:Nat)(b0 b1 b2 b3 c0 c1 r0 r1:Int):List Bs:=
 [wCells++32::decDigits n,wParts++32::decDigits m,wLat++32::(printL b0 b1).1,wLon++32::(printL b2 b3).1,wCen++32::ptL c0 c1,wRad++32::(printL r0 r1).1]
theorem Wr.new(w:World):Wr (w.alloc (.cells #[.slice none 0 0,vi vk 0] 64)) w.heap.size w.heap.size [] 0:=by
 refine⟨_,Nat.le_refl _,by simp,Blk.new w _ _,?_⟩;exact own_nil _ _ _ _
theorem words_new(B g:Nat)(x y:Bs)(L:List Bs)(T:TypeId)(W:World)(h:Wr W B g L 0)(hx:x.length≤100000)(hy:y.length≤100000)(hL:L.length≤100000):
 Calls Tryz.prog 23 #[.pointer (some ⟨g,0,none⟩),.slice (some ⟨W.heap.size,0,none⟩) 2 2] (W.alloc (.cells #[tx x,tx y] T)) fun e' w'=>e'=.returned (.tuple #[])∧Wr w' B g (L++[x++32::y]) 0∧Below B W w':=
 (words_any B g W.heap.size 2 x y L 0 _ (h.alloc _) (by simp) (by simp) (by simp) dc_ hx hy hL).mono fun e' w' ⟨he,h1,h2⟩=>⟨he,h1,((bl_alloc W _).mono h.size).trans h2⟩
theorem fFix_num(A:Option Addr)(n ca m:Nat)(b0 b1 b2 b3 c0 c1 r0 r1:Int)(w:World)(hn:n≤4000)(hm:m≤4000)(ht:Tab w)
 (KB: ∀W,Below w.heap.size w W→Calls Tryz.prog 18 #[.slice A n ca] W fun e' w'=>e'=.returned (.tuple #[.agg #[vi vk b0,vi vk b1,vi vk b2,vi vk b3],vi vk 0])∧Below W.heap.size W w')
 (KQ: ∀W,Below w.heap.size w W→Calls Tryz.prog 22 #[.slice A n ca] W fun e' w'=>(∃Q c,e'=.returned (.tuple #[.slice Q m c,vi vk 0]))∧Below W.heap.size W w')
 (KC: ∀W,Below w.heap.size w W→Calls Tryz.prog 19 #[.slice A n ca] W fun e' w'=>e'=.returned (.tuple #[.agg #[vi vk c0,vi vk c1],vi vk 0])∧Below W.heap.size W w')
 (KR: ∀W,Below w.heap.size w W→Calls Tryz.prog 20 #[.slice A n ca,.agg #[vi vk c0,vi vk c1]] W fun e' w'=>e'=.returned (.tuple #[.agg #[vi vk r0,vi vk r1],vi vk 0])∧Below W.heap.size W w')
 (hb:b0≤b1∧b2≤b3∧r0≤r1∧ -90000000≤b0∧ -90000000≤b2∧ -90000000≤r0∧b1≤90000000∧b3≤90000000∧r1≤90000000)
 (hv:vptB c0 c1=true) (hc0: -10800000≤c0∧c0≤10800000) (hc1: -10800000≤c1∧c1≤10800000):
 Calls Tryz.prog 8 #[.slice A n ca] w (RetLs (fixN n m b0 b1 b2 b3 c0 c1 r0 r1) w):=by
 replace KB:=hid KB
 replace KQ:=hid KQ
 replace KC:=hid KC
 replace KR:=hid KR
 have HT:=hid (fun(W:World) (h:Below w.heap.size w W)=>ht.stays h (Nat.le_refl _));have q1:=print_ok (lo:=b0) (hi:=b1) om_ om_;have q2:=print_ok (lo:=b2) (hi:=b3) om_ om_;have q3:=print_ok (lo:=r0) (hi:=r1) om_ om_;have KI:=hid (fun(k:Nat) (W:World) (hk:k≤4000) (h:Below w.heap.size w W)=>itoa_any (k:Int) W om_ om_ (HT.out W h));have KN1:=hid (fun(B g:Nat) (L:List Bs) (W:World) (h:Wr W B g L 0) (hL:L.length≤100000) (hb':Below w.heap.size w W)=>number_any B g wLat b0 b1 L W h hb.1 om_ om_ (by simp) hL (HT.out W hb'));have KN2:=hid (fun(B g:Nat) (L:List Bs) (W:World) (h:Wr W B g L 0) (hL:L.length≤100000) (hb':Below w.heap.size w W)=>number_any B g wLon b2 b3 L W h hb.2.1 om_ om_ (by simp) hL (HT.out W hb'));have KN3:=hid (fun(B g:Nat) (L:List Bs) (W:World) (h:Wr W B g L 0) (hL:L.length≤100000) (hb':Below w.heap.size w W)=>number_any B g wRad r0 r1 L W h hb.2.2.1 om_ om_ (by simp) hL (HT.out W hb'));have KT:=hid (fun(W:World) (h:Below w.heap.size w W)=>pText_any c0 c1 W hv hc0 hc1 (HT.out W h));have ld1:=dd_len 9 n om_;have ld2:=dd_len 9 m om_;have lp:(ptL c0 c1).length≤100:=by
  have s1:=side_len c0 [78] [83] om_ (by simp) (by simp);have s2:=side_len c1 [69] [87] om_ (by simp) (by simp);unfold ptL;rw[List.length_append,List.length_cons];omega
 rw[q1] at KN1;rw[q2] at KN2;rw[q3] at KN3;clear q1 q2 q3 hb hv hc0 hc1 ht;obtain⟨LL,hLL⟩: ∃LL,fixN n m b0 b1 b2 b3 c0 c1 r0 r1=LL:=⟨_,rfl⟩;rw[hLL];unfold fixN at hLL;generalize (printL b0 b1).1=t3 at KN1 hLL;generalize (printL b2 b3).1=t4 at KN2 hLL;generalize (printL r0 r1).1=t6 at KN3 hLL;generalize ptL c0 c1=t5 at KT lp hLL;obtain⟨t1,ht1⟩: ∃t,decDigits n=t:=⟨_,rfl⟩;obtain⟨t2,ht2⟩: ∃t,decDigits m=t:=⟨_,rfl⟩;rw[ht1] at ld1 hLL;rw[ht2] at ld2 hLL;have HLL:Hid ([]++[wCells++32::t1]++[wParts++32::t2]++[wLat++32::t3]++[wLon++32::t4]++[wCen++32::t5]++[wRad++32::t6]=LL):=hid (by rw[←hLL];rfl);clear hLL;go_enter func8,ntmps8;go_wp2_with fail;(with_reducible refine((KB.out _ (Below.refl _ _))).mono ?_)
 rintro e1 w1 ⟨rfl,hb1⟩
 have N1:=hid (Blk.new w1 46 #[vi vk b0,vi vk b1,vi vk b2,vi vk b3]);have B1:=hid (hb1.alloc hb1.size (.cells #[vi vk b0,vi vk b1,vi vk b2,vi vk b3] 46));clear hb1 KB;go_wp2_with fail;(with_reducible refine((KQ.out _ B1.out)).mono ?_)
 rintro e2 w2 ⟨⟨Q,cq,rfl⟩,hb2⟩
 have B2:=hid (B1.out.trans (hb2.mono B1.out.size));have N2:=hid (N1.out.below hb2 N1.out.lt);clear hb2 KQ B1 N1;go_wp2_with fail;(with_reducible refine((KC.out _ B2.out)).mono ?_)
 rintro e3 w3 ⟨rfl,hb3⟩
 have B3:=hid ((B2.out.trans (hb3.mono B2.out.size)).alloc (by have:=B2.out.size;have:=hb3.size;omega) (.cells #[vi vk c0,vi vk c1] 50));have N3:=hid ((N2.out.below hb3 N2.out.lt).alloc (.cells #[vi vk c0,vi vk c1] 50));have M3:=hid (Blk.new w3 50 #[vi vk c0,vi vk c1]);clear hb3 KC B2 N2;generalize hg1:w1.heap.size=g1 at*;generalize hg3:w3.heap.size=g3 at*;have y0:=M3.out.cell 0;have y1:=M3.out.cell 1;go_wp2_with fail;(with_reducible refine((KR.out _ B3.out)).mono ?_)
 rintro e4 w4 ⟨rfl,hb4⟩
 have B4:=hid ((B3.out.trans (hb4.mono B3.out.size)).alloc (by have:=B3.out.size;have:=hb4.size;omega) (.cells #[vi vk r0,vi vk r1] 33));have N4:=hid ((N3.out.below hb4 N3.out.lt).alloc (.cells #[vi vk r0,vi vk r1] 33));have M4:=hid ((M3.out.below hb4 M3.out.lt).alloc (.cells #[vi vk r0,vi vk r1] 33));have R4:=hid (Blk.new w4 33 #[vi vk r0,vi vk r1]);clear hb4 KR B3 N3 M3 y0 y1 hg1 hg3;generalize hg4:w4.heap.size=g4 at*;go_upto_region 13 with (fail)
 generalize w4.alloc (.cells #[vi vk r0,vi vk r1] 33)=W4 at B4 N4 M4 R4⊢;have B5:=hid (B4.out.alloc B4.out.size (.cells #[.slice none 0 0,vi vk 0] 64));have N5:=hid (N4.out.alloc (.cells #[.slice none 0 0,vi vk 0] 64));have M5:=hid (M4.out.alloc (.cells #[.slice none 0 0,vi vk 0] 64));have R5:=hid (R4.out.alloc (.cells #[.slice none 0 0,vi vk 0] 64));have V5:=hid (Wr.new W4);have b1:g1<W4.heap.size:=N4.out.lt;have b3:g3<W4.heap.size:=M4.out.lt;have b4:g4<W4.heap.size:=R4.out.lt;have bw:w.heap.size≤W4.heap.size:=B4.out.size;clear B4 N4 M4 R4 hg4;go_upto_region 14 with (fail)
 generalize W4.alloc (.cells #[.slice none 0 0,vi vk 0] 64)=w5 at B5 N5 M5 R5 V5⊢;generalize W4.heap.size=gw at*;have KI5:=KI.out n w5 om_ B5.out;rw[itoa_nat,ht1] at KI5;replace KI5:=hid KI5
 go_wp2_with fail;(with_reducible refine(KI5.out).mono ?_)
 rintro e6 w6 ⟨rfl,hb6⟩
 clear KI5;have B6:=hid (B5.out.trans (hb6.mono B5.out.size));have N6:=hid (N5.out.below hb6 N5.out.lt);have M6:=hid (M5.out.below hb6 M5.out.lt);have R6:=hid (R5.out.below hb6 R5.out.lt);have V6:=hid (V5.out.below hb6);clear hb6 B5 N5 M5 R5 V5;have KW6:=hid (words_new gw gw wCells t1 ([]) 9 w6 V6.out (by simp) om_ (by simp));go_wp2_with fail;(with_reducible refine(KW6.out).mono ?_)
 rintro e7 w7 ⟨rfl,v7,hb7⟩
 have VV7:=hid v7;clear v7 KW6;have B7:=hid (B6.out.trans (hb7.mono bw));have N7:=hid (N6.out.below hb7 b1);have M7:=hid (M6.out.below hb7 b3);have R7:=hid (R6.out.below hb7 b4);clear hb7 B6 N6 M6 R6 V6;have V7:=VV7;clear VV7;have KI7:=KI.out m w7 om_ B7.out;rw[itoa_nat,ht2] at KI7;replace KI7:=hid KI7
 go_wp2_with fail;(with_reducible refine(KI7.out).mono ?_)
 rintro e8 w8 ⟨rfl,hb8⟩
 clear KI7;have B8:=hid (B7.out.trans (hb8.mono B7.out.size));have N8:=hid (N7.out.below hb8 N7.out.lt);have M8:=hid (M7.out.below hb8 M7.out.lt);have R8:=hid (R7.out.below hb8 R7.out.lt);have V8:=hid (V7.out.below hb8);clear hb8 B7 N7 M7 R7 V7;have KW8:=hid (words_new gw gw wParts t2 ([]++[wCells++32::t1]) 9 w8 V8.out (by simp) om_ (by simp));go_wp2_with fail;(with_reducible refine(KW8.out).mono ?_)
 rintro e9 w9 ⟨rfl,v9,hb9⟩
 have VV9:=hid v9;clear v9 KW8;have B9:=hid (B8.out.trans (hb9.mono bw));have N9:=hid (N8.out.below hb9 b1);have M9:=hid (M8.out.below hb9 b3);have R9:=hid (R8.out.below hb9 b4);clear hb9 B8 N8 M8 R8 V8;have V9:=VV9;clear VV9;have KN109:=hid (KN1.out gw gw ([]++[wCells++32::t1]++[wParts++32::t2]) w9 V9.out (by simp) B9.out);have y0:=N9.out.cell 0;have y1:=N9.out.cell 1;go_wp2_with fail;(with_reducible refine(KN109.out).mono ?_)
 rintro e10 w10 ⟨rfl,v10,hb10⟩
 have VV10:=hid v10;clear v10 KN109 y0 y1 KN1;have B10:=hid (B9.out.trans (hb10.mono bw));have N10:=hid (N9.out.below hb10 b1);have M10:=hid (M9.out.below hb10 b3);have R10:=hid (R9.out.below hb10 b4);clear hb10 B9 N9 M9 R9 V9;have V10:=VV10;clear VV10;have KN110:=hid (KN2.out gw gw ([]++[wCells++32::t1]++[wParts++32::t2]++[wLat++32::t3]) w10 V10.out (by simp) B10.out);have y0:=N10.out.cell 2;have y1:=N10.out.cell 3;go_wp2_with fail;(with_reducible refine(KN110.out).mono ?_)
 rintro e11 w11 ⟨rfl,v11,hb11⟩
 have VV11:=hid v11;clear v11 KN110 y0 y1 KN2;have B11:=hid (B10.out.trans (hb11.mono bw));have N11:=hid (N10.out.below hb11 b1);have M11:=hid (M10.out.below hb11 b3);have R11:=hid (R10.out.below hb11 b4);clear hb11 B10 N10 M10 R10 V10;have V11:=VV11;clear VV11;have KT11:=hid (KT.out w11 B11.out);have y0:=M11.out.cell 0;have y1:=M11.out.cell 1;go_wp2_with fail;(with_reducible refine(KT11.out).mono ?_)
 rintro e12 w12 ⟨rfl,hb12⟩
 clear KT KT11 y0 y1;have B12:=hid (B11.out.trans (hb12.mono B11.out.size));have N12:=hid (N11.out.below hb12 N11.out.lt);have M12:=hid (M11.out.below hb12 M11.out.lt);have R12:=hid (R11.out.below hb12 R11.out.lt);have V12:=hid (V11.out.below hb12);clear hb12 B11 N11 M11 R11 V11;have KK:=hid (wkeep_any gw gw 0 ([]++[wCells++32::t1]++[wParts++32::t2]++[wLat++32::t3]++[wLon++32::t4]) w12 V12.out);go_wp2_with fail;(with_reducible refine(KK.out).mono ?_)
 rintro e13 w13 ⟨rfl,v13,hb13⟩
 have VV13:=hid v13;clear v13 KK;have B13:=hid (B12.out.trans (hb13.mono bw));have N13:=hid (N12.out.below hb13 b1);have M13:=hid (M12.out.below hb13 b3);have R13:=hid (R12.out.below hb13 b4);clear hb13 B12 N12 M12 R12 V12;have V13:=VV13;clear VV13;have KW13:=hid (words_new gw gw wCen t5 ([]++[wCells++32::t1]++[wParts++32::t2]++[wLat++32::t3]++[wLon++32::t4]) 9 w13 V13.out (by simp) om_ (by simp));go_wp2_with fail;(with_reducible refine(KW13.out).mono ?_)
 rintro e14 w14 ⟨rfl,v14,hb14⟩
 have VV14:=hid v14;clear v14 KW13;have B14:=hid (B13.out.trans (hb14.mono bw));have N14:=hid (N13.out.below hb14 b1);have M14:=hid (M13.out.below hb14 b3);have R14:=hid (R13.out.below hb14 b4);clear hb14 B13 N13 M13 R13 V13;have V14:=VV14;clear VV14;have KN114:=hid (KN3.out gw gw ([]++[wCells++32::t1]++[wParts++32::t2]++[wLat++32::t3]++[wLon++32::t4]++[wCen++32::t5]) w14 V14.out (by simp) B14.out);have y0:=R14.out.cell 0;have y1:=R14.out.cell 1;go_wp2_with fail;(with_reducible refine(KN114.out).mono ?_)
 rintro e15 w15 ⟨rfl,v15,hb15⟩
 have VV15:=hid v15;clear v15 KN114 y0 y1 KN3;have B15:=hid (B14.out.trans (hb15.mono bw));have N15:=hid (N14.out.below hb15 b1);have M15:=hid (M14.out.below hb15 b3);have R15:=hid (R14.out.below hb15 b4);clear hb15 B14 N14 M14 R14 V14;have V15:=VV15;clear VV15;have KR:=hid (result_any gw gw ([]++[wCells++32::t1]++[wParts++32::t2]++[wLat++32::t3]++[wLon++32::t4]++[wCen++32::t5]++[wRad++32::t6]) w15 V15.out);go_wp2_with fail;(with_reducible refine(KR.out).mono ?_)
 rintro e16 w16 ⟨sv,rfl,rfl,hown⟩
 go_wp2;go_ret2
 exact⟨sv,rfl,by rw[←HLL.out];exact own_mono hown bw,B15.out⟩
end
end Go.Proofs.YtdeiofgddhbdaaaGreatDoor
