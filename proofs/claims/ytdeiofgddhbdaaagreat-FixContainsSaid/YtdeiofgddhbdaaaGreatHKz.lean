/- Walks of the reference's small functions on arcs. -/
import Derived.Test.YtdeiofgddhbdaaaGreatHGl
set_option linter.unusedSimpArgs false
set_option linter.unusedVariables false
set_option maxHeartbeats 4000000
set_option maxRecDepth 100000
open Go.RowKit
open Go.Lib (hid)
open Go.Proofs.Tryz
open Go.Value renaming int→vi
open Go.IntKind renaming i64→vk
namespace Go.Proofs.YtdeiofgddhbdaaaGreat
theorem puKz{p:Prop}(h:p:=by simp only[Act.put,List.setIfInBounds_toArray,List.set_cons_zero,List.set_cons_succ]):p:=h
def CvI(n₀ B:Nat)(v:Value)(W2:World)(L0 L1:List Cl)(x:Cl)(x0 x1 x2 x3 x4 x7:Value)(a:Act)(M:Nat→Bool)(a':Act)(w':World):Prop:=
 ∃v27 v28 v29 v30 v31 v32 v33 v34:Value,a'=((((((((a.put (some 27) v27).put (some 28) v28).put (some 29) v29).put (some 30) v30).put (some 31) v31).put (some 32) v32).put (some 33) v33).put (some 34) v34)∧XK B v W2 w'∧
  (M 6=false→St n₀ B w' v L0)∧
  (M 5=true→M 6=false→ ∃g,v32=.slice (some ⟨g,0,none⟩) 1 1∧Blk w' g 55 #[vi vk x.1,vi vk x.2.1,vi vk x.2.2])∧
  (M 6=true→M 8=false→ ∃u,v33=u∧w'.ownsRow n₀ 55 3 u L1.length (cvs L1)∧Boxed w' B 44 v∧Nx W2 v u)∧
  (M 8=true→Goes n₀ B v W2 L1 w')∧
  (M 8=true→M 6=true)∧
  (M 6=true→M 3=true)∧
  (M 6=true→M 5=true)∧
  (M 0=true→v27=x0)∧
  (M 1=true→v28=x1)∧
  (M 2=true→v29=x2)∧
  (M 3=true→v30=x3)∧
  (M 4=true→v31=x4)∧
  (M 7=true→v34=x7)
theorem CvI.start{n₀ B:Nat}{v:Value}{W2:World}{L0 L1:List Cl}{x:Cl}{x0 x1 x2 x3 x4 x7:Value}(a:Act)(h:St n₀ B W2 v L0):CvI n₀ B v W2 L0 L1 x x0 x1 x2 x3 x4 x7 a (fun _=>false) a W2.drew:=
 ⟨_,_,_,_,_,_,_,_,by rw[putQ_self a 27,putQ_self a 28,putQ_self a 29,putQ_self a 30,putQ_self a 31,putQ_self a 32,putQ_self a 33,putQ_self a 34],XK.of_below (bl_drew (Below.refl _ _)),fun _=>h.below (bl_drew (Below.refl _ _)),nofun,nofun,nofun,nofun,nofun,nofun,nofun,nofun,nofun,nofun,nofun,nofun⟩
def mtP(p:Bx)(x:Cl):Bool:=meetB p (bxI x)
def inP(p:Bx)(x:Cl):Bool:=insX (bxI x) p
theorem inP_kids{p:Bx}(hp:VP p){lev:Int}(h16:lev≤16): ∀x,Vl x→x.1<lev→inP p x=true→ ∀y∈kidsC x,inP p y=true∧mtP p y=true:=fun x hx hl hi=>ins_kid hp hx om_ hi
def CovOk(f:Nat):Prop:= ∀(p0 p1 p2 p3 l r c lev:Int) (n₀ B:Nat) (v:Value) (O:List Cl) (w:World),VP (p0,p1,p2,p3)→Vl (l,r,c)→l+(f:Int)=lev→lev≤16→St n₀ B w v O→n₀≤w.heap.size→AllV O→O.length+(arnL (mtP (p0,p1,p2,p3)) lev f (l,r,c)).length≤4064→
 Calls Tryz.prog 57 #[.agg #[vi vk p0,vi vk p1,vi vk p2,vi vk p3],.agg #[vi vk l,vi vk r,vi vk c],vi vk lev,.pointer (some ⟨B,0,none⟩)] w fun e w'=>e=.returned (.bool true)∧Goes n₀ B v w (covP (mtP (p0,p1,p2,p3)) (inP (p0,p1,p2,p3)) lev f (l,r,c) O) w'
theorem coverClos(f:Nat)(ih:CovOk f)(p0 p1 p2 p3 lev:Int)(n₀ B b4 b6 b7:Nat)(v:Value)(x:Cl)(O:List Cl)(w:World)(hp:VP (p0,p1,p2,p3))(hx:Vl x)(hl:x.1+(f:Int)=lev)(h16:lev≤16)(hS:St n₀ B w v O)(hsz:n₀≤w.heap.size)(hO:AllV O)(hlen:O.length+(arnL (mtP (p0,p1,p2,p3)) lev f x).length≤4064)
 (h4:Blk w b4 40 #[vi vk p0,vi vk p1,vi vk p2,vi vk p3]) (h6:Blk w b6 3 #[vi vk lev]) (h7:Blk w b7 103 #[.pointer (some ⟨B,0,none⟩)]):
 Calls Tryz.prog 102 #[cva x,.pointer (some ⟨b4,0,none⟩),.pointer (some ⟨b6,0,none⟩),.pointer (some ⟨b7,0,none⟩)] w fun e w'=>e=.returned (.bool false)∧Goes n₀ B v w (covP (mtP (p0,p1,p2,p3)) (inP (p0,p1,p2,p3)) lev f x O) w':=by
 obtain⟨l,r,c⟩:=x;have hba:=bl_alloc w (.cells #[vi vk l,vi vk r,vi vk c] 55);have KC:=hid (ih p0 p1 p2 p3 l r c lev n₀ B v O (w.alloc (.cells #[vi vk l,vi vk r,vi vk c] 55)) hp hx hl h16 (hS.below hba) (by simp;omega) hO hlen);have HB:=hid hba;have x0:=h4.cell 0;have x1:=h4.cell 1;have x2:=h4.cell 2;have x3:=h4.cell 3;have y0:=h6.cell 0;have z0:=h7.cell 0;have l4:=h4.lt;have l6:=h6.lt;have l7:=h7.lt;simp only[List.getElem?_toArray,List.getElem?_cons_zero,List.getElem?_cons_succ] at x0 x1 x2 x3 y0 z0;clear ih hp hx hl h16 hS hO hlen h4 h6 h7 hba;simp only[cva];go_enter func102,ntmps102;go_wp2_with fail;(with_reducible refine(KC.out).mono ?_)
 rintro e w1 ⟨rfl,hG⟩
 have HG:=hid (hG.after HB.out);clear hG;go_wp2;go_ret;exact⟨rfl,HG.out⟩
theorem mgF_step{f:Nat}{L R:List Cl}(h:mgF f L=R)(hl:L.length≤f):(four4 L=false→L=R)∧(four4 L=true→mgF (f-1) (mg1 L)=R∧1≤f∧(mg1 L).length≤f-1):=by
 cases f with
 |zero=>
  have:L=[]:=List.eq_nil_of_length_eq_zero om_;subst this;exact⟨fun _=>h,fun h4=>by simp[four4] at h4⟩
 |succ f=>
  unfold mgF at h;constructor
  · intro h4;rw[h4] at h;simpa using h
  · intro h4
    rw[h4] at h;have:=mg1_short h4;exact⟨by simpa using h,om_,om_⟩
theorem cover_leaf_or(f:Nat)(ih: ∀f',f=f'+1→CovOk f'):CovOk f:=by
 intro p0 p1 p2 p3 l r c lev n₀ B v O w hp hx hl h16 hS hsz hO hlen;have hv:=(vl_iff (l,r,c)).2 hx;have KB:=fun W=>rbox_any l r c W hv;rw[show boxV l r c=.agg #[vi vk (bxI (l,r,c)).1,vi vk (bxI (l,r,c)).2.1,vi vk (bxI (l,r,c)).2.2.1,vi vk (bxI (l,r,c)).2.2.2] from rfl] at KB;obtain⟨q,hq⟩: ∃q,bxI (l,r,c)=q:=⟨_,rfl⟩;have hqv:=bx_vp hx;have hmt:mtP (p0,p1,p2,p3) (l,r,c)=meetB (p0,p1,p2,p3) q:=by unfold mtP;rw[hq]
 have hin:inP (p0,p1,p2,p3) (l,r,c)=insX q (p0,p1,p2,p3):=by unfold inP;rw[hq]
 rw[hq] at KB hqv;clear hq;obtain⟨q0,q1,q2,q3⟩:=q;simp only[] at KB;have KM:=fun W=>rgMeets_any p0 p1 p2 p3 q0 q1 q2 q3 W hp hqv;have KI:=fun W=>placeInside_any q0 q1 q2 q3 p0 p1 p2 p3 W hqv hp;rw[←hmt] at KM;rw[←hin] at KI;obtain⟨R,hR⟩: ∃R,covP (mtP (p0,p1,p2,p3)) (inP (p0,p1,p2,p3)) lev f (l,r,c) O=R:=⟨_,rfl⟩;rw[hR];have G4:=hid ((((Blk.new w 40 #[vi vk p0,vi vk p1,vi vk p2,vi vk p3]).alloc (.cells #[vi vk l,vi vk r,vi vk c] 55)).alloc (.cells #[vi vk lev] 3)).alloc (.cells #[.pointer (some ⟨B,0,none⟩)] 103));have g5:=((Blk.new (w.alloc (.cells #[vi vk p0,vi vk p1,vi vk p2,vi vk p3] 40)) 55 #[vi vk l,vi vk r,vi vk c]).alloc (.cells #[vi vk lev] 3)).alloc (.cells #[.pointer (some ⟨B,0,none⟩)] 103);have g6:=(Blk.new ((w.alloc (.cells #[vi vk p0,vi vk p1,vi vk p2,vi vk p3] 40)).alloc (.cells #[vi vk l,vi vk r,vi vk c] 55)) 3 #[vi vk lev]).alloc (.cells #[.pointer (some ⟨B,0,none⟩)] 103);have g7:=Blk.new (((w.alloc (.cells #[vi vk p0,vi vk p1,vi vk p2,vi vk p3] 40)).alloc (.cells #[vi vk l,vi vk r,vi vk c] 55)).alloc (.cells #[vi vk lev] 3)) 103 #[.pointer (some ⟨B,0,none⟩)];simp only[World.size_alloc] at g5 g6 g7;have G5:=hid g5;have G6:=hid g6;have G7:=hid g7;have B0:=hid ((((bl_alloc w (.cells #[vi vk p0,vi vk p1,vi vk p2,vi vk p3] 40)).alloc (by simp) (.cells #[vi vk l,vi vk r,vi vk c] 55)).alloc (by simp;omega) (.cells #[vi vk lev] 3)).alloc (by simp;omega) (.cells #[.pointer (some ⟨B,0,none⟩)] 103));have KB:=hid KB;have HS:=hid hS;have HX:=hid hx;have HP:=hid hp;have HO:=hid hO;have HLN:=hid hlen;have HR:=hid hR;have IH:=hid ih;have HVB:Hid (∀k,v.ownBlock=some k→k<w.heap.size):=hid (own_ltK hS.row);have hBl:=hS.box.lt;have HLB:Hid (R.length≤4064):=hid (by
  have h1:=covP_len h16 (inP_kids hp h16) f (l,r,c) O hx hl;rw[hR] at h1;omega)
 clear g5 g6 g7 hS hx hp hO hlen hR ih hmt hin hqv hv;cases hm:mtP (p0,p1,p2,p3) (l,r,c) with
 |false=>
  rw[hm] at KM;have KM:=hid KM;have HRO:Hid (O=R):=hid (by rw[←HR.out];cases f<;>(unfold covP;rw[hm];simp));clear hm KI;go_enter func57,ntmps57;go_wp2_with fail;(with_reducible refine(KB.out _).mono ?_)
  rintro e w1 ⟨rfl,hb1⟩
  have B1:=hid ((B0.out.trans (hb1.mono B0.out.size)).alloc (by have:=B0.out.size;have:=hb1.size;omega) (.cells #[vi vk q0,vi vk q1,vi vk q2,vi vk q3] 40));have G14:=hid ((G4.out.below hb1 G4.out.lt).alloc (.cells #[vi vk q0,vi vk q1,vi vk q2,vi vk q3] 40));have G15:=hid ((G5.out.below hb1 G5.out.lt).alloc (.cells #[vi vk q0,vi vk q1,vi vk q2,vi vk q3] 40));have G16:=hid ((G6.out.below hb1 G6.out.lt).alloc (.cells #[vi vk q0,vi vk q1,vi vk q2,vi vk q3] 40));have G17:=hid ((G7.out.below hb1 G7.out.lt).alloc (.cells #[vi vk q0,vi vk q1,vi vk q2,vi vk q3] 40));have x0:w1.cell? ⟨w.heap.size,0,none⟩=some (vi vk p0):=(G4.out.below hb1 G4.out.lt).cell 0;have x1:w1.cell? ⟨w.heap.size,1,none⟩=some (vi vk p1):=(G4.out.below hb1 G4.out.lt).cell 1;have x2:w1.cell? ⟨w.heap.size,2,none⟩=some (vi vk p2):=(G4.out.below hb1 G4.out.lt).cell 2;have x3:w1.cell? ⟨w.heap.size,3,none⟩=some (vi vk p3):=(G4.out.below hb1 G4.out.lt).cell 3;have xl:w.heap.size<w1.heap.size:=(G4.out.below hb1 G4.out.lt).lt;clear hb1 KB B0 G4 G5 G6 G7;go_wp2_with fail;(with_reducible refine(KM.out _).mono ?_)
  rintro e w2 ⟨rfl,hb2⟩
  have B2:=hid (B1.out.trans (hb2.mono B1.out.size));clear hb2;go_wp2;go_ret;exact⟨rfl,by rw[←HRO.out];exact⟨_,HS.out.below B2.out,XK.of_below B2.out,Nx.refl _ _⟩⟩
 |true=>
  rw[hm] at KM;have KM:=hid KM;have HMT:=hid hm;clear hm;by_cases hlf:l=lev∨inP (p0,p1,p2,p3) (l,r,c)=true
  ·
   have HR2:Hid (mgF (O.length+1) (O++[(l,r,c)])=R):=hid (by
    rw[←HR.out];cases f with
    |zero=>unfold covP;rw[if_pos HMT.out]
    |succ f=>unfold covP;rw[if_pos HMT.out,if_pos hlf])
   have KI:=hid KI;have HLF:=hid hlf;clear hlf;go_enter func57,ntmps57;go_wp2_with fail;(with_reducible refine(KB.out _).mono ?_)
   rintro e w1 ⟨rfl,hb1⟩
   have NB:=hid (Blk.new w1 40 #[vi vk q0,vi vk q1,vi vk q2,vi vk q3]);have B1:=hid ((B0.out.trans (hb1.mono B0.out.size)).alloc (by have:=B0.out.size;have:=hb1.size;omega) (.cells #[vi vk q0,vi vk q1,vi vk q2,vi vk q3] 40));have G14:=hid ((G4.out.below hb1 G4.out.lt).alloc (.cells #[vi vk q0,vi vk q1,vi vk q2,vi vk q3] 40));have G15:=hid ((G5.out.below hb1 G5.out.lt).alloc (.cells #[vi vk q0,vi vk q1,vi vk q2,vi vk q3] 40));have G16:=hid ((G6.out.below hb1 G6.out.lt).alloc (.cells #[vi vk q0,vi vk q1,vi vk q2,vi vk q3] 40));have G17:=hid ((G7.out.below hb1 G7.out.lt).alloc (.cells #[vi vk q0,vi vk q1,vi vk q2,vi vk q3] 40));have x0:w1.cell? ⟨w.heap.size,0,none⟩=some (vi vk p0):=(G4.out.below hb1 G4.out.lt).cell 0;have x1:w1.cell? ⟨w.heap.size,1,none⟩=some (vi vk p1):=(G4.out.below hb1 G4.out.lt).cell 1;have x2:w1.cell? ⟨w.heap.size,2,none⟩=some (vi vk p2):=(G4.out.below hb1 G4.out.lt).cell 2;have x3:w1.cell? ⟨w.heap.size,3,none⟩=some (vi vk p3):=(G4.out.below hb1 G4.out.lt).cell 3;have xl:w.heap.size<w1.heap.size:=(G4.out.below hb1 G4.out.lt).lt;clear hb1 KB B0 G4 G5 G6 G7;go_wp2_with fail;(with_reducible refine(KM.out _).mono ?_)
   rintro e w2 ⟨rfl,hb2⟩
   clear x0 x1 x2 x3 xl;have B2:=hid (B1.out.trans (hb2.mono B1.out.size));have G24:=hid (G14.out.below hb2 G14.out.lt);have G25:=hid (G15.out.below hb2 G15.out.lt);have G26:=hid (G16.out.below hb2 G16.out.lt);have G27:=hid (G17.out.below hb2 G17.out.lt);have x0:w2.cell? ⟨w.heap.size,0,none⟩=some (vi vk p0):=G24.out.cell 0;have x1:w2.cell? ⟨w.heap.size,1,none⟩=some (vi vk p1):=G24.out.cell 1;have x2:w2.cell? ⟨w.heap.size,2,none⟩=some (vi vk p2):=G24.out.cell 2;have x3:w2.cell? ⟨w.heap.size,3,none⟩=some (vi vk p3):=G24.out.cell 3;have y0:w2.cell? ⟨w.heap.size+1,0,none⟩=some (vi vk l):=G25.out.cell 0;have z0:w2.cell? ⟨w.heap.size+1+1,0,none⟩=some (vi vk lev):=G26.out.cell 0;have n0:w2.cell? ⟨w1.heap.size,0,none⟩=some (vi vk q0):=(NB.out.below hb2 NB.out.lt).cell 0;have n1:w2.cell? ⟨w1.heap.size,1,none⟩=some (vi vk q1):=(NB.out.below hb2 NB.out.lt).cell 1;have n2:w2.cell? ⟨w1.heap.size,2,none⟩=some (vi vk q2):=(NB.out.below hb2 NB.out.lt).cell 2;have n3:w2.cell? ⟨w1.heap.size,3,none⟩=some (vi vk q3):=(NB.out.below hb2 NB.out.lt).cell 3;clear hb2 NB B1 G14 G15 G16 G17;go_upto_region 4 with (fail)
   go_cut [26] (fun s26 wx=>s26=.bool true∧Below w2.heap.size w2 wx)
   case first=>
    by_cases hll:l=lev
    · subst hll
      clear KI;go_wp2;go_meet
      case rel=>exact⟨rfl,Below.refl _ _⟩
    · have hbe:(l==lev)=false:=by simpa using hll
      have ki:=KI.out;rw[(HLF.out).resolve_left hll] at ki;have KI2:=hid ki;clear ki KI hll;go_wp2_with fail;(with_reducible refine(KI2.out _).mono ?_)
      rintro e w3 ⟨rfl,hb3⟩
      go_wp2;go_meet
      case rel=>exact⟨rfl,hb3⟩
   case rest=>
    obtain⟨rfl,hb3⟩:=hcut;rename World=>w3
    clear y0 z0 x0 x1 x2 x3 n0 n1 n2 n3 KI KM;have B3:=hid (B2.out.trans (hb3.mono B2.out.size));have G35:=hid (G25.out.below hb3 G25.out.lt);have G37:=hid (G27.out.below hb3 G27.out.lt);have S3:=hid (HS.out.below B3.out);clear hb3 G25 G27 G24 G26 B2;have hsz3:n₀≤w3.heap.size:=by have:=B3.out.size;omega
    obtain⟨i0,hi0,hz0,hz1,hzb⟩:=info_parts Tryz.infoCell;have hlo:O.length≤4064:=by have:=HLN.out;omega
    go_upto_region 5 with (fail)
    refine wp_region_inv3 (by kernel_rfl) (CvI n₀ B (v) w3 (O) (O++[(l,r,c)]) ((l,r,c)) (.pointer (some ⟨B,0,none⟩)) (.pointer (some ⟨B,0,none⟩)) (.pointer (some ⟨B,0,none⟩)) (v) (.agg #[vi vk l,vi vk r,vi vk c]) (.pointer (some ⟨B,0,none⟩))) (waits_bind (by kernel_rfl)) ?start ?step ?fin
    case start=>exact CvI.start _ S3.out
    case step=>
     rintro M i o a1' w' ho hL haf ⟨v27,v28,v29,v30,v31,v32,v33,v34,rfl,hk,h1,h2,h3,h4,h5,hn6_3,hn6_5,e0,e1,e2,e3,e4,e7⟩
     have HK:=hid hk;have H1:=hid h1;have H2:=hid h2;have H3:=hid h3;have H4:=hid h4;have H5:=hid h5;have HN6_3:=hid hn6_3;have HN6_5:=hid hn6_5;have E0:=hid e0;have E1:=hid e1;have E2:=hid e2;have E3:=hid e3;have E4:=hid e4;have E7:=hid e7;clear hk h1 h2 h3 h4 h5 hn6_3 hn6_5 e0 e1 e2 e3 e4 e7;rcases i with _|_|_|_|_|_|_|_|_|i
     all_goals (simp at ho;try subst ho)
     all_goals (try simp[Region.binds] at haf)
     · have hp9:=(HK.out.blk G37.out om_ (fun e=>by have:=HVB.out _ e;omega)).cell 0
       simp only[List.getElem?_toArray,List.getElem?_cons_zero] at hp9;go_wp2;unfold CvI;exact⟨(.pointer (some ⟨B,0,none⟩)),v28,v29,v30,v31,v32,v33,v34,puKz,HK.out,fun h=>H1.out (by simpa [mkd] using h),fun h k=>H2.out (by simpa [mkd] using h) (by simpa [mkd] using k),fun h k=>H3.out (by simpa [mkd] using h) (by simpa [mkd] using k),fun h=>H4.out (by simpa [mkd] using h),ks_ H5,ks_ HN6_3,ks_ HN6_5,rf_,kq E1,kq E2,kq E3,kq E4,kq E7⟩
     · have hp9:=(HK.out.blk G37.out om_ (fun e=>by have:=HVB.out _ e;omega)).cell 0
       simp only[List.getElem?_toArray,List.getElem?_cons_zero] at hp9;go_wp2;unfold CvI;exact⟨v27,(.pointer (some ⟨B,0,none⟩)),v29,v30,v31,v32,v33,v34,puKz,HK.out,fun h=>H1.out (by simpa [mkd] using h),fun h k=>H2.out (by simpa [mkd] using h) (by simpa [mkd] using k),fun h k=>H3.out (by simpa [mkd] using h) (by simpa [mkd] using k),fun h=>H4.out (by simpa [mkd] using h),ks_ H5,ks_ HN6_3,ks_ HN6_5,kq E0,rf_,kq E2,kq E3,kq E4,kq E7⟩
     · obtain rfl:=(E1.out (by simp[haf])).symm
       go_wp2;unfold CvI;exact⟨v27,(.pointer (some ⟨B,0,none⟩)),(.pointer (some ⟨B,0,none⟩)),v30,v31,v32,v33,v34,puKz,HK.out,fun h=>H1.out (by simpa [mkd] using h),fun h k=>H2.out (by simpa [mkd] using h) (by simpa [mkd] using k),fun h k=>H3.out (by simpa [mkd] using h) (by simpa [mkd] using k),fun h=>H4.out (by simpa [mkd] using h),ks_ H5,ks_ HN6_3,ks_ HN6_5,kq E0,rf_,rf_,kq E3,kq E4,kq E7⟩
     · have hA:M 6=false:=by
        cases q:M 6 with
        |false=>rfl
        |true=>
         have q0:=HN6_3.out q;rw[hL] at q0;cases q0
       have hcc:=(H1.out hA).box.cell;obtain rfl:=(E2.out (by simp[haf])).symm;go_wp2;unfold CvI;exact⟨v27,v28,(.pointer (some ⟨B,0,none⟩)),(v),v31,v32,v33,v34,puKz,HK.out,fun h=>H1.out (by simpa [mkd] using h),fun h k=>H2.out (by simpa [mkd] using h) (by simpa [mkd] using k),fun h k=>H3.out (by simpa [mkd] using h) (by simpa [mkd] using k),fun h=>H4.out (by simpa [mkd] using h),ks_ H5,fun _=>mkd_same _ _,ks_ HN6_5,kq E0,kq E1,rf_,rf_,kq E4,kq E7⟩
     · have hp9:=HK.out.blk G35.out om_ (fun e=>by have:=HVB.out _ e;omega)
       have y0:=hp9.cell 0;have y1:=hp9.cell 1;have y2:=hp9.cell 2;simp only[List.getElem?_toArray,List.getElem?_cons_zero,List.getElem?_cons_succ] at y0 y1 y2;go_wp2;unfold CvI;exact⟨v27,v28,v29,v30,(.agg #[vi vk l,vi vk r,vi vk c]),v32,v33,v34,puKz,HK.out,fun h=>H1.out (by simpa [mkd] using h),fun h k=>H2.out (by simpa [mkd] using h) (by simpa [mkd] using k),fun h k=>H3.out (by simpa [mkd] using h) (by simpa [mkd] using k),fun h=>H4.out (by simpa [mkd] using h),ks_ H5,ks_ HN6_3,ks_ HN6_5,kq E0,kq E1,kq E2,kq E3,rf_,kq E7⟩
     · have hA:M 6=false:=by
        cases q:M 6 with
        |false=>rfl
        |true=>
         have q0:=HN6_5.out q;rw[hL] at q0;cases q0
       obtain rfl:=(E4.out (by simp[haf])).symm;have hb9:=bl_alloc w' (.cells #[vi vk ((l,r,c)).1,vi vk ((l,r,c)).2.1,vi vk ((l,r,c)).2.2] 55);have NB:=hid (Blk.new w' 55 #[vi vk ((l,r,c)).1,vi vk ((l,r,c)).2.1,vi vk ((l,r,c)).2.2]);simp only[] at hb9 NB;have HB9:=hid hb9;clear hb9;go_wp2;unfold CvI;exact⟨v27,v28,v29,v30,(.agg #[vi vk l,vi vk r,vi vk c]),(.slice (some ⟨w'.heap.size,0,none⟩) 1 1),v33,v34,puKz,HK.out.trans (Nx.refl _ _) (XK.of_below HB9.out),fun _=>(H1.out hA).below HB9.out,fun _ _=>⟨_,rfl,NB.out⟩,fun h=>(by have q:M 6=true:=(by simpa [mkd] using h);rw[hA] at q;cases q),fun h=>(by have q:=H5.out (by simpa [mkd] using h);rw[hA] at q;cases q),ks_ H5,ks_ HN6_3,fun _=>mkd_same _ _,kq E0,kq E1,kq E2,kq E3,rf_,kq E7⟩
     · obtain rfl:=(E3.out (by simp[haf])).symm
       have hst:=H1.out hL;obtain⟨g9,rfl,hB9⟩:=H2.out (by simp[haf]) hL;have O1:=hst.row;have R9:=cell_reads hB9;have hzz:=HK.out.size;have hn0:n₀≤w'.heap.size:=Nat.le_trans hsz3 hzz;simp only[Act.put,List.setIfInBounds_toArray,List.set_cons_zero,List.set_cons_succ];refine wpList_append_any _ rfl (.tmp 30) (.tmp 32) _ rfl n₀ 55 i0 _ 3 24 underlying44 hi0 hz0 hz1 hzb rfl dc_ _ (O.length) (cvs O) (by simp[Act.eval]) O1 w'.heap.size (some ⟨g9,0,none⟩) 1 1 (cvs [(l,r,c)]) (by simp[Act.eval]) R9 (cvs_one _) (by simp only[maxLen];omega) om_ hn0 ?_;intro v9 w9 hown9 hg9 hat9;have hbx9:=hst.box.kept hg9 (by have:=hst.box.not_row dc_ O1;exact this);rw[←cvs_append,show O.length+1=(O++[(l,r,c)]).length by simp] at hown9;have HXK:=hid (HK.out.grown hg9);have HNX:Hid (Nx w3 (v) v9):=hid (hat9.elim .inl fun q=>.inr fun k hk=>(by rw[q] at hk;cases hk;exact hzz));have HO9:=hid hown9;have HX9:=hid hbx9;clear hown9 hg9 hat9 hbx9 hst O1 R9 hB9;go_wp2;unfold CvI;exact⟨v27,v28,v29,(v),v31,(.slice (some ⟨g9,0,none⟩) 1 1),(v9),v34,puKz,HXK.out,fun h=>(by simp[mkd] at h),fun _ h=>(by simp[mkd] at h),fun _ _=>⟨v9,rfl,HO9.out,HX9.out,HNX.out⟩,fun h=>(by have q:=H5.out (by simpa [mkd] using h);rw[hL] at q;cases q),fun _=>mkd_same _ _,fun _=>(by have r:M 3=true:=(by simp[haf]);simpa [mkd] using r),fun _=>(by have r:M 5=true:=(by simp[haf]);simpa [mkd] using r),kq E0,kq E1,kq E2,rf_,kq E4,kq E7⟩
     · obtain rfl:=(E0.out (by simp[haf])).symm
       go_wp2;unfold CvI;exact⟨(.pointer (some ⟨B,0,none⟩)),v28,v29,v30,v31,v32,v33,(.pointer (some ⟨B,0,none⟩)),puKz,HK.out,fun h=>H1.out (by simpa [mkd] using h),fun h k=>H2.out (by simpa [mkd] using h) (by simpa [mkd] using k),fun h k=>H3.out (by simpa [mkd] using h) (by simpa [mkd] using k),fun h=>H4.out (by simpa [mkd] using h),ks_ H5,ks_ HN6_3,ks_ HN6_5,rf_,kq E1,kq E2,kq E3,kq E4,rf_⟩
     · obtain rfl:=(E7.out (by simp[haf])).symm
       obtain⟨u,rfl,hown9,hbx9,hnx9⟩:=H3.out (by simp[haf]) hL;obtain⟨N1,hN1⟩: ∃N1,List.length (O++[(l,r,c)])=N1:=⟨_,rfl⟩;rw[hN1] at hown9;obtain⟨A9,c9,rfl,-,-⟩:=own_form hown9;have HG:Hid (Goes n₀ B (v) w3 (O++[(l,r,c)]) (w'.setCell ⟨B,0,none⟩ (.slice A9 N1 c9))):=hid ⟨_,⟨hbx9.set _,by rw[hN1];exact hown9.kept (grownBy_setCell' w' B _) (.inr (hbx9.not_row dc_ hown9).symm)⟩,HK.out.set _,hnx9⟩;have hc9:=hbx9.cell;have hf9:=hbx9.frozen;have HS:=hid (HK.out.set (.slice A9 N1 c9));clear hown9 hbx9 hnx9 hN1;go_wp2;unfold CvI;exact⟨v27,v28,v29,v30,v31,v32,(.slice A9 N1 c9),(.pointer (some ⟨B,0,none⟩)),puKz,HS.out,fun h=>(by have q:M 6=false:=(by simpa [mkd] using h);have r:M 6=true:=(by simp[haf]);rw[q] at r;cases r),fun _ h=>(by have q:M 6=false:=(by simpa [mkd] using h);have r:M 6=true:=(by simp[haf]);rw[q] at r;cases r),fun _ h=>(by simp[mkd] at h),fun _=>HG.out,fun _=>(by have r:M 6=true:=(by simp[haf]);simpa [mkd] using r),ks_ HN6_3,ks_ HN6_5,kq E0,kq E1,kq E2,kq E3,kq E4,rf_⟩
    case fin=>
     rintro M a1' w8 hall ⟨v27,v28,v29,v30,v31,v32,v33,v34,rfl,hk,h1,h2,h3,h4,h5,hn6_3,hn6_5,e0,e1,e2,e3,e4,e7⟩
     obtain rfl:=(e0 (hall 0 dc_)).symm;obtain rfl:=(e1 (hall 1 dc_)).symm;obtain rfl:=(e2 (hall 2 dc_)).symm;obtain rfl:=(e3 (hall 3 dc_)).symm;obtain rfl:=(e4 (hall 4 dc_)).symm;obtain rfl:=(e7 (hall 7 dc_)).symm;have hG:=h4 (hall 8 dc_);clear hk h1 h2 h3 h4 h5 hn6_3 hn6_5;have hGA:=hG.after B3.out;obtain⟨u0,hSu,hXu,hNu⟩:=hG;have SU:=hid hSu;have XU:=hid hXu;have NU:=hid hNu;clear hSu hXu hNu hGA;go_wp2_with fail;go_loopg [] (O.length+1) (fun gz wr=> ∃(gg:Nat) (Lk:List Cl) (u:Value),gg=gz∧St n₀ B wr u Lk∧XK B v w3 wr∧Nx w3 v u∧mgF gg Lk=R∧Lk.length≤gg∧AllV Lk∧gg≤4065)
     case atStart=>exact⟨_,_,_,rfl,SU.out,XU.out,NU.out,HR2.out,by simp,one_app HO.out HX.out,om_⟩
     case round=>
      obtain⟨gg,Lk,u,hgz,hSt,hXk,hNx,hmg,hle,hLv,hg4⟩:=hrel;have ST:=hid hSt;have XX:=hid hXk;have NN:=hid hNx;obtain⟨s1,s2⟩:=mgF_step hmg hle;have KG:=merge_any n₀ B u Lk wr hSt (by have:=hXk.size;omega) hLv om_;have z0:wr.cell? ⟨w.heap.size+1+1+1,0,none⟩=some (.pointer (some ⟨B,0,none⟩)):=(hXk.blk G37.out om_ (fun e=>by have:=HVB.out _ e;omega)).cell 0;clear hSt hXk hNx;cases h4:four4 Lk with
      |true=>
       rw[h4] at KG;simp only[if_true] at KG;obtain⟨t1,t2,t3⟩:=s2 h4;have T1:=hid t1;have LV:=hid (mg1_v hLv h4);have KG:=hid KG;clear s1 s2 h4 t1 hmg hLv;go_wp2_with fail;(with_reducible refine(KG.out).mono ?_)
       rintro e w9 ⟨rfl,hG9⟩
       obtain⟨u9,hS9,hX9,hN9⟩:=hG9;go_wp2;go_roundg (gg-1)
       case measure=>omega
       case rel=>exact⟨_,_,u9,rfl,hS9,XX.out.trans NN.out hX9,NN.out.trans XX.out.size hN9,T1.out,t3,LV.out,om_⟩
      |false=>
       rw[h4] at KG;simp only[Bool.false_eq_true,if_false] at KG;have hLR:=s1 h4;subst hLR;have KG:=hid KG;clear s1 s2 h4 hmg hLv;go_wp2_with fail;(with_reducible refine(KG.out).mono ?_)
       rintro e w9 ⟨rfl,hG9⟩
       obtain⟨u9,hS9,hX9,hN9⟩:=hG9;have XX9:=XX.out.trans NN.out hX9;have z0:w9.cell? ⟨w.heap.size+1+1+1,0,none⟩=some (.pointer (some ⟨B,0,none⟩)):=(XX9.blk G37.out om_ (fun e=>by have:=HVB.out _ e;omega)).cell 0;obtain⟨A9,c9,rfl,-,-⟩:=own_form hS9.row;have hcc:=hS9.box.cell;have hd:decide ((Lk.length:Int)≤4064)=true:=decide_eq_true (by have:=HLB.out;omega);have FG:=hid (Goes.after B3.out (show Goes n₀ B v w3 Lk w9 from⟨_,hS9,XX9,NN.out.trans XX.out.size hN9⟩));clear hS9 hX9 hN9 XX9 ST XX NN;go_wp2;go_ret;exact⟨rfl,FG.out⟩
  ·
   have hll: ¬l=lev:=fun e=>hlf (.inl e);have hii:inP (p0,p1,p2,p3) (l,r,c)=false:=by
    cases h:inP (p0,p1,p2,p3) (l,r,c) with
    |false=>rfl
    |true=>exact absurd (.inr h) hlf
   obtain⟨f',rfl⟩: ∃f',f=f'+1:=⟨f-1,om_⟩;have IH2:=hid (IH.out f' rfl);have hl16:l<16:=by omega
   have hbe:(l==lev)=false:=by simpa using hll
   rw[hii] at KI;have KI:=hid KI;have HRK:Hid (foldK (mtP (p0,p1,p2,p3)) (inP (p0,p1,p2,p3)) lev f' (kidsC (l,r,c)) O 4=R):=hid (by
    rw[←HR.out];unfold covP;rw[if_pos HMT.out,if_neg (by rw[hii];simp[hll])];rfl)
   have KC:=hid (fun W=>Children_yes l r c W ((vl_iff (l,r,c)).2 HX.out) (by simp;omega));rw[show kids l r c=kidsC (l,r,c) from rfl] at KC;have HKV:Hid (AllV (kidsC (l,r,c))):=hid (kids_vl HX.out hl16);have HKL:Hid (∀x∈kidsC (l,r,c),x.1+(f':Int)=lev):=hid (kid_lev (by simpa using hl));have HFK:Hid (∀k,k≤(kidsC (l,r,c)).length→AllV (foldK (mtP (p0,p1,p2,p3)) (inP (p0,p1,p2,p3)) lev f' (kidsC (l,r,c)) O k)∧(foldK (mtP (p0,p1,p2,p3)) (inP (p0,p1,p2,p3)) lev f' (kidsC (l,r,c)) O k).length+(((kidsC (l,r,c)).drop k).flatMap (arnL (mtP (p0,p1,p2,p3)) lev f')).length≤O.length+((kidsC (l,r,c)).flatMap (arnL (mtP (p0,p1,p2,p3)) lev f')).length):=hid (foldK_ok h16 (inP_kids HP.out h16) HKV.out HKL.out HO.out);have hsum:O.length+((kidsC (l,r,c)).flatMap (arnL (mtP (p0,p1,p2,p3)) lev f')).length≤4064:=by
    have:=HLN.out;unfold arnL at this;rwa [if_pos HMT.out,if_neg hll] at this
   have hkn:(kidsC (l,r,c)).length=4:=rfl;generalize kidsC (l,r,c)=K at HRK KC HKV HKL HFK hsum hkn;clear hii hlf hll HR HMT;go_enter func57,ntmps57;go_wp2_with fail;(with_reducible refine(KB.out _).mono ?_)
   rintro e w1 ⟨rfl,hb1⟩
   have NB:=hid (Blk.new w1 40 #[vi vk q0,vi vk q1,vi vk q2,vi vk q3]);have B1:=hid ((B0.out.trans (hb1.mono B0.out.size)).alloc (by have:=B0.out.size;have:=hb1.size;omega) (.cells #[vi vk q0,vi vk q1,vi vk q2,vi vk q3] 40));have G14:=hid ((G4.out.below hb1 G4.out.lt).alloc (.cells #[vi vk q0,vi vk q1,vi vk q2,vi vk q3] 40));have G15:=hid ((G5.out.below hb1 G5.out.lt).alloc (.cells #[vi vk q0,vi vk q1,vi vk q2,vi vk q3] 40));have G16:=hid ((G6.out.below hb1 G6.out.lt).alloc (.cells #[vi vk q0,vi vk q1,vi vk q2,vi vk q3] 40));have G17:=hid ((G7.out.below hb1 G7.out.lt).alloc (.cells #[vi vk q0,vi vk q1,vi vk q2,vi vk q3] 40));have x0:w1.cell? ⟨w.heap.size,0,none⟩=some (vi vk p0):=(G4.out.below hb1 G4.out.lt).cell 0;have x1:w1.cell? ⟨w.heap.size,1,none⟩=some (vi vk p1):=(G4.out.below hb1 G4.out.lt).cell 1;have x2:w1.cell? ⟨w.heap.size,2,none⟩=some (vi vk p2):=(G4.out.below hb1 G4.out.lt).cell 2;have x3:w1.cell? ⟨w.heap.size,3,none⟩=some (vi vk p3):=(G4.out.below hb1 G4.out.lt).cell 3;have xl:w.heap.size<w1.heap.size:=(G4.out.below hb1 G4.out.lt).lt;clear hb1 KB B0 G4 G5 G6 G7;go_wp2_with fail;(with_reducible refine(KM.out _).mono ?_)
   rintro e w2 ⟨rfl,hb2⟩
   clear x0 x1 x2 x3 xl;have B2:=hid (B1.out.trans (hb2.mono B1.out.size));have G24:=hid (G14.out.below hb2 G14.out.lt);have G25:=hid (G15.out.below hb2 G15.out.lt);have G26:=hid (G16.out.below hb2 G16.out.lt);have G27:=hid (G17.out.below hb2 G17.out.lt);have x0:w2.cell? ⟨w.heap.size,0,none⟩=some (vi vk p0):=G24.out.cell 0;have x1:w2.cell? ⟨w.heap.size,1,none⟩=some (vi vk p1):=G24.out.cell 1;have x2:w2.cell? ⟨w.heap.size,2,none⟩=some (vi vk p2):=G24.out.cell 2;have x3:w2.cell? ⟨w.heap.size,3,none⟩=some (vi vk p3):=G24.out.cell 3;have y0:w2.cell? ⟨w.heap.size+1,0,none⟩=some (vi vk l):=G25.out.cell 0;have z0:w2.cell? ⟨w.heap.size+1+1,0,none⟩=some (vi vk lev):=G26.out.cell 0;have n0:w2.cell? ⟨w1.heap.size,0,none⟩=some (vi vk q0):=(NB.out.below hb2 NB.out.lt).cell 0;have n1:w2.cell? ⟨w1.heap.size,1,none⟩=some (vi vk q1):=(NB.out.below hb2 NB.out.lt).cell 1;have n2:w2.cell? ⟨w1.heap.size,2,none⟩=some (vi vk q2):=(NB.out.below hb2 NB.out.lt).cell 2;have n3:w2.cell? ⟨w1.heap.size,3,none⟩=some (vi vk q3):=(NB.out.below hb2 NB.out.lt).cell 3;clear hb2 NB B1 G14 G15 G16 G17;go_wp2_with fail;(with_reducible refine(KI.out _).mono ?_)
   rintro e w3 ⟨rfl,hb3⟩
   clear y0 z0 x0 x1 x2 x3 n0 n1 n2 n3 KI KM;have B3:=hid (B2.out.trans (hb3.mono B2.out.size));have g35:=G25.out.below hb3 G25.out.lt;have k0:w3.cell? ⟨w.heap.size+1,0,none⟩=some (vi vk l):=g35.cell 0;have k1:w3.cell? ⟨w.heap.size+1,1,none⟩=some (vi vk r):=g35.cell 1;have k2:w3.cell? ⟨w.heap.size+1,2,none⟩=some (vi vk c):=g35.cell 2;have G34:=hid (G24.out.below hb3 G24.out.lt);have G36:=hid (G26.out.below hb3 G26.out.lt);have G37:=hid (G27.out.below hb3 G27.out.lt);clear hb3 G24 G25 G26 G27 B2 g35;go_wp2_with fail;(with_reducible refine(KC.out _).mono ?_)
   rintro e w4 ⟨vk,rfl,hownk,hb4⟩
   rw[hkn] at hownk;have B4:=hid (B3.out.trans (hb4.mono B3.out.size));have G44:=hid (G34.out.below hb4 G34.out.lt);have G46:=hid (G36.out.below hb4 G36.out.lt);have G47:=hid (G37.out.below hb4 G37.out.lt);have HNB:Hid (∀k,vk.ownBlock=some k→k≠B∧v.ownBlock≠some k):=hid (fun k hk=>by
    have h1:=own_base hownk k hk;have h2:=B3.out.size;exact⟨om_,fun e=>by have:=HVB.out k e;omega⟩)
   obtain⟨Ak,ck,rfl,-,-⟩:=own_form hownk;have OWN:=hid hownk;have S4:=hid (HS.out.below B4.out);have hs4:=B4.out.size;clear hb4 hownk G34 G36 G37 k0 k1 k2;have KT:=contSt_any 102 #[.pointer (some ⟨w.heap.size,0,none⟩),.pointer (some ⟨w.heap.size+1+1,0,none⟩),.pointer (some ⟨w.heap.size+1+1+1,0,none⟩)]
    (fun k W=> ∃u,St n₀ B W u (foldK (mtP (p0,p1,p2,p3)) (inP (p0,p1,p2,p3)) lev f' K O k)∧XK B v w4 W∧Nx w4 v u)
    (enters_of func102 (by kernel_rfl) rfl) Ak 4 ck K w4 hkn
    (fun k W hJ=>by
      obtain⟨u,h1,h2,h3⟩:=hJ;exact Reads.of_own (own_xk OWN.out h2 HNB.out))
    dc_ ⟨v,S4.out,XK.refl _ _ _,Nx.refl _ _⟩
    (fun W k hk hJ=>by
      obtain⟨u,h1,h2,h3⟩:=hJ;have hm:gt K k∈K:=by simp[gt,show k<K.length by omega]
      obtain⟨f1,f2⟩:=HFK.out k om_;have hd:K.drop k=gt K k::K.drop (k+1):=by
       rw[List.drop_eq_getElem_cons om_];simp[gt,show k<K.length by omega]
      rw[hd,List.flatMap_cons,List.length_append] at f2;refine(coverClos f' IH2.out p0 p1 p2 p3 lev n₀ B _ _ _ u (gt K k) _ W HP.out (HKV.out _ hm) (HKL.out _ hm) h16 h1 (by have:=h2.size;omega) f1 om_
       (h2.blk G44.out om_ (fun e=>by have:=HVB.out _ e;omega)) (h2.blk G46.out om_ (fun e=>by have:=HVB.out _ e;omega)) (h2.blk G47.out om_ (fun e=>by have:=HVB.out _ e;omega))).mono ?_
      rintro e W' ⟨rfl,u',s1,s2,s3⟩
      refine⟨rfl,u',?_,h2.trans h3 s2,h3.trans h2.size s3⟩;rw[foldK_succ _ _ _ _ _ _ _ om_];exact s1)
   have KT:=hid KT;clear OWN HNB HFK HKV HKL IH2 G44 G46 G47;go_wp2_with fail;(with_reducible refine(KT.out).mono ?_)
   rintro e w5 ⟨rfl,u,s1,s2,s3⟩
   rw[HRK.out] at s1;have FG:=hid (Goes.after B4.out (show Goes n₀ B v w4 R w5 from⟨u,s1,s2,s3⟩));clear s1 s2 s3;go_wp2;go_ret;exact⟨rfl,FG.out⟩
theorem cover_ok(f:Nat):CovOk f:=by
 induction f with
 |zero=>exact cover_leaf_or 0 (fun f' h=>absurd h om_)
 |succ f ih=>exact cover_leaf_or (f+1) (fun f' h=>by cases h;exact ih)
def RaI1(E:Int)(W2:World)(x0 x1 x2:Value)(a:Act)(M:Nat→Bool)(a':Act)(w':World):Prop:=
 ∃(v18 v19 v20 v21 v17 v22 v23 v10 v11:Value) (r0:Int) (r1:Int) (r2:Int) (r3:Int),a'=(((((((((a.put (some 18) v18).put (some 19) v19).put (some 20) v20).put (some 21) v21).put (some 17) v17).put (some 22) v22).put (some 23) v23).put (some 10) v10).put (some 11) v11)∧Below W2.heap.size W2 w'∧
  (M 7=true→ ∃g,v10=.pointer (some ⟨g,0,none⟩)∧W2.heap.size≤g∧(M 8=false→Blk w' g 40 #[vi vk 0,vi vk 0,vi vk 0,vi vk 0]))∧
  (M 3=true→v21=.tuple #[.agg #[vi vk r0,vi vk r1,vi vk r2,vi vk r3],vi vk E]∧True)∧
  (M 4=true→M 3=true∧v17=.tuple #[.agg #[vi vk r0,vi vk r1,vi vk r2,vi vk r3],vi vk E])∧
  (M 5=true→M 3=true∧v22=.agg #[vi vk r0,vi vk r1,vi vk r2,vi vk r3])∧
  (M 6=true→M 3=true∧v23=vi vk E)∧
  (M 9=true→M 3=true∧v11=vi vk E)∧
  (M 0=true→v18=x0)∧
  (M 1=true→v19=x1)∧
  (M 2=true→v20=x2)
theorem RaI1.start{E:Int}{W2:World}{x0 x1 x2:Value}(a:Act):RaI1 E W2 x0 x1 x2 a (fun _=>false) a W2.drew:=
 ⟨_,_,_,_,_,_,_,_,_,0,0,0,0,by rw[putQ_self a 18,putQ_self a 19,putQ_self a 20,putQ_self a 21,putQ_self a 17,putQ_self a 22,putQ_self a 23,putQ_self a 10,putQ_self a 11],bl_drew (Below.refl _ _),nofun,nofun,nofun,nofun,nofun,nofun,nofun,nofun,nofun⟩
theorem rValidLat_any(lo hi:Int)(w:World)(h:lo≤hi):Calls Tryz.prog 49 #[.agg #[vi vk lo,vi vk hi]] w fun e w'=>e=.returned (.bool (decide (-5400000≤lo∧hi≤5400000)))∧Below w.heap.size w w':=by
 have e:decide (-5400000≤lo∧hi≤5400000)=(decide (-5400000≤lo)&&decide (hi≤5400000)):=by
  rw[Bool.eq_iff_iff];simp only[Bool.and_eq_true,decide_eq_true_eq]
 rw[e];have d0:decide (lo≤hi)=true:=decide_eq_true h;cases d1:decide (-5400000≤lo)<;>cases d2:decide (hi≤5400000)
 all_goals
  go_enter func49,ntmps49;go_wp2;go_ret;refine⟨rfl,?_⟩;exact bl_
theorem rAll_any(w:World):Calls Tryz.prog 85 #[] w fun e w'=>e=.returned (.agg #[vi vk (-10800000),vi vk 10800000])∧Below w.heap.size w w':=by
 go_enter func85,ntmps85;go_wp2;refine bodyPost_ret (v:=.agg #[vi vk (-10800000),vi vk 10800000]) (by simp[results,results85,go_sem]) rfl ⟨rfl,?_⟩;exact bl_
end Go.Proofs.YtdeiofgddhbdaaaGreat
