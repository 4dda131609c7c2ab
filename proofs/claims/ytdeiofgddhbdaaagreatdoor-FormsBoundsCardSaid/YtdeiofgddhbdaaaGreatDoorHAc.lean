/- Plain: the sine of an altitude never misses the sines. No program in sight. -/
import Derived.Test.YtdeiofgddhbdaaaGreatDoorHAh
set_option linter.unusedSimpArgs false
set_option linter.unusedVariables false
set_option maxHeartbeats 4000000
set_option maxRecDepth 100000
open Go.RowKit
open Go.Lib (hid)
open Go.Proofs.Tryz
open Go.Value renaming int→vi
open Go.IntKind renaming i64→vk
namespace Go.Proofs.YtdeiofgddhbdaaaGreatDoor
theorem rBelow_any(n v:Int)(w:World):Calls Tryz.prog 201 #[vi vk n,vi vk v] w fun e w'=>(∃s:Int,e=.returned (vi vk s)∧Trig.BelP (Trig.hiB n) v s)∧Below w.heap.size w w':=by
 have KF:=hid (fun W=>Floor_any n W);have hx:Trig.hiB n=if Trig.rEx n=true then Trig.loB n else Trig.loB n+1:=by
  cases h:Trig.rEx n with
  |true=>rw[if_pos rfl];exact(Trig.exact_same n h).2
  |false=>rw[if_neg dc_];exact(qv_facts n h).2.2.2
 generalize Trig.loB n=lo at*;generalize Trig.hiB n=hi at*;generalize Trig.rEx n=ex at*;have ret: ∀(s:Int) (w1:World),Below w.heap.size w w1→(hi≤v→s≤0)→(v<hi→0<s)→(∃s':Int,Ending.returned (vi vk s)=.returned (vi vk s')∧Trig.BelP hi v s')∧Below w.heap.size w w1:=fun s w1 hb h1 h2=>⟨⟨s,rfl,h1,h2⟩,hb⟩;cases ex with
 |true=>
  simp only[if_true] at hx;subst hx;rcases Int.lt_trichotomy hi v with g|g|g
  · have d1:(hi==v)=false:=by simp;omega
    go_enter func201,ntmps201;go_wp2_with fail;(with_reducible refine(KF.out _).mono ?_)
    rintro e w1 ⟨rfl,hb1⟩
    go_wp2;go_ret;exact ret (-1) _ hb1 (fun _=>by decide) (fun h=>by omega)
  · subst g
    go_enter func201,ntmps201;go_wp2_with fail;(with_reducible refine(KF.out _).mono ?_)
    rintro e w1 ⟨rfl,hb1⟩
    go_wp2;go_ret;exact ret 0 _ hb1 (fun _=>by decide) (fun h=>by omega)
  · have d1:(hi==v)=false:=by simp;omega
    have d2:v≤hi:=by omega
    go_enter func201,ntmps201;go_wp2_with fail;(with_reducible refine(KF.out _).mono ?_)
    rintro e w1 ⟨rfl,hb1⟩
    go_wp2;go_ret;exact ret 1 _ hb1 (fun h=>by omega) (fun _=>by decide)
 |false=>
  simp only[Bool.false_eq_true,if_false] at hx;by_cases g:v≤lo
  · go_enter func201,ntmps201
    go_wp2_with fail;(with_reducible refine(KF.out _).mono ?_)
    rintro e w1 ⟨rfl,hb1⟩
    have HX:=hid hx;clear hx;go_wp2;go_ret;exact ret 1 _ hb1 (fun h=>by have:=HX.out;omega) (fun _=>by decide)
  · have g':lo<v:=by omega
    go_enter func201,ntmps201;go_wp2_with fail;(with_reducible refine(KF.out _).mono ?_)
    rintro e w1 ⟨rfl,hb1⟩
    have HX:=hid hx;clear hx g;go_wp2;go_ret;exact ret (-1) _ hb1 (fun _=>by decide) (fun h=>by have:=HX.out;omega)
theorem rough_pos(n:Int)(w:World)(h0:0≤n):Calls Tryz.prog 226 #[vi vk n] w fun e w'=>(∃r:Int,e=.returned (vi vk r))∧Below w.heap.size w w':=by
 go_enter func226,ntmps226;go_wp2;go_loopw [5,6] (fun s5 s6 wr=> ∃t k:Int,s5=vi vk t∧s6=vi vk k∧(k=13∨k=11∨k=9∨k=7∨k=5∨k=3∨k=1)∧Below w.heap.size w wr) (fun _ s6 _=>(intOf s6).toNat)
 case atStart=>exact⟨_,13,rfl,rfl,.inl rfl,Below.refl _ _⟩
 case round=>
  obtain⟨t,k,rfl,rfl,hk,hb⟩:=hrel;rcases hk with rfl|rfl|rfl|rfl|rfl|rfl|rfl
  all_goals go_wp2
  all_goals first
   |(go_roundw
     case rel=>exact⟨_,_,rfl,rfl,dc_,hb⟩
     case measure=>simp[intOf])
   |(go_ret
     exact⟨⟨_,rfl⟩,hb⟩)
theorem rough_any(n:Int)(w:World)(h0: -5400000≤n)(h1:n≤5400000):Calls Tryz.prog 226 #[vi vk n] w fun e w'=>(∃r:Int,e=.returned (vi vk r))∧Below w.heap.size w w':=by
 by_cases h:0≤n
 · exact rough_pos n w h
 · have KP:=hid (fun W=>rough_pos (-n) W om_)
   have h':n<0:=by omega
   clear h;go_enter func226,ntmps226;go_wp2_with fail;(with_reducible refine(KP.out _).mono ?_)
   rintro e w1 ⟨⟨r,rfl⟩,hb1⟩
   go_wp2;go_ret;exact⟨⟨_,rfl⟩,hb1⟩
theorem guess_any(v:Int)(w:World):Calls Tryz.prog 200 #[vi vk v] w fun e w'=>(∃r:Int,e=.returned (vi vk r)∧ -5400000≤r∧r≤5400000)∧Below w.heap.size w w':=by
 have KR:=hid (fun n W h0 h1=>rough_any n W h0 h1);go_enter func200,ntmps200;go_wp2;go_loopw [3,4] (fun s3 s4 wr=> ∃a b:Int,s3=vi vk a∧s4=vi vk b∧ -5400000≤a∧a≤b∧b≤5400000∧Below w.heap.size w wr) (fun s3 s4 _=>(intOf s4-intOf s3).toNat)
 case atStart=>exact⟨_,_,rfl,rfl,dc_,dc_,dc_,Below.refl _ _⟩
 case round=>
  obtain⟨a,b,rfl,rfl,ha,hab,hb,hbl⟩:=hrel;have HB:=hid hbl;clear hbl;by_cases hlt:a<b
  · obtain⟨d,hd⟩: ∃d:Int,(b-a+1).tdiv 2=d:=⟨_,rfl⟩
    have hd1:0<d∧d≤b-a:=by
     rw[←hd,Int.tdiv_eq_ediv_of_nonneg om_];omega
    go_wp2_with fail;(with_reducible refine(KR.out (a+d) _ om_ om_).mono ?_)
    rintro e w5 ⟨⟨r,rfl⟩,hb5⟩
    have B5:=hid (HB.out.trans (hb5.mono HB.out.size));by_cases hv:r≤v
    · go_wp2
      go_roundw
      case rel=>exact⟨a+d,b,rfl,rfl,om_,om_,hb,B5.out⟩
      case measure=>simp[intOf];omega
    · have hv':v<r:=by omega
      go_wp2;go_roundw
      case rel=>exact⟨a,a+d-1,rfl,by go_num,ha,om_,om_,B5.out⟩
      case measure=>simp[intOf];omega
  · obtain rfl:a=b:=by omega
    go_wp2;go_ret;exact⟨⟨_,rfl,ha,hb⟩,HB.out⟩
theorem aFloor_any(v:Int)(w:World)(h0: -1073741824≤v):Calls Tryz.prog 177 #[vi vk v] w fun e w'=>e=.returned (vi vk (Trig.asnV v))∧Below w.heap.size w w':=by
 have KB:=hid (fun n W=>rBelow_any n v W);have KG:=hid (fun W=>guess_any v W);have HS:Hid (Trig.hiB (-5400000)≤v):=hid (by rw[Trig.hiB_south];exact h0);have HASN:Hid (∀r,Trig.IsAsn v r→r=Trig.asnV v):=hid (fun r h=>Trig.asn_is h);obtain⟨R,hR⟩: ∃R,Trig.asnV v=R:=⟨_,rfl⟩;rw[hR] at HASN⊢;clear hR h0;go_enter func177,ntmps177;go_wp2_with fail;(with_reducible refine(KG.out _).mono ?_)
 rintro e w1 ⟨⟨g,rfl,hg0,hg1⟩,hb1⟩
 have B1:=hid hb1;clear hb1 KG;go_wp2;go_loopw [3,4] (fun s3 s4 wr=> ∃a p:Int,s3=vi vk a∧s4=vi vk p∧ -5400000≤a∧a≤5400000∧1≤p∧p≤43200004∧(a= -5400000∨p≤5400001-a)∧Below w.heap.size w wr) (fun s3 _ _=>(intOf s3+5400000).toNat)
 case atStart=>exact⟨_,_,rfl,rfl,hg0,hg1,dc_,dc_,.inr om_,B1.out⟩
 case round=>
  obtain⟨a,p,rfl,rfl,ha0,ha1,hp0,hp1,hap,hbl⟩:=hrel;have HB:=hid hbl;clear hbl B1;go_wp2_with fail;(with_reducible refine(KB.out a _).mono ?_)
  rintro e w5 ⟨⟨s,rfl,hs1,hs2⟩,hb5⟩
  have B5:=hid (HB.out.trans (hb5.mono HB.out.size));clear hb5 HB;by_cases hv:Trig.hiB a≤v
  · have hs:=hs1 hv
    have HV:=hid hv;clear hs1 hs2 hv hap hp0 hp1;go_wp2;go_loopw [3,5,6] (fun s3 s5 s6 wr=> ∃a b p:Int,s3=vi vk a∧s5=vi vk b∧s6=vi vk p∧ -5400000≤a∧a<b∧a≤5400000∧Trig.hiB a≤v∧(b≤5400000∨a=5400000)∧1≤p∧((p≤b+5400000∧b≤5400001)∨(b=5400000∧p≤21600000)∨(5400000<b∧b≤27000000∧p≤43200000))∧Below w.heap.size w wr) (fun s3 _ _ _=>(5400000-intOf s3).toNat)
    case atStart=>exact⟨a,a+1,1,rfl,by go_num,rfl,ha0,om_,ha1,HV.out,om_,dc_,.inl om_,B5.out⟩
    case round=>
     clear HV B5 ha0 ha1 hs;obtain⟨a,b,p,rfl,rfl,rfl,ha0,hab,ha1,hv,hbq,hp0,hp,hbl⟩:=hrel;have HV:=hid hv;have HB:=hid hbl;clear hv hbl;by_cases hb5:b≤5400000
     · go_wp2_with fail
       (with_reducible refine(KB.out b _).mono ?_)
       rintro e w6 ⟨⟨s,rfl,hs1,hs2⟩,hb6⟩
       have B6:=hid (HB.out.trans (hb6.mono HB.out.size));clear hb6 HB;by_cases hv:Trig.hiB b≤v
       · have hs:=hs1 hv
         have HV2:=hid hv;clear hs1 hs2 hv HV;by_cases hbe:b<5400000
         · by_cases hbp:5400000<b+p
           · go_wp2
             go_roundw
             case rel=>exact⟨b,5400000,2*p,rfl,rfl,by go_num,om_,om_,om_,HV2.out,om_,om_,om_,B6.out⟩
             case measure=>simp[intOf];omega
           · have hbp':b+p≤5400000:=by omega
             clear hbp;go_wp2;go_roundw
             case rel=>exact⟨b,b+p,2*p,rfl,by go_num,by go_num,om_,om_,om_,HV2.out,om_,om_,om_,B6.out⟩
             case measure=>simp[intOf];omega
         · obtain rfl:b=5400000:=by omega
           clear hbe;go_wp2;go_roundw
           case rel=>exact⟨5400000,5400000+p,2*p,rfl,by go_num,by go_num,om_,om_,om_,HV2.out,om_,om_,om_,B6.out⟩
           case measure=>simp[intOf];omega
       · have hs:=hs2 om_
         have HV2:Hid (v<Trig.hiB b):=hid om_;have hne:(a==5400000)=false:=by simp;omega
         clear hs1 hs2 hv hp hp0 hbq;go_wp2;go_loopw [3,5] (fun s3 s5 wr=> ∃a b:Int,s3=vi vk a∧s5=vi vk b∧ -5400000≤a∧a<b∧b≤5400000∧Trig.hiB a≤v∧v<Trig.hiB b∧Below w.heap.size w wr) (fun s3 s5 _=>(intOf s5-intOf s3).toNat)
         case atStart=>exact⟨a,b,rfl,rfl,ha0,hab,hb5,HV.out,HV2.out,B6.out⟩
         case round=>
          clear HV HV2 B6 ha0 hab hb5 hne hs ha1;obtain⟨a,b,rfl,rfl,ha0,hab,hb5,hv1,hv2,hbl⟩:=hrel;have H1:=hid hv1;have H2:=hid hv2;have HB:=hid hbl;clear hv1 hv2 hbl;by_cases hlt:a+1<b
          · obtain⟨d,hd⟩: ∃d:Int,(b-a).tdiv 2=d:=⟨_,rfl⟩
            have hd1:0<d∧d<b-a:=by
             rw[←hd,Int.tdiv_eq_ediv_of_nonneg om_];omega
            go_wp2_with fail;(with_reducible refine(KB.out (a+d) _).mono ?_)
            rintro e w7 ⟨⟨s,rfl,hs1,hs2⟩,hb7⟩
            have B7:=hid (HB.out.trans (hb7.mono HB.out.size));clear hb7 HB;by_cases hv:Trig.hiB (a+d)≤v
            · have hs:=hs1 hv
              have HV:=hid hv;clear hs1 hs2 hv;go_wp2;go_roundw
              case rel=>exact⟨a+d,b,rfl,rfl,om_,om_,hb5,HV.out,H2.out,B7.out⟩
              case measure=>simp[intOf];omega
            · have hs:=hs2 om_
              have HV:Hid (v<Trig.hiB (a+d)):=hid om_;clear hs1 hs2 hv;go_wp2;go_roundw
              case rel=>exact⟨a,a+d,rfl,rfl,ha0,om_,om_,H1.out,HV.out,B7.out⟩
              case measure=>simp[intOf];omega
          · obtain rfl:b=a+1:=by omega
            have HRR:=hid (HASN.out a ⟨ha0,om_,H1.out,fun _=>H2.out⟩);clear hlt;go_wp2;go_ret;exact⟨ret_int HRR.out,HB.out⟩
     · obtain rfl:a=5400000:=by omega
       have HRR:=hid (HASN.out 5400000 ⟨dc_,dc_,HV.out,fun h=>absurd h dc_⟩);have hb5':5400000<b:=by omega
       clear hb5 hbq hp;go_wp2;go_ret;exact⟨ret_int HRR.out,HB.out⟩
  · have hs:=hs2 om_
    have hne:a≠ -5400000:=fun h=>by subst h;exact hv HS.out
    have hap':p≤5400001-a:=by omega
    clear hs1 hs2 hv hap;by_cases hc:a-p< -5400000
    · go_wp2
      go_roundw
      case rel=>exact⟨-5400000,2*p,rfl,by go_num,dc_,dc_,om_,om_,.inl rfl,B5.out⟩
      case measure=>simp[intOf];omega
    · have hc': -5400000≤a-p:=by omega
      clear hc;go_wp2;go_roundw
      case rel=>exact⟨a-p,2*p,by go_num,by go_num,om_,om_,om_,om_,.inr om_,B5.out⟩
      case measure=>simp[intOf];omega
theorem aCeil_any(v:Int)(w:World)(h0: -1073741824≤v)(h1:v≤1073741824):Calls Tryz.prog 178 #[vi vk v] w fun e w'=>e=.returned (vi vk (-Trig.asnV (-v)))∧Below w.heap.size w w':=by
 have KF:=hid (fun W=>aFloor_any (-v) W om_);have hb:=Trig.asn_bd (-v);generalize Trig.asnV (-v)=r at*;go_enter func178,ntmps178;go_wp2_with fail;(with_reducible refine(KF.out _).mono ?_)
 rintro e w1 ⟨rfl,hb1⟩
 go_wp2;go_ret;exact⟨ret_int om_,hb1⟩
theorem aValid_yes(lo hi:Int)(w:World)(h0: -2147483648≤lo)(h1:lo≤hi)(h2:hi≤2147483648):Calls Tryz.prog 176 #[.agg #[vi vk lo,vi vk hi]] w fun e w'=>e=.returned (.bool true)∧Below w.heap.size w w':=by
 go_enter func176,ntmps176;go_wp2;go_ret;exact⟨congrArg (fun b=>Ending.returned (.bool b)) (by simp),bl_alloc _ _⟩
theorem rAsin_yes(lo hi:Int)(w:World)(h0: -2147483648≤lo)(h1:lo≤hi)(h2:hi≤2147483648)(h3:lo≤1073741824)(h4: -1073741824≤hi):
 Calls Tryz.prog 135 #[.agg #[vi vk lo,vi vk hi]] w fun e w'=>e=.returned (.tuple #[.agg #[vi vk (Trig.asnV (max lo (-1073741824))),vi vk (-Trig.asnV (-(min hi 1073741824)))],vi vk 0])∧Below w.heap.size w w':=by
 have KV:=hid (fun W=>aValid_yes lo hi W h0 h1 h2);obtain⟨p,hp⟩: ∃p,max lo (-1073741824)=p:=⟨_,rfl⟩;obtain⟨q,hq⟩: ∃q,min hi 1073741824=q:=⟨_,rfl⟩;rw[hp,hq];have K1:=hid (fun W=>aFloor_any p W om_);have K2:=hid (fun W=>aCeil_any q W om_ om_);generalize Trig.asnV p=r1 at*;generalize-Trig.asnV (-q)=r2 at*;have T1:=hid ((D2.new w lo hi 160).alloc (.cells #[vi vk 0,vi vk 0] 33));have T2:Hid (D2 ((w.alloc (.cells #[vi vk lo,vi vk hi] 160)).alloc (.cells #[vi vk 0,vi vk 0] 33)) (w.heap.size+1) 0 0):=hid (by
  have:=D2.new (w.alloc (.cells #[vi vk lo,vi vk hi] 160)) 0 0 33;rwa [World.size_alloc] at this)
 have B0:=hid ((bl_alloc w (.cells #[vi vk lo,vi vk hi] 160)).alloc (by simp) (.cells #[vi vk 0,vi vk 0] 33));have hlo:(lo< -1073741824∧p= -1073741824)∨(-1073741824≤lo∧p=lo):=by omega
 have hhi:(1073741824<hi∧q=1073741824)∨(hi≤1073741824∧q=hi):=by omega
 have hpq:p≤q:=by omega
 clear hp hq h0 h1 h2 h3 h4;rcases hlo with ⟨c1,rfl⟩|⟨c1,rfl⟩<;>rcases hhi with ⟨c2,rfl⟩|⟨c2,rfl⟩
 all_goals
  go_enter func135,ntmps135;go_wp2_with fail;(with_reducible refine(KV.out _).mono ?_)
  rintro e w1 ⟨rfl,hb1⟩
  have T1:=hid (T1.out.below hb1 T1.out.lt);have T2:=hid (T2.out.below hb1 T2.out.lt);have B0:=hid (B0.out.trans (hb1.mono B0.out.size));clear hb1 KV;obtain⟨at1,a0,a1,af0,af1⟩:=T1.out;go_wp2_with fail;(with_reducible refine(K1.out _).mono ?_)
  rintro e w2 ⟨rfl,hb2⟩
  have T2:=hid (T2.out.below hb2 T2.out.lt);have B0:=hid (B0.out.trans (hb2.mono B0.out.size));clear hb2 K1 at1 a0 a1 af0 af1;go_wp2_with fail;(with_reducible refine(K2.out _).mono ?_)
  rintro e w3 ⟨rfl,hb3⟩
  have B0:=hid (B0.out.trans (hb3.mono B0.out.size));obtain⟨bt,b0,b1,bf0,bf1⟩:=T2.out.below hb3 T2.out.lt;go_wp2;refine bodyPost_ret (v:=.tuple #[.agg #[vi vk r1,vi vk r2],vi vk 0]) (by simp[results,results135,go_sem, *];done) rfl ⟨rfl,?_⟩;exact(B0.out.setCell (by simp) _).setCell (by simp) _
theorem clat_yes(lo hi:Int)(w:World)(h0: -5400000≤lo)(h1:lo≤hi)(h2:hi≤5400000):Calls Tryz.prog 118 #[.agg #[vi vk lo,vi vk hi]] w fun e w'=>e=.returned (.bool true)∧Below w.heap.size w w':=by
 have KV:=hid (fun W=>aValid_any lo hi W);rw[avB_true.2 (by omega: -1099511627776≤lo∧lo≤hi∧hi≤1099511627776)] at KV;have T1:=hid (D2.new w lo hi 33);have B0:=hid (bl_alloc w (.cells #[vi vk lo,vi vk hi] 33));have d1: -5400000≤lo:=h0;have d2:hi≤5400000:=h2;go_enter func118,ntmps118;go_wp2_with fail;(with_reducible refine(KV.out _).mono ?_)
 rintro e w1 ⟨rfl,hb1⟩
 have B1:=hid (B0.out.trans (hb1.mono B0.out.size));obtain⟨at1,a0,a1,af0,af1⟩:=T1.out.below hb1 T1.out.lt;clear hb1;go_wp2;go_ret;exact⟨ret_bool (by simp),B1.out⟩
theorem cValid_yes(a b c:Int×Int)(w:World)(ha: -5400000≤a.1∧a.1≤a.2∧a.2≤5400000)(hb: -5400000≤b.1∧b.1≤b.2∧b.2≤5400000)(hc:avB c.1 c.2=true):
 Calls Tryz.prog 86 #[.agg #[vi vk a.1,vi vk a.2,vi vk b.1,vi vk b.2,vi vk c.1,vi vk c.2]] w fun e w'=>e=.returned (.bool true)∧Below w.heap.size w w':=by
 have K1:=hid (fun W=>clat_yes a.1 a.2 W ha.1 ha.2.1 ha.2.2);have K2:=hid (fun W=>clat_yes b.1 b.2 W hb.1 hb.2.1 hb.2.2);have K3:=hid (fun W=>aValid_any c.1 c.2 W);rw[hc] at K3;obtain⟨a0,a1⟩:=a;obtain⟨b0,b1⟩:=b;obtain⟨c0,c1⟩:=c;simp only[] at K1 K2 K3⊢;clear ha hb hc;have T1:=hid (C6.new w a0 a1 b0 b1 c0 c1 95);have B0:=hid (bl_alloc w (.cells #[vi vk a0,vi vk a1,vi vk b0,vi vk b1,vi vk c0,vi vk c1] 95));go_enter func86,ntmps86;go_wp2_with fail;(with_reducible refine(K1.out _).mono ?_)
 rintro e w1 ⟨rfl,hb1⟩
 have B1:=hid (B0.out.trans (hb1.mono B0.out.size));have T2:=hid (T1.out.below hb1 T1.out.lt);clear hb1 T1 B0;obtain⟨tl,x0,x1,x2,x3,x4,x5⟩:=T2.out;go_wp2_with fail;(with_reducible refine(K2.out _).mono ?_)
 rintro e w2 ⟨rfl,hb2⟩
 have B2:=hid (B1.out.trans (hb2.mono B1.out.size));clear tl x0 x1 x2 x3 x4 x5;obtain⟨tl,x0,x1,x2,x3,x4,x5⟩:=T2.out.below hb2 T2.out.lt;clear hb2;go_wp2_with fail;(with_reducible refine(K3.out _).mono ?_)
 rintro e w3 ⟨rfl,hb3⟩
 have B3:=hid (B2.out.trans (hb3.mono B2.out.size));clear hb3;go_wp2;go_ret;exact⟨rfl,B3.out⟩
theorem Altitude_yes(a b c:Int×Int)(w:World)(ha: -5400000≤a.1∧a.1≤a.2∧a.2≤5400000)(hb: -5400000≤b.1∧b.1≤b.2∧b.2≤5400000)(hc:avB c.1 c.2=true)(h3:(Trig.sinT a b c).1≤1073741824)(h4: -1073741824≤(Trig.sinT a b c).2):
 Calls Tryz.prog 54 #[.agg #[vi vk a.1,vi vk a.2,vi vk b.1,vi vk b.2,vi vk c.1,vi vk c.2]] w fun e w'=>e=.returned (.tuple #[.agg #[vi vk (Trig.asnV (max (Trig.sinT a b c).1 (-1073741824))),vi vk (-Trig.asnV (-(min (Trig.sinT a b c).2 1073741824)))],vi vk 0])∧Below w.heap.size w w':=by
 have KV:=hid (fun W=>cValid_yes a b c W ha hb hc);have KA:=hid (fun W=>altitude_yes a b c W (avB_true.2 om_) (avB_true.2 om_) hc h3 h4);generalize Trig.asnV (max (Trig.sinT a b c).1 (-1073741824))=r0 at*;generalize-Trig.asnV (-(min (Trig.sinT a b c).2 1073741824))=r1 at*;obtain⟨a0,a1⟩:=a;obtain⟨b0,b1⟩:=b;obtain⟨c0,c1⟩:=c;simp only[] at KV KA⊢;clear ha hb hc h3 h4;have T1:=hid ((C6.new w a0 a1 b0 b1 c0 c1 95).below (bl_alloc _ (.cells #[vi vk 0,vi vk 0] 33)) (by simp));have TR:Hid (D2 ((w.alloc (.cells #[vi vk a0,vi vk a1,vi vk b0,vi vk b1,vi vk c0,vi vk c1] 95)).alloc (.cells #[vi vk 0,vi vk 0] 33)) (w.heap.size+1) 0 0):=hid (by
  have:=D2.new (w.alloc (.cells #[vi vk a0,vi vk a1,vi vk b0,vi vk b1,vi vk c0,vi vk c1] 95)) 0 0 33;rwa [World.size_alloc] at this)
 have B0:=hid ((bl_alloc w (.cells #[vi vk a0,vi vk a1,vi vk b0,vi vk b1,vi vk c0,vi vk c1] 95)).alloc (by simp) (.cells #[vi vk 0,vi vk 0] 33));go_enter func54,ntmps54;go_wp2_with fail;(with_reducible refine(KV.out _).mono ?_)
 rintro e w1 ⟨rfl,hb1⟩
 have B1:=hid (B0.out.trans (hb1.mono B0.out.size));have T2:=hid (T1.out.below hb1 T1.out.lt);have R2:=hid (TR.out.below hb1 TR.out.lt);clear hb1 T1 B0 TR;obtain⟨tl,x0,x1,x2,x3,x4,x5⟩:=T2.out;go_wp2_with fail;(with_reducible refine(KA.out _).mono ?_)
 rintro e w2 ⟨rfl,hb2⟩
 have B2:=hid (B1.out.trans (hb2.mono B1.out.size));clear tl x0 x1 x2 x3 x4 x5;obtain⟨rt,ra,rb,rf0,rf1⟩:=R2.out.below hb2 R2.out.lt;clear hb2;go_wp2;refine bodyPost_ret (v:=.tuple #[.agg #[vi vk r0,vi vk r1],vi vk 0]) (by simp[results,results54,go_sem, *];done) rfl ⟨rfl,?_⟩;exact(B2.out.setCell so_ _).setCell so_ _
theorem rAltitude_yes(a b c:Int×Int)(w:World)(ha: -10800000≤a.1∧a.1≤10800000∧ -10800000≤a.2∧a.2≤10800000)(hb: -10800000≤b.1∧b.1≤10800000∧ -10800000≤b.2∧b.2≤10800000)(hc: -1000000000000≤c.1∧c.1≤1000000000000∧ -1000000000000≤c.2∧c.2≤1000000000000)(h3:(Trig.sinT a b c).1≤1073741824)(h4: -1073741824≤(Trig.sinT a b c).2):
 Calls Tryz.prog 98 #[.agg #[vi vk a.1,vi vk a.2,vi vk b.1,vi vk b.2,vi vk c.1,vi vk c.2]] w fun e w'=>e=.returned (.agg #[vi vk (Trig.asnV (max (Trig.sinT a b c).1 (-1073741824))),vi vk (-Trig.asnV (-(min (Trig.sinT a b c).2 1073741824)))])∧Below w.heap.size w w':=by
 have hf:=Trig.sinT_fv a b c;have KS:=fun W=>Sine25_any a b c W ha hb hc;have KA:=fun W=>rAsin_yes (Trig.sinT a b c).1 (Trig.sinT a b c).2 W hf.1 hf.2.1 hf.2.2 h3 h4;generalize Trig.asnV (max (Trig.sinT a b c).1 (-1073741824))=r0 at*;generalize-Trig.asnV (-(min (Trig.sinT a b c).2 1073741824))=r1 at*;generalize (Trig.sinT a b c).1=s0 at*;generalize (Trig.sinT a b c).2=s1 at*;obtain⟨a0,a1⟩:=a;obtain⟨b0,b1⟩:=b;obtain⟨c0,c1⟩:=c;simp only[] at KS KA⊢;clear ha hb hc h3 h4 hf;have KS:=hid KS;have KA:=hid KA;have TR:Hid (D2 ((w.alloc (.cells #[vi vk a0,vi vk a1,vi vk b0,vi vk b1,vi vk c0,vi vk c1] 95)).alloc (.cells #[vi vk 0,vi vk 0] 33)) (w.heap.size+1) 0 0):=hid (by
  have:=D2.new (w.alloc (.cells #[vi vk a0,vi vk a1,vi vk b0,vi vk b1,vi vk c0,vi vk c1] 95)) 0 0 33;rwa [World.size_alloc] at this)
 have B0:=hid ((bl_alloc w (.cells #[vi vk a0,vi vk a1,vi vk b0,vi vk b1,vi vk c0,vi vk c1] 95)).alloc (by simp) (.cells #[vi vk 0,vi vk 0] 33));go_enter func98,ntmps98;go_wp2_with fail;(with_reducible refine(KS.out _).mono ?_)
 rintro e w1 ⟨rfl,hb1⟩
 have B1:=hid (B0.out.trans (hb1.mono B0.out.size));have R2:=hid (TR.out.below hb1 TR.out.lt);clear hb1 B0 TR;go_wp2_with fail;(with_reducible refine(KA.out _).mono ?_)
 rintro e w2 ⟨rfl,hb2⟩
 have B2:=hid (B1.out.trans (hb2.mono B1.out.size));obtain⟨rt,ra,rb,rf0,rf1⟩:=R2.out.below hb2 R2.out.lt;have hs:=B2.out.size;clear hb2;go_wp2;refine bodyPost_ret (v:=.agg #[vi vk r0,vi vk r1]) (by simp[results,results98,go_sem, *];done) rfl ⟨rfl,?_⟩;have B3:=B2.out;exact bl_
namespace Trig
theorem sin01{x:Rat}(h:0≤x)(h1:x≤1):0≤sinP x∧sinP x≤1:=by
 rw[sin_alt];obtain⟨a,b⟩:=alt_bd h h1 35 1;exact⟨a,Rat.le_trans b (mo_le1 h h1 1)⟩
theorem cos01{x:Rat}(h:0≤x)(h1:x≤1):0≤cosP x∧cosP x≤1:=by
 rw[cos_alt];obtain⟨a,b⟩:=alt_bd h h1 35 0;exact⟨a,Rat.le_trans b (mo_le1 h h1 0)⟩
theorem sq_near1{v a E:Rat}(hv:0≤v∧v≤1)(hE:0≤E)(hn:v-a≤E):v*v≤a*a+2*E:=by
 have h1:0≤(1-v)*E:=Rat.mul_nonneg (by grind) hE;have h2:0≤v*(E-(v-a)):=Rat.mul_nonneg hv.1 (by grind);have h3:0≤(v-a)*(v-a):=by
  by_cases h:0≤v-a
  · exact Rat.mul_nonneg h h
  · have:=Rat.mul_nonneg (a:=a-v) (b:=a-v) (by grind) (by grind)
    grind
 grind
theorem pyth_step{x h:Rat}(hx:0≤x)(hh:0≤h)(h1:x+h≤1)(hs:h≤1/10000):
 sinP (x+h)*sinP (x+h)+cosP (x+h)*cosP (x+h)≤sinP x*sinP x+cosP x*cosP x+1/1000000000000000:=by
 have e1:=(sin_shift hx hh h1 hs).1;have e2:=(cos_shift hx hh h1 hs).1;have s1:=sin01 (x:=x+h) (by grind) h1;have c1:=cos01 (x:=x+h) (by grind) h1;have q0:0≤h*h:=Rat.mul_nonneg hh hh;have q1:h*h≤1/100000000:=by
  have:=Rat.mul_nonneg hh (show 0≤1/10000-h by grind);grind
 have r0:0≤h*h*(h*h):=Rat.mul_nonneg q0 q0;have r1:h*h*(h*h)≤1/10000000000000000:=by
  have:=Rat.mul_nonneg q0 (show 0≤1/100000000-h*h by grind);grind
 have t0:0≤h*h*(h*h)*(1/12-h*h/36):=Rat.mul_nonneg r0 (by grind);have f1:=sq_near1 s1 (E:=h*h*h*h*(3/5)+1/2^65/2) (by grind) e1;have f2:=sq_near1 c1 (E:=h*h*h*h*(3/5)+1/2^65/2) (by grind) e2;have ev:0≤sinP x*sinP x+cosP x*cosP x:=by
  have s2:=sin01 hx (by grind);have c2:=cos01 hx (by grind);have:=Rat.mul_nonneg s2.1 s2.1;have:=Rat.mul_nonneg c2.1 c2.1;grind
 have g0:=Rat.mul_nonneg ev t0;generalize sinP (x+h)=s' at*;generalize cosP (x+h)=c' at*;generalize sinP x=s at*;generalize cosP x=c at*;have id1:(s+h*c-h*h/2*s-h*h*h/6*c)*(s+h*c-h*h/2*s-h*h*h/6*c)+(c-h*s-h*h/2*c+h*h*h/6*s)*(c-h*s-h*h/2*c+h*h*h/6*s)=(s*s+c*c)-(s*s+c*c)*(h*h*(h*h)*(1/12-h*h/36)):=by grind
 have id2:h*h*h*h=h*h*(h*h):=by grind
 rw[id2] at f1 f2;have k65:(1:Rat)/2^65/2≤1/36893488147419103232:=by decide+kernel
 grind
theorem pyth_le: ∀(n:Nat) (x:Rat),0≤x→x*10000≤(n:Rat)→x≤1→sinP x*sinP x+cosP x*cosP x≤1+(n:Rat)*(1/1000000000000000)
 |0,x,h0,h1,_=>by
  have:x=0:=by
   have h1':x*10000≤0:=by simpa using h1
   grind
  subst this;decide+kernel
 |n+1,x,h0,h1,h2=>by
  have h1':x*10000≤(n:Rat)+1:=by simpa using h1
  have hc:((n+1:Nat):Rat)=(n:Rat)+1:=by simp
  rw[hc];have hn:=c0 n;by_cases hx:1/10000≤x
  · have ih:=pyth_le n (x-1/10000) (by grind) (by grind) (by grind)
    have:=pyth_step (x:=x-1/10000) (h:=1/10000) (by grind) (by decide+kernel) (by grind) (by grind);rw[show x-1/10000+1/10000=x by grind] at this;grind
  · have:=pyth_step (x:=0) (h:=x) (by grind) h0 (by grind) (by grind)
    rw[show 0+x=x by grind] at this;have z:sinP 0*sinP 0+cosP 0*cosP 0≤1:=by decide+kernel
    grind
theorem sq_le2{A s:Rat}(h0:0≤A)(h:A*4294967296≤s*4611686018427387904+75)(hs:0≤s∧s≤1):A*A≤s*s*1152921504606846976+75:=by
 have h1:0≤A*(s*1073741824+75/4294967296-A):=Rat.mul_nonneg h0 (by grind);have h2:0≤(s*1073741824+75/4294967296)*(s*1073741824+75/4294967296-A):=Rat.mul_nonneg (by grind) (by grind);grind
theorem quick_pyth{r:Nat}(h:r≤2700000):(quickN r false/4294967296)*(quickN r false/4294967296)+(quickN r true/4294967296)*(quickN r true/4294967296)≤1152921505680588799:=by
 obtain⟨x0,x1⟩:=ang_bd h;have hs:=(quick_sin h).1;have hc:=(quick_cos h).1;have hv:=pyth_le 8000 ((r:Rat)*th) x0 (by grind) (by grind);have s1:=sin01 x0 (by grind);have c1:=cos01 x0 (by grind);generalize sinP ((r:Rat)*th)=s at*;generalize cosP ((r:Rat)*th)=c at*;have ds:=Nat.div_mul_le_self (quickN r false) 4294967296;have dc:=Nat.div_mul_le_self (quickN r true) 4294967296;generalize quickN r false=a at*;generalize quickN r true=b at*;generalize a/4294967296=A at*;generalize b/4294967296=B at*;have ds':(A:Rat)*4294967296≤(a:Rat):=by exact_mod_cast ds
 have dc':(B:Rat)*4294967296≤(b:Rat):=by exact_mod_cast dc
 have hY:(Y:Rat)=4611686018427387904:=by decide+kernel
 rw[hY] at hs hc;have kA:(A:Rat)*4294967296≤s*4611686018427387904+75:=by grind
 have kB:(B:Rat)*4294967296≤c*4611686018427387904+75:=by grind
 have sqA:=sq_le2 (c0 A) kA s1;have sqB:=sq_le2 (c0 B) kB c1;have hv':s*s+c*c≤1+1/100000000000:=by
  have:((8000:Nat):Rat)*(1/1000000000000000)≤1/100000000000:=by decide+kernel
  grind
 have fin:(A:Rat)*(A:Rat)+(B:Rat)*(B:Rat)≤1152921505680588799:=by grind
 exact_mod_cast fin
theorem sF_half{q:Int}(h0:0≤q)(h1:q≤2700000):sF q*sF q+sF (5400000-q)*sF (5400000-q)≤1152921505680588799:=by
 by_cases e0:q=0
 · subst e0;decide+kernel
 by_cases e1:q=1800000
 · subst e1;decide+kernel
 by_cases e2:q=2700000
 · subst e2;decide+kernel
 have hq:=quick_pyth (r:=q.toNat) om_;have f1:sF q=((quickN q.toNat false/4294967296:Nat):Int):=by
  unfold sF;rw[if_neg e0,if_neg e1,if_neg om_,if_pos om_]
 have f2:sF (5400000-q)=((quickN q.toNat true/4294967296:Nat):Int):=by
  unfold sF;rw[if_neg om_,if_neg om_,if_neg om_,if_neg om_,show 5400000-(5400000-q)=q by omega]
 rw[f1,f2];clear f1 f2;generalize quickN q.toNat false/4294967296=A at*;generalize quickN q.toNat true/4294967296=B at*;have e1:((A*A+B*B:Nat):Int)≤((1152921505680588799:Nat):Int):=Int.ofNat_le.2 hq;rw[Int.natCast_add,Int.natCast_mul,Int.natCast_mul] at e1;omega
theorem sF_pyth{q:Int}(h0:0≤q)(h1:q≤5400000):sF q*sF q+sF (5400000-q)*sF (5400000-q)≤1152921505680588799:=by
 by_cases h:q≤2700000
 · exact sF_half h0 h
 · have:=sF_half (q:=5400000-q) om_ om_
   rw[show 5400000-(5400000-q)=q by omega] at this;omega
def tz(n:Int):Int:=if sth n=true then-sF (qrt n) else sF (qrt n)
theorem up_ge(q:Int):sF q≤upF q:=by unfold upF;split<;>omega
theorem tz_bd(n:Int):loB n≤tz n∧tz n≤hiB n:=by
 have:=up_ge (qrt n);unfold loB hiB tz;split<;>omega
theorem tz_pyth(n:Int):tz n*tz n+tz (n+5400000)*tz (n+5400000)≤1152921505680588799:=by
 have hb:=qrt_bd n;have e:qrt (n+5400000)=5400000-qrt n:=by unfold qrt;omega
 have:=sF_pyth hb.1 hb.2;have a1:tz n*tz n=sF (qrt n)*sF (qrt n):=by unfold tz;split<;>grind
 have a2:tz (n+5400000)*tz (n+5400000)=sF (5400000-qrt n)*sF (5400000-qrt n):=by unfold tz;rw[e];split<;>grind
 omega
theorem en_tz(lo hi:Int):enLo lo hi≤tz lo∧tz lo≤enHi lo hi:=by
 have h1:=tz_bd lo;have h2:=hi_le lo;unfold enLo enHi;generalize metB lo hi 16200000=s at*;generalize metB lo hi 5400000=t at*;generalize loB lo=p at*;generalize hiB lo=q at*;generalize tz lo=z at*;cases s<;>cases t<;>simp only[Bool.false_eq_true,if_false,if_true]<;>omega
theorem lin1{x1 x2 u:Int}(h1:x1≤u)(h2:u≤x2)(v:Int):min (x1*v) (x2*v)≤u*v∧u*v≤max (x1*v) (x2*v):=by
 rcases Int.le_total 0 v with g|g
 · have:=Int.mul_le_mul_of_nonneg_right h1 g
   have:=Int.mul_le_mul_of_nonneg_right h2 g;omega
 · have:=Int.mul_le_mul_of_nonpos_right h1 g
   have:=Int.mul_le_mul_of_nonpos_right h2 g;omega
theorem lin2{y1 y2 v:Int}(h1:y1≤v)(h2:v≤y2)(u:Int):min (u*y1) (u*y2)≤u*v∧u*v≤max (u*y1) (u*y2):=by
 have:=lin1 h1 h2 u;rw[Int.mul_comm u y1,Int.mul_comm u y2,Int.mul_comm u v];exact this
theorem mulP_in{x y:Int×Int}{u v:Int}(h1:x.1≤u)(h2:u≤x.2)(g1:y.1≤v)(g2:v≤y.2):(mulP x y).1≤u*v/1073741824∧ -(-(u*v)/1073741824)≤(mulP x y).2:=by
 have a:=lin1 h1 h2 v;have b:=lin2 g1 g2 x.1;have c:=lin2 g1 g2 x.2;unfold mulP;simp only[];generalize x.1*y.1=p at*;generalize x.1*y.2=q at*;generalize x.2*y.1=r at*;generalize x.2*y.2=s at*;generalize x.1*v=k at*;generalize x.2*v=l at*;generalize u*v=m at*;omega
theorem sqn(a:Int):0≤a*a:=by
 rcases Int.le_total 0 a with h|h
 · exact Int.mul_nonneg h h
 · exact Int.mul_nonneg_of_nonpos_of_nonpos h h
theorem two_mul_le(a b:Int):2*(a*b)≤a*a+b*b∧ -(2*(a*b))≤a*a+b*b:=by
 have h1:0≤(a-b)*(a-b):=sqn _;have h2:0≤(a+b)*(a+b):=sqn _;have e1:(a-b)*(a-b)=a*a+b*b-2*(a*b):=by grind
 have e2:(a+b)*(a+b)=a*a+b*b+2*(a*b):=by grind
 omega
theorem tz_one(n:Int): -1073741824≤tz n∧tz n≤1073741824:=by
 have h:=qrt_bd n;have:=sF_bd h.1 h.2;unfold tz;split<;>omega
theorem sinT_meets(a b c:Int×Int):(sinT a b c).1≤1073741824∧ -1073741824≤(sinT a b c).2:=by
 have sa:=en_tz a.1 a.2;have sb:=en_tz b.1 b.2;have ca:=en_tz (a.1+5400000) (a.2+5400000);have cb:=en_tz (b.1+5400000) (b.2+5400000);have cc:=en_tz (c.1+5400000) (c.2+5400000);have pa:=tz_pyth a.1;have pb:=tz_pyth b.1;have m1:=mulP_in (x:=snP a) (y:=snP b) sa.1 sa.2 sb.1 sb.2;have m2:=mulP_in (x:=csP a) (y:=csP b) ca.1 ca.2 cb.1 cb.2;have oc:=tz_one (c.1+5400000);have q1:=two_mul_le (tz a.1) (tz b.1);have q2:=two_mul_le (tz (a.1+5400000)) (tz (b.1+5400000));generalize tz (c.1+5400000)=z at*;have main: ∀t:Int,(mulP (csP a) (csP b)).1≤t→t≤(mulP (csP a) (csP b)).2→(∃k:Int,0≤k∧ -k≤t∧t≤k∧2*(1073741824*k)≤tz (a.1+5400000)*tz (a.1+5400000)+tz (b.1+5400000)*tz (b.1+5400000))→(sinT a b c).1≤1073741824∧ -1073741824≤(sinT a b c).2:=by
  rintro t h1 h2 ⟨k,k0,k1,k2,k3⟩
  have m3:=mulP_in (x:=mulP (csP a) (csP b)) (y:=csP c) h1 h2 cc.1 cc.2;have b1: -(k*1073741824)≤t*z∧t*z≤k*1073741824:=by
   have e1:0≤(k-t)*(1073741824+z):=Int.mul_nonneg om_ om_;have e2:0≤(k+t)*(1073741824-z):=Int.mul_nonneg om_ om_;have e3:0≤(k-t)*(1073741824-z):=Int.mul_nonneg om_ om_;have e4:0≤(k+t)*(1073741824+z):=Int.mul_nonneg om_ om_;have f1:(k-t)*(1073741824+z)=k*1073741824+k*z-t*1073741824-t*z:=by grind
   have f2:(k+t)*(1073741824-z)=k*1073741824-k*z+t*1073741824-t*z:=by grind
   have f3:(k-t)*(1073741824-z)=k*1073741824-k*z-t*1073741824+t*z:=by grind
   have f4:(k+t)*(1073741824+z)=k*1073741824+k*z+t*1073741824+t*z:=by grind
   omega
  unfold sinT addP;simp only[];generalize t*z=tz' at*;generalize (mulP (snP a) (snP b)).1=w1 at*;generalize (mulP (snP a) (snP b)).2=w2 at*;generalize (mulP (mulP (csP a) (csP b)) (csP c)).1=w3 at*;generalize (mulP (mulP (csP a) (csP b)) (csP c)).2=w4 at*;generalize tz a.1*tz b.1=ab at*;generalize tz a.1*tz a.1=aa at*;generalize tz b.1*tz b.1=bb at*;generalize tz (a.1+5400000)*tz (a.1+5400000)=xx at*;generalize tz (b.1+5400000)*tz (b.1+5400000)=yy at*;clear sa sb ca cb cc m2 h1 h2;omega
 generalize tz (a.1+5400000)*tz (b.1+5400000)=cx at*;by_cases hp:0≤cx
 · exact main (cx/1073741824) m2.1 om_ ⟨cx/1073741824,om_,om_,om_,om_⟩
 · exact main (-(-cx/1073741824)) om_ m2.2 ⟨-cx/1073741824,om_,om_,om_,om_⟩
end Trig
end Go.Proofs.YtdeiofgddhbdaaaGreatDoor
