/- part 37 -/
import Derived.Test.YtnjcpljhmhdhkaaGreatEPk25
import Derived.Deep.RegionHeld3
set_option linter.unusedSimpArgs false
set_option linter.unusedVariables false
set_option maxRecDepth 100000
set_option maxHeartbeats 16000000
namespace Go.Proofs.YtnjcpljhmhdhkaaGreat
open Go.RowKit
def Q8 (ns ls:List Pr) (fund:Int):St:=⟨⟨ns,ls,ns,ls,[]⟩,[],[],fund⟩
def z0h:St:=⟨⟨[],[],[],[],[]⟩,[],[],0⟩
noncomputable def vT (ns ls:List Pr) (fund:Int):Bool:=zd (Q8 ns ls fund)
noncomputable def vO (ns ls:List Pr) (fund:Int):St:=if vT ns ls fund=true then Q8 ns ls fund else z0h
def OpSt (w:World) (vn vl:Value) (ns ls:List Pr) (fund:Int) (Z:Nat) (wx:World):Prop:=
 ∃A0 c0 A1 c1 A2 c2 A3 c3,OwnW (w.heap.size+1+1) wx (.slice A0 ns.length c0) (.slice A1 ls.length c1) ns ls/\OwnW (w.heap.size+1+1) wx (.slice A2 ns.length c2) (.slice A3 ls.length c3) ns ls/\(∀k,zi (.slice A0 ns.length c0) (.slice A1 ls.length c1) k->¬zi (.slice A2 ns.length c2) (.slice A3 ls.length c3) k)/\
  Blk wx w.heap.size 27 #[vn,vl]/\Blk wx (w.heap.size+1) 34 z8_/\Blk wx Z 34 #[.slice A0 ns.length c0,.slice A1 ls.length c1,.slice A2 ns.length c2,.slice A3 ls.length c3,.slice none 0 0,.slice none 0 0,.slice none 0 0,.int .i64 fund]/\w.heap.size+1<Z/\
  ¬zi (.slice A0 ns.length c0) (.slice A1 ls.length c1) Z/\¬zi (.slice A2 ns.length c2) (.slice A3 ls.length c3) Z/\Below w.heap.size w wx
theorem km {w wE:World} {vn vl:Value} {ns ls:List Pr} {fund:Int} {A0 A1 A2 A3:Option Addr} {c0 c1 c2 c3 B1 B2 Z:Nat} (hX:Blk wE w.heap.size 27 #[vn,vl]) (hR:Blk wE (w.heap.size+1) 34 z8_)
  (hZ:Blk wE Z 34 #[.slice A0 ns.length c0,.slice A1 ls.length c1,.slice A2 ns.length c2,.slice A3 ls.length c3,.slice none 0 0,.slice none 0 0,.slice none 0 0,.int .i64 fund]) (h1:OwnW B1 wE (.slice A0 ns.length c0) (.slice A1 ls.length c1) ns ls) (h2:OwnW B2 wE (.slice A2 ns.length c2) (.slice A3 ls.length c3) ns ls)
  (Hf:∀k,zi (.slice A0 ns.length c0) (.slice A1 ls.length c1) k->k<B2) (e1:w.heap.size+1+1<=B1) (e2:w.heap.size+1+1<=B2) (z1:¬zi (.slice A0 ns.length c0) (.slice A1 ls.length c1) Z) (z2:¬zi (.slice A2 ns.length c2) (.slice A3 ls.length c3) Z) (Gu:w.heap.size+1<Z) (hb:Below w.heap.size w wE):
  OpSt w vn vl ns ls fund Z wE:=
 ⟨A0,c0,A1,c1,A2,c2,A3,c3,h1.mono e1,h2.mono e2,fun k a b=>by have:=Hf k a;have:=(h2.lt k b).1;omega,hX,hR,hZ,Gu,z1,z2,hb⟩
theorem Za {base:Nat} {w:World} {a b c d:Value} {ns ls:List Pr} {fund:Int} (h1:OwnW base w a b ns ls) (h2:OwnW base w c d ns ls) (hd:∀k,zi a b k->¬zi c d k):
  OwnSt base w a b c d (.slice none 0 0) (.slice none 0 0) (.slice none 0 0) (Q8 ns ls fund) []:=by
 have hn:∀k,¬kR (.slice none 0 0) [] k:=by
  rintro k (h|⟨i,hi,_⟩)
  ·simp[Value.ownBlock] at h
  ·simp at hi
 have hz:∀k:Nat,¬(Value.slice none 0 0).ownBlock =some k:=fun k h=>by simp[Value.ownBlock] at h
 exact⟨⟨h1,h2,OwnT.nil _ _,rfl,hd,fun k _ hk=>hn k hk,fun k _ hk=>hn k hk⟩,OwnI.nil _ _,zK.nil _ _,fun k _ h=>hz k h,fun k _ h=>hz k h,fun k h=>absurd h (hz k)⟩
theorem Jq (base:Nat) (w:World):OwnSt base w (.slice none 0 0) (.slice none 0 0) (.slice none 0 0) (.slice none 0 0) (.slice none 0 0) (.slice none 0 0) (.slice none 0 0) z0h []:=by
 have hz:∀k:Nat,¬(Value.slice none 0 0).ownBlock =some k:=fun k h=>by simp[Value.ownBlock] at h
 have hw:∀k:Nat,¬zi (.slice none 0 0) (.slice none 0 0) k:=fun k h=>by rcases h with h|h<;>exact hz k h
 have hn:OwnW base w (.slice none 0 0) (.slice none 0 0) [] []:=⟨OwnP.nil _ _ _,OwnP.nil _ _ _,fun k h=>absurd h (hz k)⟩;have h:=Za (fund:=0) hn hn (fun k h=>absurd h (hw k));exact h
theorem z6A (vn vl:Value) (ns ls:List Pr) (fund:Int) (w:World) (hn:RP w vn ns) (hl:RP w vl ls) (h1:ns.length<=1048576) (h2:ls.length<=1048576):
  Calls Tryz.prog 126 #[.agg #[vn,vl],.int .i64 fund] w (yM (vO ns ls fund) (vT ns ls fund) w):=by
 have cB:w.heap.size<w.heap.size+1+1:=o_
 have go:w.heap.size<w.heap.size+1+1+1:=o_
 have Gs:¬w.heap.size+1+1=w.heap.size:=o_
 go_enter Tryz.func126,Tryz.ntmps126
 go_wp2_with fail
 go_cut [6] (fun z wx=>∃Z,z= .pointer (some ⟨Z,0,none⟩)/\OpSt w vn vl ns ls fund Z wx)
 case first=>
  go_region_held3 (fun w'=>w'.cell? ⟨w.heap.size,0,none⟩=some vn/\w'.cell? ⟨w.heap.size,1,none⟩=some vl)
   (go_keep)
   (first|(have tk1:=w1;(go_at_call 81;refine Calls.mono (qn _ _ ns ls _ ?a3 ?a4 h1 h2) ?_;(case a3=>exact hn.below bel_);(case a4=>exact hl.below bel_);rintro e w2 ⟨An2,cn2,Al2,cl2,rfl,Hk,Hd⟩;(first|(with_reducible have gE:=bdC Hd)|have gE:=bcC Hd);(first|(with_reducible have BD:=bdF Hd)|have BD:=bcF Hd);have Gh:=Hd.size;(try simp at Gh);(try have gI:=p0_ w w2);(try have gJ:=p1_ w w2);(try have GS:=p2_ w w2);(try have Cs:=p3_ w w2);(have rJ:¬w2.heap.size=w.heap.size:=by omega)))|(go_at_call 81;refine Calls.mono (qn _ _ ns ls _ ?a1 ?a2 h1 h2) ?_;(case a1=>exact hn.below bel_);(case a2=>exact hl.below bel_);rintro e w1 ⟨An1,cn1,Al1,cl1,rfl,Hi,h9⟩;(first|(with_reducible have gc:=bdC h9)|have gc:=bcC h9);(first|(with_reducible have Bk:=bdF h9)|have Bk:=bcF h9);have Ht:=h9.size;(try simp at Ht);(try have gF:=p0_ w w1);(try have Ge:=p1_ w w1);(try have fi:=p2_ w w1);(try have mo:=p3_ w w1);(have nE:w.heap.size<w1.heap.size+1:=by omega);(have rj:¬w1.heap.size=w.heap.size:=by omega)))
  all_goals go_wp2
  all_goals go_meet
  ·have fI:Below (w.heap.size+1+1) ((w.alloc (.cells #[vn,vl] 27)).alloc (.cells z8_ 34)) w2:=bel_
   have G9:=Blk.below ((Blk.newAt rfl).alloc _) fI (show w.heap.size<_ by omega);have gg:=Blk.below (Blk.newAt (by simp)) fI (show w.heap.size+1<_ by omega);have ft:∀k,zi (.slice An1 ns.length cn1) (.slice Al1 ls.length cl1) k->w.heap.size+1+1<=k/\k<w1.heap.size:=fun k hk=>by have:=Hi.lt k hk;(try simp at this);omega
   have FD:=Hk.lt;exact⟨_,rfl,km (G9.alloc _) (gg.alloc _) (Blk.newAt rfl) ((Hi.kept Hd).alloc' _) (Hk.alloc' _) (fun k hk=>(ft k hk).2) (by simp) o_ (fun hk=>by have:=(ft _ hk).2;omega) (fun hk=>by have:=(FD _ hk).2;omega) o_ bel_⟩
  ·have fI:Below (w.heap.size+1+1) ((w.alloc (.cells #[vn,vl] 27)).alloc (.cells z8_ 34)) w2:=bel_
   have G9:=Blk.below ((Blk.newAt rfl).alloc _) fI (show w.heap.size<_ by omega);have gg:=Blk.below (Blk.newAt (by simp)) fI (show w.heap.size+1<_ by omega);have Co:=Blk.below (Blk.newAt rfl) Hd (show w1.heap.size<_ by simp);have ft:∀k,zi (.slice An1 ns.length cn1) (.slice Al1 ls.length cl1) k->w.heap.size+1+1<=k/\k<w1.heap.size:=fun k hk=>by have:=Hi.lt k hk;(try simp at this);omega
   have FD:∀k,zi (.slice An2 ns.length cn2) (.slice Al2 ls.length cl2) k->w1.heap.size+1<=k/\k<w2.heap.size:=fun k hk=>by have:=Hk.lt k hk;(try simp at this);omega
   have z1:¬zi (.slice An1 ns.length cn1) (.slice Al1 ls.length cl1) w1.heap.size:=fun hk=>by have:=(ft _ hk).2;omega
   have z2:¬zi (.slice An2 ns.length cn2) (.slice Al2 ls.length cl2) w1.heap.size:=fun hk=>by have:=(FD _ hk).1;omega
   have H7:=(Hi.alloc' _).kept Hd;have n0:w.heap.size≠w1.heap.size:=o_
   have n1:w.heap.size+1≠w1.heap.size:=o_
   exact⟨_,rfl,km (((((((((G9).far (p:=⟨w1.heap.size,0,none⟩) n0 _).far (p:=⟨w1.heap.size,1,none⟩) n0 _).far (p:=⟨w1.heap.size,2,none⟩) n0 _).far (p:=⟨w1.heap.size,3,none⟩) n0 _).far (p:=⟨w1.heap.size,4,none⟩) n0 _).far (p:=⟨w1.heap.size,5,none⟩) n0 _).far (p:=⟨w1.heap.size,6,none⟩) n0 _).far (p:=⟨w1.heap.size,7,none⟩) n0 _) (((((((((gg).far (p:=⟨w1.heap.size,0,none⟩) n1 _).far (p:=⟨w1.heap.size,1,none⟩) n1 _).far (p:=⟨w1.heap.size,2,none⟩) n1 _).far (p:=⟨w1.heap.size,3,none⟩) n1 _).far (p:=⟨w1.heap.size,4,none⟩) n1 _).far (p:=⟨w1.heap.size,5,none⟩) n1 _).far (p:=⟨w1.heap.size,6,none⟩) n1 _).far (p:=⟨w1.heap.size,7,none⟩) n1 _) (((((((((Co).set_ 0 _).set_ 1 _).set_ 2 _).set_ 3 _).set_ 4 _).set_ 5 _).set_ 6 _).set_ 7 _) (((((((((H7).setOff (p:=⟨w1.heap.size,0,none⟩) z1 _).setOff (p:=⟨w1.heap.size,1,none⟩) z1 _).setOff (p:=⟨w1.heap.size,2,none⟩) z1 _).setOff (p:=⟨w1.heap.size,3,none⟩) z1 _).setOff (p:=⟨w1.heap.size,4,none⟩) z1 _).setOff (p:=⟨w1.heap.size,5,none⟩) z1 _).setOff (p:=⟨w1.heap.size,6,none⟩) z1 _).setOff (p:=⟨w1.heap.size,7,none⟩) z1 _) (((((((((Hk).setOff (p:=⟨w1.heap.size,0,none⟩) z2 _).setOff (p:=⟨w1.heap.size,1,none⟩) z2 _).setOff (p:=⟨w1.heap.size,2,none⟩) z2 _).setOff (p:=⟨w1.heap.size,3,none⟩) z2 _).setOff (p:=⟨w1.heap.size,4,none⟩) z2 _).setOff (p:=⟨w1.heap.size,5,none⟩) z2 _).setOff (p:=⟨w1.heap.size,6,none⟩) z2 _).setOff (p:=⟨w1.heap.size,7,none⟩) z2 _) (fun k hk=>by have:=(ft k hk).2;exact sz_) sz_ sz_ z1 z2 o_ bel_⟩
  ·have fI:Below (w.heap.size+1+1+1) (((w.alloc (.cells #[vn,vl] 27)).alloc (.cells z8_ 34)).alloc (.cells z8_ 34)) w2:=bel_
   have G9:=Blk.below (((Blk.newAt rfl).alloc _).alloc _) fI (show w.heap.size<_ by omega);have gg:=Blk.below ((Blk.newAt (by simp)).alloc _) fI (show w.heap.size+1<_ by omega);have Co:=Blk.below (Blk.newAt (by simp)) fI (show w.heap.size+1+1<_ by omega);have ft:∀k,zi (.slice An1 ns.length cn1) (.slice Al1 ls.length cl1) k->w.heap.size+1+1+1<=k/\k<w1.heap.size:=fun k hk=>by have:=Hi.lt k hk;(try simp at this);omega
   have FD:=Hk.lt;have z1:¬zi (.slice An1 ns.length cn1) (.slice Al1 ls.length cl1) (w.heap.size+1+1):=fun hk=>by have:=(ft _ hk).1;omega
   have z2:¬zi (.slice An2 ns.length cn2) (.slice Al2 ls.length cl2) (w.heap.size+1+1):=fun hk=>by have:=(FD _ hk).1;omega
   have H7:=Hi.kept Hd;have n0:w.heap.size≠w.heap.size+1+1:=o_
   have n1:w.heap.size+1≠w.heap.size+1+1:=o_
   exact⟨_,rfl,km (((((((((G9).far (p:=⟨w.heap.size+1+1,0,none⟩) n0 _).far (p:=⟨w.heap.size+1+1,1,none⟩) n0 _).far (p:=⟨w.heap.size+1+1,2,none⟩) n0 _).far (p:=⟨w.heap.size+1+1,3,none⟩) n0 _).far (p:=⟨w.heap.size+1+1,4,none⟩) n0 _).far (p:=⟨w.heap.size+1+1,5,none⟩) n0 _).far (p:=⟨w.heap.size+1+1,6,none⟩) n0 _).far (p:=⟨w.heap.size+1+1,7,none⟩) n0 _) (((((((((gg).far (p:=⟨w.heap.size+1+1,0,none⟩) n1 _).far (p:=⟨w.heap.size+1+1,1,none⟩) n1 _).far (p:=⟨w.heap.size+1+1,2,none⟩) n1 _).far (p:=⟨w.heap.size+1+1,3,none⟩) n1 _).far (p:=⟨w.heap.size+1+1,4,none⟩) n1 _).far (p:=⟨w.heap.size+1+1,5,none⟩) n1 _).far (p:=⟨w.heap.size+1+1,6,none⟩) n1 _).far (p:=⟨w.heap.size+1+1,7,none⟩) n1 _) (((((((((Co).set_ 0 _).set_ 1 _).set_ 2 _).set_ 3 _).set_ 4 _).set_ 5 _).set_ 6 _).set_ 7 _) (((((((((H7).setOff (p:=⟨w.heap.size+1+1,0,none⟩) z1 _).setOff (p:=⟨w.heap.size+1+1,1,none⟩) z1 _).setOff (p:=⟨w.heap.size+1+1,2,none⟩) z1 _).setOff (p:=⟨w.heap.size+1+1,3,none⟩) z1 _).setOff (p:=⟨w.heap.size+1+1,4,none⟩) z1 _).setOff (p:=⟨w.heap.size+1+1,5,none⟩) z1 _).setOff (p:=⟨w.heap.size+1+1,6,none⟩) z1 _).setOff (p:=⟨w.heap.size+1+1,7,none⟩) z1 _) (((((((((Hk).setOff (p:=⟨w.heap.size+1+1,0,none⟩) z2 _).setOff (p:=⟨w.heap.size+1+1,1,none⟩) z2 _).setOff (p:=⟨w.heap.size+1+1,2,none⟩) z2 _).setOff (p:=⟨w.heap.size+1+1,3,none⟩) z2 _).setOff (p:=⟨w.heap.size+1+1,4,none⟩) z2 _).setOff (p:=⟨w.heap.size+1+1,5,none⟩) z2 _).setOff (p:=⟨w.heap.size+1+1,6,none⟩) z2 _).setOff (p:=⟨w.heap.size+1+1,7,none⟩) z2 _) (fun k hk=>(ft k hk).2) sz_ sz_ z1 z2 o_ bel_⟩
 case rest=>
  obtain⟨Z,rfl,A0,c0,A1,c1,A2,c2,A3,c3,Yf,Yg,nv,hX,hR,hZ,Gu,Ht,Gh,H8⟩:=hcut;have HO:=h_ (Za (fund:=fund) Yf Yg nv);clear Yf Yg nv hX;obtain⟨ob,rT⟩:∃x,zd (Q8 ns ls fund)=x:=⟨_,rfl⟩;have HB:=h_ rT;clear rT;obtain⟨z_0,z_1,z_2,z_3,z_4,z_5,z_6,z_7⟩:=hZ.c8;have fJ:=hZ.lt
  go_wp2_with fail
  refine(qb _ _ _ _ _ _ _ (Q8 ns ls fund) ob _ HO.out.reads HB).mono ?_
  rintro e w3 ⟨rfl,He⟩;have F1:=h_ (HO.out.kept He);have Fp:=hZ.below He fJ;have gZ:=hR.below He hR.lt;have Hc:=H8.trans (He.mono H8.size);clear He H8 HO hZ hR z_0 z_1 z_2 z_3 z_4 z_5 z_6 z_7;obtain⟨z_0,z_1,z_2,z_3,z_4,z_5,z_6,z_7⟩:=Fp.c8;obtain⟨r_0,r_1,r_2,r_3,r_4,r_5,r_6,r_7,r_f0,r_f1,r_f2,r_f3,r_f4,r_f5,r_f6,r_f7⟩:=gZ.b8;have Be:=Fp.lt;have Bf:=gZ.lt;have fH:=h_ Hc
  cases ob
  ·have HE:Hid (vO ns ls fund=z0h/\vT ns ls fund=false):=h_ (by unfold vO vT;rw[HB.out];exact⟨rfl,rfl⟩)
   clear Hc Fp gZ;go_wp2;rw[HE.out.1,HE.out.2];refine bodyPost_ret (v:= .tuple #[.agg z8_,.bool false]) (by simp[results,Tryz.results126,go_sem,r_0,r_1,r_2,r_3,r_4,r_5,r_6,r_7,z_0,z_1,z_2,z_3,z_4,z_5,z_6,z_7,Bf,Be]) rfl ?_
   refine⟨none,0,none,0,none,0,none,0,none,0,none,0,none,0,[],rfl,?_,?_⟩
   ·exact Jq _ _
   ·have Hc:=fH.out
    exact bel_
  ·have HE:Hid (vO ns ls fund=Q8 ns ls fund/\vT ns ls fund=true):=h_ (by unfold vO vT;rw[HB.out];exact⟨rfl,rfl⟩)
   clear Hc Fp gZ;go_wp2;rw[HE.out.1,HE.out.2];refine bodyPost_ret (v:= .tuple #[.agg #[.slice A0 ns.length c0,.slice A1 ls.length c1,.slice A2 ns.length c2,.slice A3 ls.length c3,.slice none 0 0,.slice none 0 0,.slice none 0 0,.int .i64 fund],.bool true]) (by simp[results,Tryz.results126,go_sem,r_0,r_1,r_2,r_3,r_4,r_5,r_6,r_7,z_0,z_1,z_2,z_3,z_4,z_5,z_6,z_7,Bf,Be]) rfl ?_
   refine⟨A0,c0,A1,c1,A2,c2,A3,c3,none,0,none,0,none,0,[],rfl,?_,?_⟩
   ·refine OwnSt.mono (base:=w.heap.size+1+1) ?_ o_
    iterate 12 (try (with_reducible refine OwnSt.setLow ?_ ?_ _))
    exact F1.out
    all_goals exact sz_
   ·have Hc:=fH.out
    exact bel_
theorem z5O (vn vl:Value) (ns ls:List Pr) (fund:Int) (w:World) (hn:RP w vn ns) (hl:RP w vl ls) (h1:ns.length<=1048576) (h2:ls.length<=1048576):
  Calls Tryz.prog 202 #[.agg #[vn,vl],.int .i64 fund] w (yM (vO ns ls fund) (vT ns ls fund) w):=by
 have cB:w.heap.size<w.heap.size+1+1:=o_
 have go:w.heap.size<w.heap.size+1+1+1:=o_
 have Gs:¬w.heap.size+1+1=w.heap.size:=o_
 go_enter Tryz.func202,Tryz.ntmps202
 go_wp2_with fail
 go_cut [6] (fun z wx=>∃Z,z= .pointer (some ⟨Z,0,none⟩)/\OpSt w vn vl ns ls fund Z wx)
 case first=>
  go_region_held3 (fun w'=>w'.cell? ⟨w.heap.size,0,none⟩=some vn/\w'.cell? ⟨w.heap.size,1,none⟩=some vl)
   (go_keep)
   (first|(have tk1:=w1;(go_at_call 110;refine Calls.mono (zU _ _ ns ls _ ?a3 ?a4 h1 h2) ?_;(case a3=>exact hn.below bel_);(case a4=>exact hl.below bel_);rintro e w2 ⟨An2,cn2,Al2,cl2,rfl,Hk,Hd⟩;(first|(with_reducible have gE:=bdC Hd)|have gE:=bcC Hd);(first|(with_reducible have BD:=bdF Hd)|have BD:=bcF Hd);have Gh:=Hd.size;(try simp at Gh);(try have gI:=p0_ w w2);(try have gJ:=p1_ w w2);(try have GS:=p2_ w w2);(try have Cs:=p3_ w w2);(have rJ:¬w2.heap.size=w.heap.size:=by omega)))|(go_at_call 110;refine Calls.mono (zU _ _ ns ls _ ?a1 ?a2 h1 h2) ?_;(case a1=>exact hn.below bel_);(case a2=>exact hl.below bel_);rintro e w1 ⟨An1,cn1,Al1,cl1,rfl,Hi,h9⟩;(first|(with_reducible have gc:=bdC h9)|have gc:=bcC h9);(first|(with_reducible have Bk:=bdF h9)|have Bk:=bcF h9);have Ht:=h9.size;(try simp at Ht);(try have gF:=p0_ w w1);(try have Ge:=p1_ w w1);(try have fi:=p2_ w w1);(try have mo:=p3_ w w1);(have nE:w.heap.size<w1.heap.size+1:=by omega);(have rj:¬w1.heap.size=w.heap.size:=by omega)))
  all_goals go_wp2
  all_goals go_meet
  ·have fI:Below (w.heap.size+1+1) ((w.alloc (.cells #[vn,vl] 27)).alloc (.cells z8_ 34)) w2:=bel_
   have G9:=Blk.below ((Blk.newAt rfl).alloc _) fI (show w.heap.size<_ by omega);have gg:=Blk.below (Blk.newAt (by simp)) fI (show w.heap.size+1<_ by omega);have ft:∀k,zi (.slice An1 ns.length cn1) (.slice Al1 ls.length cl1) k->w.heap.size+1+1<=k/\k<w1.heap.size:=fun k hk=>by have:=Hi.lt k hk;(try simp at this);omega
   have FD:=Hk.lt;exact⟨_,rfl,km (G9.alloc _) (gg.alloc _) (Blk.newAt rfl) ((Hi.kept Hd).alloc' _) (Hk.alloc' _) (fun k hk=>(ft k hk).2) (by simp) o_ (fun hk=>by have:=(ft _ hk).2;omega) (fun hk=>by have:=(FD _ hk).2;omega) o_ bel_⟩
  ·have fI:Below (w.heap.size+1+1) ((w.alloc (.cells #[vn,vl] 27)).alloc (.cells z8_ 34)) w2:=bel_
   have G9:=Blk.below ((Blk.newAt rfl).alloc _) fI (show w.heap.size<_ by omega);have gg:=Blk.below (Blk.newAt (by simp)) fI (show w.heap.size+1<_ by omega);have Co:=Blk.below (Blk.newAt rfl) Hd (show w1.heap.size<_ by simp);have ft:∀k,zi (.slice An1 ns.length cn1) (.slice Al1 ls.length cl1) k->w.heap.size+1+1<=k/\k<w1.heap.size:=fun k hk=>by have:=Hi.lt k hk;(try simp at this);omega
   have FD:∀k,zi (.slice An2 ns.length cn2) (.slice Al2 ls.length cl2) k->w1.heap.size+1<=k/\k<w2.heap.size:=fun k hk=>by have:=Hk.lt k hk;(try simp at this);omega
   have z1:¬zi (.slice An1 ns.length cn1) (.slice Al1 ls.length cl1) w1.heap.size:=fun hk=>by have:=(ft _ hk).2;omega
   have z2:¬zi (.slice An2 ns.length cn2) (.slice Al2 ls.length cl2) w1.heap.size:=fun hk=>by have:=(FD _ hk).1;omega
   have H7:=(Hi.alloc' _).kept Hd;have n0:w.heap.size≠w1.heap.size:=o_
   have n1:w.heap.size+1≠w1.heap.size:=o_
   exact⟨_,rfl,km (((((((((G9).far (p:=⟨w1.heap.size,0,none⟩) n0 _).far (p:=⟨w1.heap.size,1,none⟩) n0 _).far (p:=⟨w1.heap.size,2,none⟩) n0 _).far (p:=⟨w1.heap.size,3,none⟩) n0 _).far (p:=⟨w1.heap.size,4,none⟩) n0 _).far (p:=⟨w1.heap.size,5,none⟩) n0 _).far (p:=⟨w1.heap.size,6,none⟩) n0 _).far (p:=⟨w1.heap.size,7,none⟩) n0 _) (((((((((gg).far (p:=⟨w1.heap.size,0,none⟩) n1 _).far (p:=⟨w1.heap.size,1,none⟩) n1 _).far (p:=⟨w1.heap.size,2,none⟩) n1 _).far (p:=⟨w1.heap.size,3,none⟩) n1 _).far (p:=⟨w1.heap.size,4,none⟩) n1 _).far (p:=⟨w1.heap.size,5,none⟩) n1 _).far (p:=⟨w1.heap.size,6,none⟩) n1 _).far (p:=⟨w1.heap.size,7,none⟩) n1 _) (((((((((Co).set_ 0 _).set_ 1 _).set_ 2 _).set_ 3 _).set_ 4 _).set_ 5 _).set_ 6 _).set_ 7 _) (((((((((H7).setOff (p:=⟨w1.heap.size,0,none⟩) z1 _).setOff (p:=⟨w1.heap.size,1,none⟩) z1 _).setOff (p:=⟨w1.heap.size,2,none⟩) z1 _).setOff (p:=⟨w1.heap.size,3,none⟩) z1 _).setOff (p:=⟨w1.heap.size,4,none⟩) z1 _).setOff (p:=⟨w1.heap.size,5,none⟩) z1 _).setOff (p:=⟨w1.heap.size,6,none⟩) z1 _).setOff (p:=⟨w1.heap.size,7,none⟩) z1 _) (((((((((Hk).setOff (p:=⟨w1.heap.size,0,none⟩) z2 _).setOff (p:=⟨w1.heap.size,1,none⟩) z2 _).setOff (p:=⟨w1.heap.size,2,none⟩) z2 _).setOff (p:=⟨w1.heap.size,3,none⟩) z2 _).setOff (p:=⟨w1.heap.size,4,none⟩) z2 _).setOff (p:=⟨w1.heap.size,5,none⟩) z2 _).setOff (p:=⟨w1.heap.size,6,none⟩) z2 _).setOff (p:=⟨w1.heap.size,7,none⟩) z2 _) (fun k hk=>by have:=(ft k hk).2;exact sz_) sz_ sz_ z1 z2 o_ bel_⟩
  ·have fI:Below (w.heap.size+1+1+1) (((w.alloc (.cells #[vn,vl] 27)).alloc (.cells z8_ 34)).alloc (.cells z8_ 34)) w2:=bel_
   have G9:=Blk.below (((Blk.newAt rfl).alloc _).alloc _) fI (show w.heap.size<_ by omega);have gg:=Blk.below ((Blk.newAt (by simp)).alloc _) fI (show w.heap.size+1<_ by omega);have Co:=Blk.below (Blk.newAt (by simp)) fI (show w.heap.size+1+1<_ by omega);have ft:∀k,zi (.slice An1 ns.length cn1) (.slice Al1 ls.length cl1) k->w.heap.size+1+1+1<=k/\k<w1.heap.size:=fun k hk=>by have:=Hi.lt k hk;(try simp at this);omega
   have FD:=Hk.lt;have z1:¬zi (.slice An1 ns.length cn1) (.slice Al1 ls.length cl1) (w.heap.size+1+1):=fun hk=>by have:=(ft _ hk).1;omega
   have z2:¬zi (.slice An2 ns.length cn2) (.slice Al2 ls.length cl2) (w.heap.size+1+1):=fun hk=>by have:=(FD _ hk).1;omega
   have H7:=Hi.kept Hd;have n0:w.heap.size≠w.heap.size+1+1:=o_
   have n1:w.heap.size+1≠w.heap.size+1+1:=o_
   exact⟨_,rfl,km (((((((((G9).far (p:=⟨w.heap.size+1+1,0,none⟩) n0 _).far (p:=⟨w.heap.size+1+1,1,none⟩) n0 _).far (p:=⟨w.heap.size+1+1,2,none⟩) n0 _).far (p:=⟨w.heap.size+1+1,3,none⟩) n0 _).far (p:=⟨w.heap.size+1+1,4,none⟩) n0 _).far (p:=⟨w.heap.size+1+1,5,none⟩) n0 _).far (p:=⟨w.heap.size+1+1,6,none⟩) n0 _).far (p:=⟨w.heap.size+1+1,7,none⟩) n0 _) (((((((((gg).far (p:=⟨w.heap.size+1+1,0,none⟩) n1 _).far (p:=⟨w.heap.size+1+1,1,none⟩) n1 _).far (p:=⟨w.heap.size+1+1,2,none⟩) n1 _).far (p:=⟨w.heap.size+1+1,3,none⟩) n1 _).far (p:=⟨w.heap.size+1+1,4,none⟩) n1 _).far (p:=⟨w.heap.size+1+1,5,none⟩) n1 _).far (p:=⟨w.heap.size+1+1,6,none⟩) n1 _).far (p:=⟨w.heap.size+1+1,7,none⟩) n1 _) (((((((((Co).set_ 0 _).set_ 1 _).set_ 2 _).set_ 3 _).set_ 4 _).set_ 5 _).set_ 6 _).set_ 7 _) (((((((((H7).setOff (p:=⟨w.heap.size+1+1,0,none⟩) z1 _).setOff (p:=⟨w.heap.size+1+1,1,none⟩) z1 _).setOff (p:=⟨w.heap.size+1+1,2,none⟩) z1 _).setOff (p:=⟨w.heap.size+1+1,3,none⟩) z1 _).setOff (p:=⟨w.heap.size+1+1,4,none⟩) z1 _).setOff (p:=⟨w.heap.size+1+1,5,none⟩) z1 _).setOff (p:=⟨w.heap.size+1+1,6,none⟩) z1 _).setOff (p:=⟨w.heap.size+1+1,7,none⟩) z1 _) (((((((((Hk).setOff (p:=⟨w.heap.size+1+1,0,none⟩) z2 _).setOff (p:=⟨w.heap.size+1+1,1,none⟩) z2 _).setOff (p:=⟨w.heap.size+1+1,2,none⟩) z2 _).setOff (p:=⟨w.heap.size+1+1,3,none⟩) z2 _).setOff (p:=⟨w.heap.size+1+1,4,none⟩) z2 _).setOff (p:=⟨w.heap.size+1+1,5,none⟩) z2 _).setOff (p:=⟨w.heap.size+1+1,6,none⟩) z2 _).setOff (p:=⟨w.heap.size+1+1,7,none⟩) z2 _) (fun k hk=>(ft k hk).2) sz_ sz_ z1 z2 o_ bel_⟩
 case rest=>
  obtain⟨Z,rfl,A0,c0,A1,c1,A2,c2,A3,c3,Yf,Yg,nv,hX,hR,hZ,Gu,Ht,Gh,H8⟩:=hcut;have HO:=h_ (Za (fund:=fund) Yf Yg nv);clear Yf Yg nv hX;obtain⟨ob,rT⟩:∃x,zd (Q8 ns ls fund)=x:=⟨_,rfl⟩;have HB:=h_ rT;clear rT;obtain⟨z_0,z_1,z_2,z_3,z_4,z_5,z_6,z_7⟩:=hZ.c8;have fJ:=hZ.lt
  go_wp2_with fail
  refine(kE _ _ _ _ _ _ _ (Q8 ns ls fund) ob _ HO.out.reads HB).mono ?_
  rintro e w3 ⟨rfl,He⟩;have F1:=h_ (HO.out.kept He);have Fp:=hZ.below He fJ;have gZ:=hR.below He hR.lt;have Hc:=H8.trans (He.mono H8.size);clear He H8 HO hZ hR z_0 z_1 z_2 z_3 z_4 z_5 z_6 z_7;obtain⟨z_0,z_1,z_2,z_3,z_4,z_5,z_6,z_7⟩:=Fp.c8;obtain⟨r_0,r_1,r_2,r_3,r_4,r_5,r_6,r_7,r_f0,r_f1,r_f2,r_f3,r_f4,r_f5,r_f6,r_f7⟩:=gZ.b8;have Be:=Fp.lt;have Bf:=gZ.lt;have fH:=h_ Hc
  cases ob
  ·have HE:Hid (vO ns ls fund=z0h/\vT ns ls fund=false):=h_ (by unfold vO vT;rw[HB.out];exact⟨rfl,rfl⟩)
   clear Hc Fp gZ;go_wp2;rw[HE.out.1,HE.out.2];refine bodyPost_ret (v:= .tuple #[.agg z8_,.bool false]) (by simp[results,Tryz.results202,go_sem,r_0,r_1,r_2,r_3,r_4,r_5,r_6,r_7,z_0,z_1,z_2,z_3,z_4,z_5,z_6,z_7,Bf,Be]) rfl ?_
   refine⟨none,0,none,0,none,0,none,0,none,0,none,0,none,0,[],rfl,?_,?_⟩
   ·exact Jq _ _
   ·have Hc:=fH.out
    exact bel_
  ·have HE:Hid (vO ns ls fund=Q8 ns ls fund/\vT ns ls fund=true):=h_ (by unfold vO vT;rw[HB.out];exact⟨rfl,rfl⟩)
   clear Hc Fp gZ;go_wp2;rw[HE.out.1,HE.out.2];refine bodyPost_ret (v:= .tuple #[.agg #[.slice A0 ns.length c0,.slice A1 ls.length c1,.slice A2 ns.length c2,.slice A3 ls.length c3,.slice none 0 0,.slice none 0 0,.slice none 0 0,.int .i64 fund],.bool true]) (by simp[results,Tryz.results202,go_sem,r_0,r_1,r_2,r_3,r_4,r_5,r_6,r_7,z_0,z_1,z_2,z_3,z_4,z_5,z_6,z_7,Bf,Be]) rfl ?_
   refine⟨A0,c0,A1,c1,A2,c2,A3,c3,none,0,none,0,none,0,[],rfl,?_,?_⟩
   ·refine OwnSt.mono (base:=w.heap.size+1+1) ?_ o_
    iterate 12 (try (with_reducible refine OwnSt.setLow ?_ ?_ _))
    exact F1.out
    all_goals exact sz_
   ·have Hc:=fH.out
    exact bel_
end Go.Proofs.YtnjcpljhmhdhkaaGreat
