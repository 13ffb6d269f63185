/- part 35 -/
import Derived.Test.YtnjcpljhmhdhkaaGreatTPk25
import Derived.Deep.RegionHeld3
set_option linter.unusedSimpArgs false
set_option linter.unusedVariables false
set_option maxRecDepth 100000
set_option maxHeartbeats 16000000
namespace Go.Proofs.YtnjcpljhmhdhkaaGreat
open Go.RowKit
def VQ (ns ls:List Pr) (fund:Int):St:=⟨⟨ns,ls,ns,ls,[]⟩,[],[],fund⟩
def z3Y:St:=⟨⟨[],[],[],[],[]⟩,[],[],0⟩
noncomputable def J8 (ns ls:List Pr) (fund:Int):Bool:=ze (VQ ns ls fund)
noncomputable def ZX (ns ls:List Pr) (fund:Int):St:=if J8 ns ls fund=true then VQ ns ls fund else z3Y
def OpSt (w:World) (vn vl:Value) (ns ls:List Pr) (fund:Int) (Z:Nat) (wx:World):Prop:=
 ∃A0 c0 A1 c1 A2 c2 A3 c3,OwnW (w.heap.size+1+1) wx (.slice A0 ns.length c0) (.slice A1 ls.length c1) ns ls/\OwnW (w.heap.size+1+1) wx (.slice A2 ns.length c2) (.slice A3 ls.length c3) ns ls/\(∀k,zp (.slice A0 ns.length c0) (.slice A1 ls.length c1) k->¬zp (.slice A2 ns.length c2) (.slice A3 ls.length c3) k)/\
  Blk wx w.heap.size 27 #[vn,vl]/\Blk wx (w.heap.size+1) 34 z8_/\Blk wx Z 34 #[.slice A0 ns.length c0,.slice A1 ls.length c1,.slice A2 ns.length c2,.slice A3 ls.length c3,.slice none 0 0,.slice none 0 0,.slice none 0 0,.int .i64 fund]/\w.heap.size+1<Z/\
  ¬zp (.slice A0 ns.length c0) (.slice A1 ls.length c1) Z/\¬zp (.slice A2 ns.length c2) (.slice A3 ls.length c3) Z/\Below w.heap.size w wx
theorem Vt {w wE:World} {vn vl:Value} {ns ls:List Pr} {fund:Int} {A0 A1 A2 A3:Option Addr} {c0 c1 c2 c3 B1 B2 Z:Nat} (hX:Blk wE w.heap.size 27 #[vn,vl]) (hR:Blk wE (w.heap.size+1) 34 z8_)
  (hZ:Blk wE Z 34 #[.slice A0 ns.length c0,.slice A1 ls.length c1,.slice A2 ns.length c2,.slice A3 ls.length c3,.slice none 0 0,.slice none 0 0,.slice none 0 0,.int .i64 fund]) (h1:OwnW B1 wE (.slice A0 ns.length c0) (.slice A1 ls.length c1) ns ls) (h2:OwnW B2 wE (.slice A2 ns.length c2) (.slice A3 ls.length c3) ns ls)
  (Hf:∀k,zp (.slice A0 ns.length c0) (.slice A1 ls.length c1) k->k<B2) (e1:w.heap.size+1+1<=B1) (e2:w.heap.size+1+1<=B2) (z1:¬zp (.slice A0 ns.length c0) (.slice A1 ls.length c1) Z) (z2:¬zp (.slice A2 ns.length c2) (.slice A3 ls.length c3) Z) (Gb:w.heap.size+1<Z) (hb:Below w.heap.size w wE):
  OpSt w vn vl ns ls fund Z wE:=
 ⟨A0,c0,A1,c1,A2,c2,A3,c3,h1.mono e1,h2.mono e2,fun k a b=>by have:=Hf k a;have:=(h2.lt k b).1;omega,hX,hR,hZ,Gb,z1,z2,hb⟩
theorem z0h {base:Nat} {w:World} {a b c d:Value} {ns ls:List Pr} {fund:Int} (h1:OwnW base w a b ns ls) (h2:OwnW base w c d ns ls) (hd:∀k,zp a b k->¬zp c d k):
  OwnSt base w a b c d (.slice none 0 0) (.slice none 0 0) (.slice none 0 0) (VQ ns ls fund) []:=by
 have hn:∀k,¬kH (.slice none 0 0) [] k:=by
  rintro k (h|⟨i,hi,_⟩)
  ·simp[Value.ownBlock] at h
  ·simp at hi
 have hz:∀k:Nat,¬(Value.slice none 0 0).ownBlock =some k:=fun k h=>by simp[Value.ownBlock] at h
 exact⟨⟨h1,h2,OwnT.nil _ _,rfl,hd,fun k _ hk=>hn k hk,fun k _ hk=>hn k hk⟩,OwnI.nil _ _,zx.nil _ _,fun k _ h=>hz k h,fun k _ h=>hz k h,fun k h=>absurd h (hz k)⟩
theorem z49 (base:Nat) (w:World):OwnSt base w (.slice none 0 0) (.slice none 0 0) (.slice none 0 0) (.slice none 0 0) (.slice none 0 0) (.slice none 0 0) (.slice none 0 0) z3Y []:=by
 have hz:∀k:Nat,¬(Value.slice none 0 0).ownBlock =some k:=fun k h=>by simp[Value.ownBlock] at h
 have hw:∀k:Nat,¬zp (.slice none 0 0) (.slice none 0 0) k:=fun k h=>by rcases h with h|h<;>exact hz k h
 have hn:OwnW base w (.slice none 0 0) (.slice none 0 0) [] []:=⟨OwnP.nil _ _ _,OwnP.nil _ _ _,fun k h=>absurd h (hz k)⟩;have h:=z0h (fund:=0) hn hn (fun k h=>absurd h (hw k));exact h
theorem z73 (vn vl:Value) (ns ls:List Pr) (fund:Int) (w:World) (hn:RP w vn ns) (hl:RP w vl ls) (h1:ns.length<=1048576) (h2:ls.length<=1048576):
  Calls Tryz.prog 202 #[.agg #[vn,vl],.int .i64 fund] w (ya (ZX ns ls fund) (J8 ns ls fund) w):=by
 have CB:w.heap.size<w.heap.size+1+1:=o_
 have gj:w.heap.size<w.heap.size+1+1+1:=o_
 have Gr:¬w.heap.size+1+1=w.heap.size:=o_
 go_enter Tryz.func202,Tryz.ntmps202
 go_wp2_with fail
 go_cut [6] (fun z wx=>∃Z,z= .pointer (some ⟨Z,0,none⟩)/\OpSt w vn vl ns ls fund Z wx)
 case first=>
  go_region_held3 (fun w'=>w'.cell? ⟨w.heap.size,0,none⟩=some vn/\w'.cell? ⟨w.heap.size,1,none⟩=some vl)
   (go_keep)
   (first|(have tk1:=w1;(go_at_call 110;refine Calls.mono (zR _ _ ns ls _ ?a3 ?a4 h1 h2) ?_;(case a3=>exact hn.below bel_);(case a4=>exact hl.below bel_);rintro e w2 ⟨An2,cn2,Al2,cl2,rfl,Hn,Hh⟩;(first|(with_reducible have gV:=bdC Hh)|have gV:=bcC Hh);(first|(with_reducible have Mv:=bdF Hh)|have Mv:=bcF Hh);have Gp:=Hh.size;(try simp at Gp);(try have Gc:=p0_ w w2);(try have Gd:=p1_ w w2);(try have fu:=p2_ w w2);(try have BE:=p3_ w w2);(have UH:¬w2.heap.size=w.heap.size:=by omega)))|(go_at_call 110;refine Calls.mono (zR _ _ ns ls _ ?a1 ?a2 h1 h2) ?_;(case a1=>exact hn.below bel_);(case a2=>exact hl.below bel_);rintro e w1 ⟨An1,cn1,Al1,cl1,rfl,Hj,Hb⟩;(first|(with_reducible have gl:=bdC Hb)|have gl:=bcC Hb);(first|(with_reducible have mE:=bdF Hb)|have mE:=bcF Hb);have H7:=Hb.size;(try simp at H7);(try have gY:=p0_ w w1);(try have Gv:=p1_ w w1);(try have Fr:=p2_ w w1);(try have Rm:=p3_ w w1);(have rs:w.heap.size<w1.heap.size+1:=by omega);(have rt:¬w1.heap.size=w.heap.size:=by omega)))
  all_goals go_wp2
  all_goals go_meet
  ·have cM:Below (w.heap.size+1+1) ((w.alloc (.cells #[vn,vl] 27)).alloc (.cells z8_ 34)) w2:=bel_
   have fi:=Blk.below ((Blk.newAt rfl).alloc _) cM (show w.heap.size<_ by omega);have go:=Blk.below (Blk.newAt (by simp)) cM (show w.heap.size+1<_ by omega);have FU:∀k,zp (.slice An1 ns.length cn1) (.slice Al1 ls.length cl1) k->w.heap.size+1+1<=k/\k<w1.heap.size:=fun k hk=>by have:=Hj.lt k hk;(try simp at this);omega
   have CI:=Hn.lt;exact⟨_,rfl,Vt (fi.alloc _) (go.alloc _) (Blk.newAt rfl) ((Hj.kept Hh).alloc' _) (Hn.alloc' _) (fun k hk=>(FU k hk).2) (by simp) o_ (fun hk=>by have:=(FU _ hk).2;omega) (fun hk=>by have:=(CI _ hk).2;omega) o_ bel_⟩
  ·have cM:Below (w.heap.size+1+1) ((w.alloc (.cells #[vn,vl] 27)).alloc (.cells z8_ 34)) w2:=bel_
   have fi:=Blk.below ((Blk.newAt rfl).alloc _) cM (show w.heap.size<_ by omega);have go:=Blk.below (Blk.newAt (by simp)) cM (show w.heap.size+1<_ by omega);have Nf:=Blk.below (Blk.newAt rfl) Hh (show w1.heap.size<_ by simp);have FU:∀k,zp (.slice An1 ns.length cn1) (.slice Al1 ls.length cl1) k->w.heap.size+1+1<=k/\k<w1.heap.size:=fun k hk=>by have:=Hj.lt k hk;(try simp at this);omega
   have CI:∀k,zp (.slice An2 ns.length cn2) (.slice Al2 ls.length cl2) k->w1.heap.size+1<=k/\k<w2.heap.size:=fun k hk=>by have:=Hn.lt k hk;(try simp at this);omega
   have z1:¬zp (.slice An1 ns.length cn1) (.slice Al1 ls.length cl1) w1.heap.size:=fun hk=>by have:=(FU _ hk).2;omega
   have z2:¬zp (.slice An2 ns.length cn2) (.slice Al2 ls.length cl2) w1.heap.size:=fun hk=>by have:=(CI _ hk).1;omega
   have gd:=(Hj.alloc' _).kept Hh;have n0:w.heap.size≠w1.heap.size:=o_
   have n1:w.heap.size+1≠w1.heap.size:=o_
   exact⟨_,rfl,Vt (((((((((fi).far (p:=⟨w1.heap.size,0,none⟩) n0 _).far (p:=⟨w1.heap.size,1,none⟩) n0 _).far (p:=⟨w1.heap.size,2,none⟩) n0 _).far (p:=⟨w1.heap.size,3,none⟩) n0 _).far (p:=⟨w1.heap.size,4,none⟩) n0 _).far (p:=⟨w1.heap.size,5,none⟩) n0 _).far (p:=⟨w1.heap.size,6,none⟩) n0 _).far (p:=⟨w1.heap.size,7,none⟩) n0 _) (((((((((go).far (p:=⟨w1.heap.size,0,none⟩) n1 _).far (p:=⟨w1.heap.size,1,none⟩) n1 _).far (p:=⟨w1.heap.size,2,none⟩) n1 _).far (p:=⟨w1.heap.size,3,none⟩) n1 _).far (p:=⟨w1.heap.size,4,none⟩) n1 _).far (p:=⟨w1.heap.size,5,none⟩) n1 _).far (p:=⟨w1.heap.size,6,none⟩) n1 _).far (p:=⟨w1.heap.size,7,none⟩) n1 _) (((((((((Nf).set_ 0 _).set_ 1 _).set_ 2 _).set_ 3 _).set_ 4 _).set_ 5 _).set_ 6 _).set_ 7 _) (((((((((gd).setOff (p:=⟨w1.heap.size,0,none⟩) z1 _).setOff (p:=⟨w1.heap.size,1,none⟩) z1 _).setOff (p:=⟨w1.heap.size,2,none⟩) z1 _).setOff (p:=⟨w1.heap.size,3,none⟩) z1 _).setOff (p:=⟨w1.heap.size,4,none⟩) z1 _).setOff (p:=⟨w1.heap.size,5,none⟩) z1 _).setOff (p:=⟨w1.heap.size,6,none⟩) z1 _).setOff (p:=⟨w1.heap.size,7,none⟩) z1 _) (((((((((Hn).setOff (p:=⟨w1.heap.size,0,none⟩) z2 _).setOff (p:=⟨w1.heap.size,1,none⟩) z2 _).setOff (p:=⟨w1.heap.size,2,none⟩) z2 _).setOff (p:=⟨w1.heap.size,3,none⟩) z2 _).setOff (p:=⟨w1.heap.size,4,none⟩) z2 _).setOff (p:=⟨w1.heap.size,5,none⟩) z2 _).setOff (p:=⟨w1.heap.size,6,none⟩) z2 _).setOff (p:=⟨w1.heap.size,7,none⟩) z2 _) (fun k hk=>by have:=(FU k hk).2;exact sz_) sz_ sz_ z1 z2 o_ bel_⟩
  ·have cM:Below (w.heap.size+1+1+1) (((w.alloc (.cells #[vn,vl] 27)).alloc (.cells z8_ 34)).alloc (.cells z8_ 34)) w2:=bel_
   have fi:=Blk.below (((Blk.newAt rfl).alloc _).alloc _) cM (show w.heap.size<_ by omega);have go:=Blk.below ((Blk.newAt (by simp)).alloc _) cM (show w.heap.size+1<_ by omega);have Nf:=Blk.below (Blk.newAt (by simp)) cM (show w.heap.size+1+1<_ by omega);have FU:∀k,zp (.slice An1 ns.length cn1) (.slice Al1 ls.length cl1) k->w.heap.size+1+1+1<=k/\k<w1.heap.size:=fun k hk=>by have:=Hj.lt k hk;(try simp at this);omega
   have CI:=Hn.lt;have z1:¬zp (.slice An1 ns.length cn1) (.slice Al1 ls.length cl1) (w.heap.size+1+1):=fun hk=>by have:=(FU _ hk).1;omega
   have z2:¬zp (.slice An2 ns.length cn2) (.slice Al2 ls.length cl2) (w.heap.size+1+1):=fun hk=>by have:=(CI _ hk).1;omega
   have gd:=Hj.kept Hh;have n0:w.heap.size≠w.heap.size+1+1:=o_
   have n1:w.heap.size+1≠w.heap.size+1+1:=o_
   exact⟨_,rfl,Vt (((((((((fi).far (p:=⟨w.heap.size+1+1,0,none⟩) n0 _).far (p:=⟨w.heap.size+1+1,1,none⟩) n0 _).far (p:=⟨w.heap.size+1+1,2,none⟩) n0 _).far (p:=⟨w.heap.size+1+1,3,none⟩) n0 _).far (p:=⟨w.heap.size+1+1,4,none⟩) n0 _).far (p:=⟨w.heap.size+1+1,5,none⟩) n0 _).far (p:=⟨w.heap.size+1+1,6,none⟩) n0 _).far (p:=⟨w.heap.size+1+1,7,none⟩) n0 _) (((((((((go).far (p:=⟨w.heap.size+1+1,0,none⟩) n1 _).far (p:=⟨w.heap.size+1+1,1,none⟩) n1 _).far (p:=⟨w.heap.size+1+1,2,none⟩) n1 _).far (p:=⟨w.heap.size+1+1,3,none⟩) n1 _).far (p:=⟨w.heap.size+1+1,4,none⟩) n1 _).far (p:=⟨w.heap.size+1+1,5,none⟩) n1 _).far (p:=⟨w.heap.size+1+1,6,none⟩) n1 _).far (p:=⟨w.heap.size+1+1,7,none⟩) n1 _) (((((((((Nf).set_ 0 _).set_ 1 _).set_ 2 _).set_ 3 _).set_ 4 _).set_ 5 _).set_ 6 _).set_ 7 _) (((((((((gd).setOff (p:=⟨w.heap.size+1+1,0,none⟩) z1 _).setOff (p:=⟨w.heap.size+1+1,1,none⟩) z1 _).setOff (p:=⟨w.heap.size+1+1,2,none⟩) z1 _).setOff (p:=⟨w.heap.size+1+1,3,none⟩) z1 _).setOff (p:=⟨w.heap.size+1+1,4,none⟩) z1 _).setOff (p:=⟨w.heap.size+1+1,5,none⟩) z1 _).setOff (p:=⟨w.heap.size+1+1,6,none⟩) z1 _).setOff (p:=⟨w.heap.size+1+1,7,none⟩) z1 _) (((((((((Hn).setOff (p:=⟨w.heap.size+1+1,0,none⟩) z2 _).setOff (p:=⟨w.heap.size+1+1,1,none⟩) z2 _).setOff (p:=⟨w.heap.size+1+1,2,none⟩) z2 _).setOff (p:=⟨w.heap.size+1+1,3,none⟩) z2 _).setOff (p:=⟨w.heap.size+1+1,4,none⟩) z2 _).setOff (p:=⟨w.heap.size+1+1,5,none⟩) z2 _).setOff (p:=⟨w.heap.size+1+1,6,none⟩) z2 _).setOff (p:=⟨w.heap.size+1+1,7,none⟩) z2 _) (fun k hk=>(FU k hk).2) sz_ sz_ z1 z2 o_ bel_⟩
 case rest=>
  obtain⟨Z,rfl,A0,c0,A1,c1,A2,c2,A3,c3,h01,h23,hdis,hX,hR,hZ,Gb,H7,Gp,gi⟩:=hcut;have HO:=h_ (z0h (fund:=fund) h01 h23 hdis);clear h01 h23 hdis hX;obtain⟨ob,hob⟩:∃x,ze (VQ ns ls fund)=x:=⟨_,rfl⟩;have HB:=h_ hob;clear hob;obtain⟨z_0,z_1,z_2,z_3,z_4,z_5,z_6,z_7⟩:=hZ.c8;have fW:=hZ.lt
  go_wp2_with fail
  refine(jc _ _ _ _ _ _ _ (VQ ns ls fund) ob _ HO.out.reads HB).mono ?_
  rintro e w3 ⟨rfl,Hg⟩;have C6:=h_ (HO.out.kept Hg);have Fh:=hZ.below Hg fW;have Ga:=hR.below Hg hR.lt;have He:=gi.trans (Hg.mono gi.size);clear Hg gi HO hZ hR z_0 z_1 z_2 z_3 z_4 z_5 z_6 z_7;obtain⟨z_0,z_1,z_2,z_3,z_4,z_5,z_6,z_7⟩:=Fh.c8;obtain⟨r_0,r_1,r_2,r_3,r_4,r_5,r_6,r_7,r_f0,r_f1,r_f2,r_f3,r_f4,r_f5,r_f6,r_f7⟩:=Ga.b8;have R1:=Fh.lt;have R2:=Ga.lt;have fY:=h_ He
  cases ob
  ·have HE:Hid (ZX ns ls fund=z3Y/\J8 ns ls fund=false):=h_ (by unfold ZX J8;rw[HB.out];exact⟨rfl,rfl⟩)
   clear He Fh Ga;go_wp2;rw[HE.out.1,HE.out.2];refine bodyPost_ret (v:= .tuple #[.agg z8_,.bool false]) (by simp[results,Tryz.results202,go_sem,r_0,r_1,r_2,r_3,r_4,r_5,r_6,r_7,z_0,z_1,z_2,z_3,z_4,z_5,z_6,z_7,R2,R1]) rfl ?_
   refine⟨none,0,none,0,none,0,none,0,none,0,none,0,none,0,[],rfl,?_,?_⟩
   ·exact z49 _ _
   ·have He:=fY.out
    exact bel_
  ·have HE:Hid (ZX ns ls fund=VQ ns ls fund/\J8 ns ls fund=true):=h_ (by unfold ZX J8;rw[HB.out];exact⟨rfl,rfl⟩)
   clear He Fh Ga;go_wp2;rw[HE.out.1,HE.out.2];refine bodyPost_ret (v:= .tuple #[.agg #[.slice A0 ns.length c0,.slice A1 ls.length c1,.slice A2 ns.length c2,.slice A3 ls.length c3,.slice none 0 0,.slice none 0 0,.slice none 0 0,.int .i64 fund],.bool true]) (by simp[results,Tryz.results202,go_sem,r_0,r_1,r_2,r_3,r_4,r_5,r_6,r_7,z_0,z_1,z_2,z_3,z_4,z_5,z_6,z_7,R2,R1]) rfl ?_
   refine⟨A0,c0,A1,c1,A2,c2,A3,c3,none,0,none,0,none,0,[],rfl,?_,?_⟩
   ·refine OwnSt.mono (base:=w.heap.size+1+1) ?_ o_
    iterate 12 (try (with_reducible refine OwnSt.setLow ?_ ?_ _))
    exact C6.out
    all_goals exact sz_
   ·have He:=fY.out
    exact bel_
end Go.Proofs.YtnjcpljhmhdhkaaGreat
