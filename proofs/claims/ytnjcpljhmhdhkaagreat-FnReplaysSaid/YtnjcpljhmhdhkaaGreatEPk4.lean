/- part 4 -/
import Derived.Test.YtnjcpljhmhdhkaaGreatEPk3
import Derived.Deep.Upon
set_option linter.unusedSimpArgs false
set_option linter.unusedVariables false
set_option maxRecDepth 100000
set_option maxHeartbeats 8000000
namespace Go.Proofs.YtnjcpljhmhdhkaaGreat
open Go.RowKit
attribute [local go_sem ↓] zr zt zR zQ
theorem z7u (vn vl:Value) (ns ls:List Pr) (a b:Int) (w:World) (hn:RP w vn ns) (hl:RP w vl ls) (h1:ns.length<=1048576) (h2:ls.length<=1048576) (hw:winB ns ls=false):
  Calls Tryz.prog 107 #[.agg #[vn,vl],.int .i64 a,.int .i64 b] w (zG ns ls false w):=by
 obtain⟨j0,hj,jz0,jz1,jz2⟩:=info_parts jb
 go_enter Tryz.func107,Tryz.ntmps107
 go_wp2_with fail
 refine(zU _ _ ns ls _ (hn.below bel_) (hl.below bel_) h1 h2).mono ?_
 rintro e w3 ⟨An3,cn3,Al3,cl3,rfl,CH,He⟩;have G5:=He.size;simp at G5
 have Hm:OwnW (w.heap.size+1+1) w3 (.slice An3 ns.length cn3) (.slice Al3 ls.length cl3) ns ls:=by simpa using CH
 have go:=Hm.lt;have cj:Blk w3 w.heap.size 27 #[vn,vl]:=Blk.below ((Blk.newAt rfl).alloc _) He sz_;have gZ:Blk w3 (w.heap.size+1) 27 #[.slice none 0 0,.slice none 0 0]:=Blk.below (Blk.newAt (by simp)) He sz_;have Hc:Below w.heap.size w w3:=bel_
 go_wp2_with (at_builtin;refine zj rfl _ _ _ rfl (w.heap.size+1+1) 108 j0 Tryz.underlying25 hj jz0 jz1 jz2 (.slice Al3 ls.length cl3) _ ls [(mn2 a b,mx2 a b)] rfl rfl ((Hm.2.1.alloc _).alloc _) (j6 (by simp) rfl rfl rfl (by simp[maxLen])) (by simp;omega) (by simp;omega) ?_)
 intro A4 c4 w4 gH Gc Cg;have Hq:∀k,(Value.slice Al3 ls.length cl3).ownBlock =some k->w.heap.size+1+1<=k/\k<w3.heap.size:=fun k hk=>go k (.inr hk)
 have mt:=((cj.alloc (.cells #[.slice An3 ns.length cn3,.slice Al3 ls.length cl3] 27)).alloc _).grownR Gc (fun k hk=>by have:=(Hq k hk).1;omega);have fF:=((gZ.alloc (.cells #[.slice An3 ns.length cn3,.slice Al3 ls.length cl3] 27)).alloc _).grownR Gc (fun k hk=>by have:=(Hq k hk).1;omega);have bB:Blk w4 w3.heap.size 27 #[.slice An3 ns.length cn3,.slice Al3 ls.length cl3]:=((Blk.newAt rfl).alloc _).grownR Gc (fun k hk=>by have:=(Hq k hk).2;omega);have FM:=((Hm.1.alloc (.cells #[.slice An3 ns.length cn3,.slice Al3 ls.length cl3] 27)).alloc _).apart Gc (fun k hk gG=>Hm.2.2 k hk gG)
 have fO:∀k,(Value.slice A4 (ls.length+1) c4).ownBlock =some k->(w.heap.size+1+1<=k/\k<w3.heap.size)∨k=w3.heap.size+1+1:=by
  intro k hk
  rcases yL Cg hk with h|h
  ·exact .inl (Hq k h)
  ·exact .inr (by simpa using h)
 have cC:∀k,(Value.slice An3 ns.length cn3).ownBlock =some k->(Value.slice A4 (ls.length+1) c4).ownBlock =some k->False:=by
  intro k hk gG
  rcases yL Cg gG with h|h
  ·exact Hm.2.2 k hk h
  ·have h':k=w3.heap.size+1+1:=by simpa using h
   have:=(go k (.inl hk)).2;omega
 have fP:OwnW (w.heap.size+1+1) w4 (.slice An3 ns.length cn3) (.slice A4 (ls.length+1) c4) ns (ls++[(mn2 a b,mx2 a b)]):=⟨FM,gH,cC⟩;have Hn:Below w.heap.size w w4:=((Hc.alloc o_ _).alloc sz_ _).grown Gc sz_ (fun k hk=>by have:=(Hq k hk).1;omega)
 have Fm:=fP.setFar (p:=⟨w3.heap.size,1,none⟩) (by
  rintro(h|h)
  ·have:=(go _ (.inl h)).2
   exact absurd this (aaV _)
  ·rcases fO _ h with h'|h'
   ·exact absurd h'.2 (aaV _)
   ·have h'':w3.heap.size=w3.heap.size+1+1:=h'
    omega) (.slice A4 (ls.length+1) c4)
 have Fe:Blk (w4.setCell ⟨w3.heap.size,1,none⟩ (.slice A4 (ls.length+1) c4)) w3.heap.size 27 #[.slice An3 ns.length cn3,.slice A4 (ls.length+1) c4]:=bB.set_ 1 _;have cD:=mt.far (p:=⟨w3.heap.size,1,none⟩) (show ¬w.heap.size=w3.heap.size by omega) (.slice A4 (ls.length+1) c4);have fL:=fF.far (p:=⟨w3.heap.size,1,none⟩) (show ¬w.heap.size+1=w3.heap.size by omega) (.slice A4 (ls.length+1) c4);have Hv:Below w.heap.size w (w4.setCell ⟨w3.heap.size,1,none⟩ (.slice A4 (ls.length+1) c4)):=Hn.setCell (p:=⟨w3.heap.size,1,none⟩) (show w.heap.size<=w3.heap.size by omega) _;obtain⟨t_0,t_1,t_f0,t_f1⟩:=bB.b2;have Fl:(w4.setCell ⟨w3.heap.size,1,none⟩ (.slice A4 (ls.length+1) c4)).heap.size =w4.heap.size:=by simp[World.setCell]
 have fb:=cD.cell 0;have CF:=cD.cell 1;simp only[abd,aah,aag] at fb CF
 generalize hL:ls++[(mn2 a b,mx2 a b)]=LL at*
 go_wp2_with fail
 refine(zF _ _ ns ls _ _ (hn.below Hv) (hl.below Hv) hw).mono ?_
 rintro e w6 ⟨rfl,gz⟩;have Ma:=gz.size;have Mu:=cD.below gz cD.lt;have fW:=fL.below gz fL.lt;have gQ:Below w.heap.size w w6:=Hv.trans (gz.mono Hv.size);rw[Fl] at Ma;obtain⟨a_0,a_1⟩:=Mu.c2
 go_wp2_with fail
 refine(zU _ _ ns ls _ (hn.below gQ) (hl.below gQ) h1 h2).mono ?_
 rintro e w8 ⟨An8,cn8,Al8,cl8,rfl,Ut,BH⟩;have Mv:=fW.below BH fW.lt;have mG:Below w.heap.size w w8:=gQ.trans (BH.mono gQ.size);have q1:w.heap.size+1<w6.heap.size:=fW.lt;obtain⟨r_0,r_1,r_f0,r_f1⟩:=Mv.b2;have hO:=h_ (((Ut.setLow (p:=⟨w.heap.size+1,0,none⟩) q1 (.slice An8 ns.length cn8)).setLow (p:=⟨w.heap.size+1,1,none⟩) q1 (.slice Al8 ls.length cl8)).mono (show w.heap.size<=_ by omega));have HB:=h_ ((mG.setCell (p:=⟨w.heap.size+1,0,none⟩) sz_ (.slice An8 ns.length cn8)).setCell (p:=⟨w.heap.size+1,1,none⟩) sz_ (.slice Al8 ls.length cl8));go_wp2;exact bodyPost_ret (v:= .tuple #[.agg #[.slice An8 ns.length cn8,.slice Al8 ls.length cl8],.bool false]) (by simp[results,Tryz.results107,go_sem,r_0,r_1]) rfl (zG.mk rfl rfl rfl hO.out HB.out)
theorem VB (vn vl:Value) (ns ls:List Pr) (a b:Int) (w:World) (hn:RP w vn ns) (hl:RP w vl ls) (h1:ns.length<=1048576) (h2:ls.length<=1048576) (hw:winB ns ls=true) (hE:winB ns (ls++[(mn2 a b,mx2 a b)])=false):
  Calls Tryz.prog 107 #[.agg #[vn,vl],.int .i64 a,.int .i64 b] w (zG ns ls false w):=by
 obtain⟨j0,hj,jz0,jz1,jz2⟩:=info_parts jb
 go_enter Tryz.func107,Tryz.ntmps107
 go_wp2_with fail
 refine(zU _ _ ns ls _ (hn.below bel_) (hl.below bel_) h1 h2).mono ?_
 rintro e w3 ⟨An3,cn3,Al3,cl3,rfl,CH,He⟩;have G5:=He.size;simp at G5
 have Hm:OwnW (w.heap.size+1+1) w3 (.slice An3 ns.length cn3) (.slice Al3 ls.length cl3) ns ls:=by simpa using CH
 have go:=Hm.lt;have cj:Blk w3 w.heap.size 27 #[vn,vl]:=Blk.below ((Blk.newAt rfl).alloc _) He sz_;have gZ:Blk w3 (w.heap.size+1) 27 #[.slice none 0 0,.slice none 0 0]:=Blk.below (Blk.newAt (by simp)) He sz_;have Hc:Below w.heap.size w w3:=bel_
 go_wp2_with (at_builtin;refine zj rfl _ _ _ rfl (w.heap.size+1+1) 108 j0 Tryz.underlying25 hj jz0 jz1 jz2 (.slice Al3 ls.length cl3) _ ls [(mn2 a b,mx2 a b)] rfl rfl ((Hm.2.1.alloc _).alloc _) (j6 (by simp) rfl rfl rfl (by simp[maxLen])) (by simp;omega) (by simp;omega) ?_)
 intro A4 c4 w4 gH Gc Cg;have Hq:∀k,(Value.slice Al3 ls.length cl3).ownBlock =some k->w.heap.size+1+1<=k/\k<w3.heap.size:=fun k hk=>go k (.inr hk)
 have mt:=((cj.alloc (.cells #[.slice An3 ns.length cn3,.slice Al3 ls.length cl3] 27)).alloc _).grownR Gc (fun k hk=>by have:=(Hq k hk).1;omega);have fF:=((gZ.alloc (.cells #[.slice An3 ns.length cn3,.slice Al3 ls.length cl3] 27)).alloc _).grownR Gc (fun k hk=>by have:=(Hq k hk).1;omega);have bB:Blk w4 w3.heap.size 27 #[.slice An3 ns.length cn3,.slice Al3 ls.length cl3]:=((Blk.newAt rfl).alloc _).grownR Gc (fun k hk=>by have:=(Hq k hk).2;omega);have FM:=((Hm.1.alloc (.cells #[.slice An3 ns.length cn3,.slice Al3 ls.length cl3] 27)).alloc _).apart Gc (fun k hk gG=>Hm.2.2 k hk gG)
 have fO:∀k,(Value.slice A4 (ls.length+1) c4).ownBlock =some k->(w.heap.size+1+1<=k/\k<w3.heap.size)∨k=w3.heap.size+1+1:=by
  intro k hk
  rcases yL Cg hk with h|h
  ·exact .inl (Hq k h)
  ·exact .inr (by simpa using h)
 have cC:∀k,(Value.slice An3 ns.length cn3).ownBlock =some k->(Value.slice A4 (ls.length+1) c4).ownBlock =some k->False:=by
  intro k hk gG
  rcases yL Cg gG with h|h
  ·exact Hm.2.2 k hk h
  ·have h':k=w3.heap.size+1+1:=by simpa using h
   have:=(go k (.inl hk)).2;omega
 have fP:OwnW (w.heap.size+1+1) w4 (.slice An3 ns.length cn3) (.slice A4 (ls.length+1) c4) ns (ls++[(mn2 a b,mx2 a b)]):=⟨FM,gH,cC⟩;have Hn:Below w.heap.size w w4:=((Hc.alloc o_ _).alloc sz_ _).grown Gc sz_ (fun k hk=>by have:=(Hq k hk).1;omega)
 have Fm:=fP.setFar (p:=⟨w3.heap.size,1,none⟩) (by
  rintro(h|h)
  ·have:=(go _ (.inl h)).2
   exact absurd this (aaV _)
  ·rcases fO _ h with h'|h'
   ·exact absurd h'.2 (aaV _)
   ·have h'':w3.heap.size=w3.heap.size+1+1:=h'
    omega) (.slice A4 (ls.length+1) c4)
 have Fe:Blk (w4.setCell ⟨w3.heap.size,1,none⟩ (.slice A4 (ls.length+1) c4)) w3.heap.size 27 #[.slice An3 ns.length cn3,.slice A4 (ls.length+1) c4]:=bB.set_ 1 _;have cD:=mt.far (p:=⟨w3.heap.size,1,none⟩) (show ¬w.heap.size=w3.heap.size by omega) (.slice A4 (ls.length+1) c4);have fL:=fF.far (p:=⟨w3.heap.size,1,none⟩) (show ¬w.heap.size+1=w3.heap.size by omega) (.slice A4 (ls.length+1) c4);have Hv:Below w.heap.size w (w4.setCell ⟨w3.heap.size,1,none⟩ (.slice A4 (ls.length+1) c4)):=Hn.setCell (p:=⟨w3.heap.size,1,none⟩) (show w.heap.size<=w3.heap.size by omega) _;obtain⟨t_0,t_1,t_f0,t_f1⟩:=bB.b2;have Fl:(w4.setCell ⟨w3.heap.size,1,none⟩ (.slice A4 (ls.length+1) c4)).heap.size =w4.heap.size:=by simp[World.setCell]
 have fb:=cD.cell 0;have CF:=cD.cell 1;simp only[abd,aah,aag] at fb CF
 generalize hL:ls++[(mn2 a b,mx2 a b)]=LL at*
 go_wp2_with fail
 refine(zF _ _ ns ls _ _ (hn.below Hv) (hl.below Hv) hw).mono ?_
 rintro e w6 ⟨rfl,gz⟩;have Ma:=gz.size;have Mu:=cD.below gz cD.lt;have fW:=fL.below gz fL.lt;have CG:=Fe.below gz Fe.lt;have bD:=Fm.kept gz;have gQ:Below w.heap.size w w6:=Hv.trans (gz.mono Hv.size);rw[Fl] at Ma;obtain⟨t_0,t_1⟩:=CG.c2
 go_wp2_with fail
 refine(zF _ _ ns LL _ _ bD.1.reads bD.2.1.reads hE).mono ?_
 rintro e w7 ⟨rfl,fQ⟩;have Mw:=Mu.below fQ Mu.lt;have Ch:=fW.below fQ fW.lt;have Gt:Below w.heap.size w w7:=gQ.trans (fQ.mono gQ.size);obtain⟨a_0,a_1⟩:=Mw.c2
 go_wp2_with fail
 refine(zU _ _ ns ls _ (hn.below Gt) (hl.below Gt) h1 h2).mono ?_
 rintro e w8 ⟨An8,cn8,Al8,cl8,rfl,Ut,BH⟩;have Mv:=Ch.below BH Ch.lt;have mG:Below w.heap.size w w8:=Gt.trans (BH.mono Gt.size);have q1:w.heap.size+1<w7.heap.size:=Ch.lt;obtain⟨r_0,r_1,r_f0,r_f1⟩:=Mv.b2;have hO:=h_ (((Ut.setLow (p:=⟨w.heap.size+1,0,none⟩) q1 (.slice An8 ns.length cn8)).setLow (p:=⟨w.heap.size+1,1,none⟩) q1 (.slice Al8 ls.length cl8)).mono (show w.heap.size<=_ by omega));have HB:=h_ ((mG.setCell (p:=⟨w.heap.size+1,0,none⟩) sz_ (.slice An8 ns.length cn8)).setCell (p:=⟨w.heap.size+1,1,none⟩) sz_ (.slice Al8 ls.length cl8));go_wp2;exact bodyPost_ret (v:= .tuple #[.agg #[.slice An8 ns.length cn8,.slice Al8 ls.length cl8],.bool false]) (by simp[results,Tryz.results107,go_sem,r_0,r_1]) rfl (zG.mk rfl rfl rfl hO.out HB.out)
theorem VZ (vn vl:Value) (ns ls:List Pr) (a b:Int) (w:World) (hn:RP w vn ns) (hl:RP w vl ls) (h1:ns.length<=1048576) (h2:ls.length<=1048576) (hw:winB ns ls=true) (hE:winB ns (ls++[(mn2 a b,mx2 a b)])=true):
  Calls Tryz.prog 107 #[.agg #[vn,vl],.int .i64 a,.int .i64 b] w (zG ns (ls++[(mn2 a b,mx2 a b)]) true w):=by
 obtain⟨j0,hj,jz0,jz1,jz2⟩:=info_parts jb
 go_enter Tryz.func107,Tryz.ntmps107
 go_wp2_with fail
 refine(zU _ _ ns ls _ (hn.below bel_) (hl.below bel_) h1 h2).mono ?_
 rintro e w3 ⟨An3,cn3,Al3,cl3,rfl,CH,He⟩;have G5:=He.size;simp at G5
 have Hm:OwnW (w.heap.size+1+1) w3 (.slice An3 ns.length cn3) (.slice Al3 ls.length cl3) ns ls:=by simpa using CH
 have go:=Hm.lt;have cj:Blk w3 w.heap.size 27 #[vn,vl]:=Blk.below ((Blk.newAt rfl).alloc _) He sz_;have gZ:Blk w3 (w.heap.size+1) 27 #[.slice none 0 0,.slice none 0 0]:=Blk.below (Blk.newAt (by simp)) He sz_;have Hc:Below w.heap.size w w3:=bel_
 go_wp2_with (at_builtin;refine zj rfl _ _ _ rfl (w.heap.size+1+1) 108 j0 Tryz.underlying25 hj jz0 jz1 jz2 (.slice Al3 ls.length cl3) _ ls [(mn2 a b,mx2 a b)] rfl rfl ((Hm.2.1.alloc _).alloc _) (j6 (by simp) rfl rfl rfl (by simp[maxLen])) (by simp;omega) (by simp;omega) ?_)
 intro A4 c4 w4 gH Gc Cg;have Hq:∀k,(Value.slice Al3 ls.length cl3).ownBlock =some k->w.heap.size+1+1<=k/\k<w3.heap.size:=fun k hk=>go k (.inr hk)
 have mt:=((cj.alloc (.cells #[.slice An3 ns.length cn3,.slice Al3 ls.length cl3] 27)).alloc _).grownR Gc (fun k hk=>by have:=(Hq k hk).1;omega);have fF:=((gZ.alloc (.cells #[.slice An3 ns.length cn3,.slice Al3 ls.length cl3] 27)).alloc _).grownR Gc (fun k hk=>by have:=(Hq k hk).1;omega);have bB:Blk w4 w3.heap.size 27 #[.slice An3 ns.length cn3,.slice Al3 ls.length cl3]:=((Blk.newAt rfl).alloc _).grownR Gc (fun k hk=>by have:=(Hq k hk).2;omega);have FM:=((Hm.1.alloc (.cells #[.slice An3 ns.length cn3,.slice Al3 ls.length cl3] 27)).alloc _).apart Gc (fun k hk gG=>Hm.2.2 k hk gG)
 have fO:∀k,(Value.slice A4 (ls.length+1) c4).ownBlock =some k->(w.heap.size+1+1<=k/\k<w3.heap.size)∨k=w3.heap.size+1+1:=by
  intro k hk
  rcases yL Cg hk with h|h
  ·exact .inl (Hq k h)
  ·exact .inr (by simpa using h)
 have cC:∀k,(Value.slice An3 ns.length cn3).ownBlock =some k->(Value.slice A4 (ls.length+1) c4).ownBlock =some k->False:=by
  intro k hk gG
  rcases yL Cg gG with h|h
  ·exact Hm.2.2 k hk h
  ·have h':k=w3.heap.size+1+1:=by simpa using h
   have:=(go k (.inl hk)).2;omega
 have fP:OwnW (w.heap.size+1+1) w4 (.slice An3 ns.length cn3) (.slice A4 (ls.length+1) c4) ns (ls++[(mn2 a b,mx2 a b)]):=⟨FM,gH,cC⟩;have Hn:Below w.heap.size w w4:=((Hc.alloc o_ _).alloc sz_ _).grown Gc sz_ (fun k hk=>by have:=(Hq k hk).1;omega)
 have Fm:=fP.setFar (p:=⟨w3.heap.size,1,none⟩) (by
  rintro(h|h)
  ·have:=(go _ (.inl h)).2
   exact absurd this (aaV _)
  ·rcases fO _ h with h'|h'
   ·exact absurd h'.2 (aaV _)
   ·have h'':w3.heap.size=w3.heap.size+1+1:=h'
    omega) (.slice A4 (ls.length+1) c4)
 have Fe:Blk (w4.setCell ⟨w3.heap.size,1,none⟩ (.slice A4 (ls.length+1) c4)) w3.heap.size 27 #[.slice An3 ns.length cn3,.slice A4 (ls.length+1) c4]:=bB.set_ 1 _;have cD:=mt.far (p:=⟨w3.heap.size,1,none⟩) (show ¬w.heap.size=w3.heap.size by omega) (.slice A4 (ls.length+1) c4);have fL:=fF.far (p:=⟨w3.heap.size,1,none⟩) (show ¬w.heap.size+1=w3.heap.size by omega) (.slice A4 (ls.length+1) c4);have Hv:Below w.heap.size w (w4.setCell ⟨w3.heap.size,1,none⟩ (.slice A4 (ls.length+1) c4)):=Hn.setCell (p:=⟨w3.heap.size,1,none⟩) (show w.heap.size<=w3.heap.size by omega) _;obtain⟨t_0,t_1,t_f0,t_f1⟩:=bB.b2;have Fl:(w4.setCell ⟨w3.heap.size,1,none⟩ (.slice A4 (ls.length+1) c4)).heap.size =w4.heap.size:=by simp[World.setCell]
 have Hj:(ls++[(mn2 a b,mx2 a b)]).length =ls.length+1:=by simp
 have fb:=cD.cell 0;have CF:=cD.cell 1;simp only[abd,aah,aag] at fb CF
 generalize hL:ls++[(mn2 a b,mx2 a b)]=LL at*
 go_wp2_with fail
 refine(zF _ _ ns ls _ _ (hn.below Hv) (hl.below Hv) hw).mono ?_
 rintro e w6 ⟨rfl,gz⟩;have Ma:=gz.size;have Mu:=cD.below gz cD.lt;have fW:=fL.below gz fL.lt;have CG:=Fe.below gz Fe.lt;have bD:=Fm.kept gz;have gQ:Below w.heap.size w w6:=Hv.trans (gz.mono Hv.size);rw[Fl] at Ma;obtain⟨t_0,t_1⟩:=CG.c2
 go_wp2_with fail
 refine(zF _ _ ns LL _ _ bD.1.reads bD.2.1.reads hE).mono ?_
 rintro e w7 ⟨rfl,fQ⟩;have Ch:=fW.below fQ fW.lt;have Yv:=CG.below fQ CG.lt;have hoW7:=bD.kept fQ;have Gt:Below w.heap.size w w7:=gQ.trans (fQ.mono gQ.size);obtain⟨r_0,r_1,r_f0,r_f1⟩:=Ch.b2;obtain⟨t_0,t_1,t_f0,t_f1⟩:=Yv.b2;have hO:=h_ (((hoW7.setLow (p:=⟨w.heap.size+1,0,none⟩) (show w.heap.size+1<w.heap.size+1+1 by omega) (.slice An3 ns.length cn3)).setLow (p:=⟨w.heap.size+1,1,none⟩) (show w.heap.size+1<w.heap.size+1+1 by omega) (.slice A4 (ls.length+1) c4)).mono (show w.heap.size<=_ by omega));have HB:=h_ ((Gt.setCell (p:=⟨w.heap.size+1,0,none⟩) sz_ (.slice An3 ns.length cn3)).setCell (p:=⟨w.heap.size+1,1,none⟩) sz_ (.slice A4 (ls.length+1) c4));generalize w3.heap.size=B3 at*;go_wp2;exact bodyPost_ret (v:= .tuple #[.agg #[.slice An3 ns.length cn3,.slice A4 (ls.length+1) c4],.bool true]) (by simp[results,Tryz.results107,go_sem,r_0,r_1,t_0,t_1]) rfl (zG.mk rfl rfl Hj.symm hO.out HB.out)
theorem z7j (vn vl:Value) (ns ls:List Pr) (a b:Int) (w:World) (hn:RP w vn ns) (hl:RP w vl ls) (h1:ns.length<=1048576) (h2:ls.length<=1048576):
  Calls Tryz.prog 161 #[.agg #[vn,vl],.int .i64 a,.int .i64 b] w (zG ns (addL ns ls a b) (addB ns ls a b) w):=by
 unfold addL addB
 cases hw:winB ns ls
 ·exact z8j vn vl ns ls a b w hn hl h1 h2 hw
 ·cases hE:winB ns (ls++[(mn2 a b,mx2 a b)])
  ·exact Jm vn vl ns ls a b w hn hl h1 h2 hw hE
  ·exact zbp vn vl ns ls a b w hn hl h1 h2 hw hE
theorem VD (vn vl:Value) (ns ls:List Pr) (a b:Int) (w:World) (hn:RP w vn ns) (hl:RP w vl ls) (h1:ns.length<=1048576) (h2:ls.length<=1048576):
  Calls Tryz.prog 107 #[.agg #[vn,vl],.int .i64 a,.int .i64 b] w (zG ns (addL ns ls a b) (addB ns ls a b) w):=by
 unfold addL addB
 cases hw:winB ns ls
 ·exact z7u vn vl ns ls a b w hn hl h1 h2 hw
 ·cases hE:winB ns (ls++[(mn2 a b,mx2 a b)])
  ·exact VB vn vl ns ls a b w hn hl h1 h2 hw hE
  ·exact VZ vn vl ns ls a b w hn hl h1 h2 hw hE
attribute [local go_sem ↓] zr zt zR zQ
noncomputable def hasL (ns ls:List Pr) (k:Int):Bool:=winB ns ls&&inB k 0 ((ls.length:Int) -1)
noncomputable def jO (ns ls:List Pr) (k:Int):List Pr:=if hasL ns ls k then ls.take k.toNat++ls.drop (k.toNat+1) else ls
theorem z0n (vn vl:Value) (ns ls:List Pr) (k:Int) (w:World) (hn:RP w vn ns) (hl:RP w vl ls):
  CB_ 215 #[.agg #[vn,vl],.int .i64 k] w (.bool (hasL ns ls k)):=by
 obtain⟨Al,cl,rfl,Hy,Gz,_⟩:=hl.formI;unfold maxLen at Gz
 cases hw:winB ns ls
 ·have HR:Hid (hasL ns ls k=false):=h_ (by simp[hasL,hw])
  go_enter Tryz.func215,Tryz.ntmps215
  go_wp2_with fail
  refine(qa _ _ ns ls _ _ (hn.below bel_) (hl.below bel_) hw).mono ?_
  rintro e w1 ⟨rfl,h9⟩;go_wp2;go_ret
  exact⟨z8 HR.out.symm,by exact bel_⟩
 ·have HR:Hid (hasL ns ls k=inB k 0 ((ls.length:Int) -1)):=h_ (by simp[hasL,hw])
  go_enter Tryz.func215,Tryz.ntmps215
  go_wp2_with fail
  refine(qa _ _ ns ls _ _ (hn.below bel_) (hl.below bel_) hw).mono ?_
  rintro e w1 ⟨rfl,h9⟩;(have gc:=bcC h9)
  go_wp2_with fail
  refine(yA _ _ _ _).mono ?_
  rintro e w' ⟨rfl,rfl⟩;rw[<-HR.out];go_wp2;go_ret
  exact⟨rfl,by exact bel_⟩
theorem ZD (vn vl:Value) (ns ls:List Pr) (k:Int) (b:Bool) (w:World) (hn:RP w vn ns) (hl:RP w vl ls) (hb:hasL ns ls k=b):
  CB_ 215 #[.agg #[vn,vl],.int .i64 k] w (.bool b):=by
 subst hb;exact z0n vn vl ns ls k w hn hl
theorem Zn (ls:List Pr) (k:Nat):(ls.drop k).flatMap prc=(ls.flatMap prc).drop (k*2):=by
 induction ls generalizing k with
 |nil=>simp
 |cons p ls ih=>
  cases k with
  |zero=>simp
  |succ k=>
   rw[List.drop_succ_cons,ih,aam,show(k+1)*2=k*2+2 by omega];simp[prc]
theorem z5r (ls:List Pr) (k:Nat):(ls.take k).flatMap prc=(ls.flatMap prc).take (k*2):=by
 induction ls generalizing k with
 |nil=>simp
 |cons p ls ih=>
  cases k with
  |zero=>simp
  |succ k=>
   rw[List.take_succ_cons,aam,ih,aam,show(k+1)*2=k*2+2 by omega];simp[prc]
theorem ky (g:Nat) (t:TypeId):∀(vs:List Value) (o:Nat) (w:World) (cs:Array Value),w.heap[g]? =some (.cells cs t (0,0))->o+vs.length<=cs.size->
  (w.setCells g o vs).heap[g]? =some (.cells (cs.toList.take o++vs++cs.toList.drop (o+vs.length)).toArray t (0,0)):=by
 intro vs
 induction vs with
 |nil=>
  intro o w cs h ho;simp[World.setCells,h]
 |cons v vs ih=>
  intro o w cs h ho;have h':(w.setCell ⟨g,o,none⟩ v).heap[g]? =some (.cells (cs.setIfInBounds o v) t (0,0)):=Blk.set_ (show Blk w g t cs from h) o v;have:=ih (o+1) (w.setCell ⟨g,o,none⟩ v) (cs.setIfInBounds o v) h' (by simp at ho⊢;omega);have FA:o<cs.toList.length:=by simp at ho⊢;omega
  have e:(cs.setIfInBounds o v).toList =cs.toList.take o++v::cs.toList.drop (o+1):=by
   rw[Array.toList_setIfInBounds,List.set_eq_take_append_cons_drop,aao FA]
  have hl:(cs.toList.take o).length =o:=by simp at FA⊢;omega
  show((w.setCell ⟨g,o,none⟩ v).setCells g (o+1) vs).heap[g]? =_
  rw[this,e]
  have e1:List.take (o+1) (cs.toList.take o++v::cs.toList.drop (o+1))=cs.toList.take o++[v]:=by
   rw[List.take_append,hl];have:o+1 -o=1:=o_
   rw[this,aaK o_];rfl
  have e2:List.drop (o+1+vs.length) (cs.toList.take o++v::cs.toList.drop (o+1))=cs.toList.drop (o+(v::vs).length):=by
   rw[List.drop_append,hl];have h3:o+1+vs.length -o=vs.length+1:=o_
   rw[h3,List.drop_succ_cons,List.drop_drop,List.drop_of_length_le o_];simp
   congr 1
   omega
  rw[e1,e2];simp
theorem z7o {t:TypeId} {base g cap:Nat} {w:World} {ls:List Pr} {k:Nat} (h:OwnP t base w (.slice (some ⟨g,0,none⟩) ls.length cap) ls) (hk:k<ls.length):
  OwnP t base (w.setCells g (k*2) ((ls.drop (k+1)).flatMap prc)) (.slice (some ⟨g,0,none⟩) (ls.length -1) cap) (ls.take k++ls.drop (k+1)):=by
 have ho:w.ownsRow base t 2 (.slice (some ⟨g,0,none⟩) ls.length cap) ls.length (ls.flatMap prc):=h;have Hj:(ls.take k++ls.drop (k+1)).length =ls.length -1:=by simp;omega
 have fc:(ls.flatMap prc).length =ls.length*2:=qm prc 2 (fun _=>rfl) ls;have CI:((ls.drop (k+1)).flatMap prc).length =(ls.length -(k+1))*2:=by rw[qm prc 2 (fun _=>rfl)];simp
 refine⟨qm prc 2 (fun _=>rfl) _,?_⟩
 rcases ho.2 with ⟨e,_⟩|⟨g',cap',cur,e,hb,hh,CC,Bh,gx,co⟩
 ·cases e
 ·cases e
  have FN:ls.length*2<=cur.size:=by rw[gx];exact Nat.mul_le_mul_right 2 CC
  have Hq:=ky g t ((ls.drop (k+1)).flatMap prc) (k*2) w cur hh (by rw[CI];omega);refine .inr ⟨g,cap,_,by rw[Hj],hb,Hq,by rw[Hj];omega,Bh,?_,?_⟩
  ·simp only[List.size_toArray,aaW,abm,List.length_drop,CI,Array.length_toList]
   omega
  ·rw[Hj,aaX,Zn,z5r,<-co]
   have hc:cur.toList.length=cur.size:=Array.length_toList;have Nk:(List.take (k*2) cur.toList).length =k*2:=by rw[abm,hc];omega
   have e3:(List.drop ((k+1)*2) (List.take (ls.length*2) cur.toList)).length =(ls.length -1)*2 -k*2:=by rw[List.length_drop,abm,hc];omega
   show List.take ((ls.length -1)*2) (List.take (k*2) cur.toList++_++_)=_
   rw[aay,List.take_append,Nk,aaK (by rw[Nk];omega),List.take_left' e3,List.take_take,Nat.min_eq_left o_]
theorem yJ (g:Nat):∀(vs:List Value) (o:Nat) (w:World),(w.setCells g o vs).heap.size =w.heap.size
 | [],_,_=>rfl
 |v::vs,o,w=>by
  show((w.setCell ⟨g,o,none⟩ v).setCells g (o+1) vs).heap.size =_
  rw[yJ g vs];simp[World.setCell]
theorem yK (g:Nat):∀(vs:List Value) (o:Nat) (w:World),(w.setCells g o vs).tape =w.tape
 | [],_,_=>rfl
 |v::vs,o,w=>yK g vs (o+1) (w.setCell ⟨g,o,none⟩ v)
theorem V7 {P:Program} {w:World} {t ty e:TypeId} {i:TypeInfo} {base g cap c2:Nat} {ls:List Pr} {k:Nat} (ht:P.underlying t=some (.slice e)) (hi:P.info? e=some i) (Hs:i.size=2)
  (h:OwnP e base w (.slice (some ⟨g,0,none⟩) ls.length cap) ls) (hk:k<ls.length):
  (Builtin.append_ #[t,t] ty #[.slice (some ⟨g,0,none⟩) k cap,.slice (if cap=k+1 then some ⟨g,0,none⟩ else some ⟨g,(k+1)*2,none⟩) (ls.length -(k+1)) c2]).run P w=
   .ok (.slice (some ⟨g,0,none⟩) (ls.length -1) cap) (w.setCells g (k*2) ((ls.drop (k+1)).flatMap prc)):=by
 have BI:ls.length<=cap:=by
  obtain⟨A',c',e1,e2,_⟩:=h.reads.form
  cases e1;exact e2
 have CI:((ls.drop (k+1)).flatMap prc).length =(ls.length -(k+1))*2:=by rw[qm prc 2 (fun _=>rfl),List.length_drop]
 have fc:(ls.flatMap prc).length =ls.length*2:=qm prc 2 (fun _=>rfl) ls;have ho:w.ownsRow base e 2 (.slice (some ⟨g,0,none⟩) ls.length cap) ls.length (ls.flatMap prc):=h;have hcell:∀j,j<ls.length*2->w.cell? ⟨g,j,none⟩=(ls.flatMap prc)[j]? :=fun j hj=>ho.cellAt j o_
 have Rb:Src P i.size t (.slice (if cap=k+1 then some ⟨g,0,none⟩ else some ⟨g,(k+1)*2,none⟩) (ls.length -(k+1)) c2) (ls.length -(k+1)) ((ls.drop (k+1)).flatMap prc) w:=by
  by_cases G8:cap=k+1
  ·rw[aao G8]
   have e0:ls.length -(k+1)=0:=o_
   refine Src.ofSlice w ht _ _ _ _ (by rw[Hs];exact CI) ?_ (VL _)
   intro j u hu;have hj:=(List.getElem?_eq_some_iff.1 hu).1;rw[CI] at hj;omega
  ·rw[aaq G8]
   refine Src.ofSlice w ht _ _ _ _ (by rw[Hs];exact CI) ?_ (VL _)
   intro j u hu;have hj:=(List.getElem?_eq_some_iff.1 hu).1;rw[CI] at hj;rw[ki,hcell _ o_,<-hu,Zn,List.getElem?_drop]
 have hr:=run_append_room_src (P:=P) w t t ty e i ht hi g 0 k cap _ (ls.length -(k+1)) ((ls.drop (k+1)).flatMap prc) Rb o_
  (fun j hj=>by rw[CI] at hj;rw[Hs,aaF,hcell _ o_,aac o_];rfl)
  (fun j hj=>ho.frozenAt _)
 rw[Hs,aaF,show k+(ls.length -(k+1))=ls.length -1 by omega] at hr;exact hr
theorem jH {P:Program} {w:World} {ops:Array Oper} {rest:List Oper} {o:Oper} {a:Act} {Q:Exit->Act->World->Prop} (fY:o.guard=none) (s x:Operand) (t:TypeId)
  (ho:o.op= .call { callee:= .builtin .append,args:= #[s,x],argTypes:= #[t,t] })
  (base:Nat) (e:TypeId) (i:TypeInfo) (ht:P.underlying t=some (.slice e)) (hi:P.info? e=some i) (Hs:i.size=2) (g cap c2:Nat) (ls:List Pr) (k:Nat)
  (hs:a.eval s= .slice (some ⟨g,0,none⟩) k cap) (hx:a.eval x= .slice (if cap=k+1 then some ⟨g,0,none⟩ else some ⟨g,(k+1)*2,none⟩) (ls.length -(k+1)) c2)
  (hown:OwnP e base w (.slice (some ⟨g,0,none⟩) ls.length cap) ls) (hk:k<ls.length)
  (h:∀w',OwnP e base w' (.slice (some ⟨g,0,none⟩) (ls.length -1) cap) (ls.take k++ls.drop (k+1))->w.grownBy w' (some g)->wpList P ops Q rest (a.put o.dst (.slice (some ⟨g,0,none⟩) (ls.length -1) cap)) w'):
  wpList P ops Q (o::rest) a w:=
 wpList_plain fY fun K hK=>by
  have GC:=V7 (ty:=o.type) (c2:=c2) ht hi Hs hown hk;unfold Oper.wp execOp;simp only[ho,resolve,invoke,builtin,Sem.run_bind,Sem.run_pure,aaY,List.map_toArray,aaS,aaT,hs,hx,GC]
  exact hK _ _ (h _ (z7o hown hk) ⟨World.os_setCells _ _ _ _,yK _ _ _ _,World.output_setCells _ _ _ _,by rw[yJ];exact aaa _,fun i hi gd=>World.heap_setCells_other _ _ _ _ hi (fun e=>gd (by rw[e]))⟩)
theorem z4N (vn vl:Value) (ns ls:List Pr) (k:Nat) (w:World) (hn:RP w vn ns) (hl:RP w vl ls) (h1:ns.length<=1048576) (h2:ls.length<=1048576) (hk:k<ls.length) (hw:hasL ns ls k=true):
  Calls Tryz.prog 162 #[.agg #[vn,vl],.int .i64 k] w (zG ns (ls.take k++ls.drop (k+1)) true w):=by
 obtain⟨j0,hj,jz0,jz1,jz2⟩:=info_parts jb
 go_enter Tryz.func162,Tryz.ntmps162
 go_wp2_with fail
 refine(qn _ _ ns ls _ (hn.below bel_) (hl.below bel_) h1 h2).mono ?_
 rintro e w1 ⟨An1,cn1,Al1,cl1,rfl,Hi,h9⟩;have Ht:=h9.size;simp at Ht
 have H7:OwnW (w.heap.size+1+1) w1 (.slice An1 ns.length cn1) (.slice Al1 ls.length cl1) ns ls:=by simpa using Hi
 have Hp:=H7.lt;have GM:Blk w1 w.heap.size 27 #[vn,vl]:=Blk.below ((Blk.newAt rfl).alloc _) h9 sz_;have Hx:Blk w1 (w.heap.size+1) 27 #[.slice none 0 0,.slice none 0 0]:=Blk.below (Blk.newAt (by simp)) h9 sz_;have h8:Below w.heap.size w w1:=bel_
 have n1:w.heap.size<w1.heap.size:=o_
 have n2:w.heap.size+1<w1.heap.size:=o_
 obtain⟨a_0,a_1⟩:=GM.c2;have hbs:Below w1.heap.size w1 (w1.alloc (.cells #[.slice An1 ns.length cn1,.slice Al1 ls.length cl1] 27)):=bel_
 have Gl:Below w.heap.size w (w1.alloc (.cells #[.slice An1 ns.length cn1,.slice Al1 ls.length cl1] 27)):=bel_
 go_wp2_with fail
 refine(ZD _ _ ns ls _ _ _ (hn.below Gl) (hl.below Gl) hw).mono ?_
 rintro e w2 ⟨rfl,Hd⟩;have gu:Below w1.heap.size w1 w2:=hbs.trans (Hd.mono hbs.size);have fk:Blk w2 w1.heap.size 27 #[.slice An1 ns.length cn1,.slice Al1 ls.length cl1]:=Blk.below (Blk.newAt rfl) Hd sz_;have gg:=Hx.below gu n2;have Hk:=H7.kept gu;have Ha:Below w.heap.size w w2:=h8.trans (gu.mono h8.size);obtain⟨s_0,s_1,s_f0,s_f1⟩:=fk.b2
 rcases FB:Hk.2.1.2 with ⟨_,h0⟩|⟨g,cap,cur,e1,Ce,hh,CC,Bh,fN⟩
 ·omega
 cases e1
 by_cases G8:cl1=k+1
 ·subst G8
  have c2:(0:Int)<=(k:Int):=o_
  have c3:(k:Int)+1<=(ls.length:Int):=o_
  have c1':(k:Int)<=(k:Int)+1:=o_
  go_wp2_with fail
  have BJ:IntKind.i64.wrap ((k:Int)+1)=(k:Int)+1:=aaP _ o_;have c5:(0:Int)<=(k:Int)+1:=o_
  have c6:((k:Int)+1).toNat =k+1:=o_
  go_still_tail 9,k_
  have hown:=h_ Hk.2.1
  have hgS:¬g=w1.heap.size:=by
   have:=(Hp g (.inr rfl)).2;omega
  go_wp2_with (at_builtin;refine jH (c2:=0) rfl _ _ _ rfl (w.heap.size+1+1) 108 j0 Tryz.underlying25 hj jz1 g (k+1) ls k rfl (by rw[aao rfl,show ls.length -(k+1)=0 by omega];rfl) (OwnP.drew hown.out) hk ?_)
  intro w3 hcut G7;have FC:=Blk.grownR (Blk.drew fk) G7 (fun b e=>by cases e;exact hgS);have gZ:=Blk.grownR (Blk.drew gg) G7 (fun b e=>by cases e;omega);have mH:OwnP 106 (w.heap.size+1+1) w3 (.slice An1 ns.length cn1) ns:=(OwnP.drew Hk.1).apart G7 (fun b hb e=>by cases e;exact Hk.2.2 _ hb rfl);have Rd:OwnW (w.heap.size+1+1) w3 (.slice An1 ns.length cn1) (.slice (some ⟨g,0,none⟩) (ls.length -1) (k+1)) ns (ls.take k++ls.drop (k+1)):=⟨mH,hcut,fun b hb Hd=>Hk.2.2 b hb Hd⟩;have Hc:Below w.heap.size w w3:=(Below.drew Ha).grown G7 (by have:=Ha.size;simpa using this) (fun b e=>by cases e;omega)
  have fP:=Rd.setFar (p:=⟨w1.heap.size,1,none⟩) (by
   rintro(h|h)
   ·have:=(Hp _ (.inl h)).2
    exact absurd this (aaV _)
   ·have:=(Hp _ (.inr h)).2
    exact absurd this (aaV _)) (.slice (some ⟨g,0,none⟩) (ls.length -1) (k+1))
  have Hn:=Hc.setCell (p:=⟨w1.heap.size,1,none⟩) (show w.heap.size<=w1.heap.size by omega) (.slice (some ⟨g,0,none⟩) (ls.length -1) (k+1));have d1:¬w1.heap.size=w.heap.size+1:=o_
  have hO:=h_ (((fP.setLow (p:=⟨w.heap.size+1,0,none⟩) (show w.heap.size+1<w.heap.size+1+1 by omega) (.slice An1 ns.length cn1)).setLow (p:=⟨w.heap.size+1,1,none⟩) (show w.heap.size+1<w.heap.size+1+1 by omega) (.slice (some ⟨g,0,none⟩) (ls.length -1) (k+1))).mono (show w.heap.size<=_ by omega));have HB:=h_ ((Hn.setCell (p:=⟨w.heap.size+1,0,none⟩) sz_ (.slice An1 ns.length cn1)).setCell (p:=⟨w.heap.size+1,1,none⟩) sz_ (.slice (some ⟨g,0,none⟩) (ls.length -1) (k+1)));have GV:=h_ (show ls.length -1=(ls.take k++ls.drop (k+1)).length by simp;omega);obtain⟨s_0,s_1,s_f0,s_f1⟩:=FC.b2;obtain⟨r_0,r_1,r_f0,r_f1⟩:=gZ.b2;generalize List.take k ls++List.drop (k+1) ls=LL at*;generalize w1.heap.size=B1 at*;go_wp2;exact bodyPost_ret (v:= .tuple #[.agg #[.slice An1 ns.length cn1,.slice (some ⟨g,0,none⟩) (ls.length -1) (k+1)],.bool true]) (by simp[results,Tryz.results162,go_sem,r_0,r_1,s_0,s_1,d1]) rfl (zG.mk rfl rfl GV.out hO.out HB.out)
 ·have c1:(k:Int)<=((cl1:Nat):Int):=o_
  have c2:(0:Int)<=(k:Int):=o_
  have c3:(k:Int)+1<=(ls.length:Int):=o_
  go_wp2_with fail
  have BJ:IntKind.i64.wrap ((k:Int)+1)=(k:Int)+1:=aaP _ o_;have c5:(0:Int)<=(k:Int)+1:=o_
  have c6:((k:Int)+1).toNat =k+1:=o_
  go_still_tail 9,k_
  have hown:=h_ Hk.2.1
  have hgS:¬g=w1.heap.size:=by
   have:=(Hp g (.inr rfl)).2;omega
  go_wp2_with (at_builtin;refine jH (c2:=cl1 -(k+1)) rfl _ _ _ rfl (w.heap.size+1+1) 108 j0 Tryz.underlying25 hj jz1 g (cl1) ls k rfl (by rw[aaq G8];rfl) (OwnP.drew hown.out) hk ?_)
  intro w3 hcut G7;have FC:=Blk.grownR (Blk.drew fk) G7 (fun b e=>by cases e;exact hgS);have gZ:=Blk.grownR (Blk.drew gg) G7 (fun b e=>by cases e;omega);have mH:OwnP 106 (w.heap.size+1+1) w3 (.slice An1 ns.length cn1) ns:=(OwnP.drew Hk.1).apart G7 (fun b hb e=>by cases e;exact Hk.2.2 _ hb rfl);have Rd:OwnW (w.heap.size+1+1) w3 (.slice An1 ns.length cn1) (.slice (some ⟨g,0,none⟩) (ls.length -1) (cl1)) ns (ls.take k++ls.drop (k+1)):=⟨mH,hcut,fun b hb Hd=>Hk.2.2 b hb Hd⟩;have Hc:Below w.heap.size w w3:=(Below.drew Ha).grown G7 (by have:=Ha.size;simpa using this) (fun b e=>by cases e;omega)
  have fP:=Rd.setFar (p:=⟨w1.heap.size,1,none⟩) (by
   rintro(h|h)
   ·have:=(Hp _ (.inl h)).2
    exact absurd this (aaV _)
   ·have:=(Hp _ (.inr h)).2
    exact absurd this (aaV _)) (.slice (some ⟨g,0,none⟩) (ls.length -1) (cl1))
  have Hn:=Hc.setCell (p:=⟨w1.heap.size,1,none⟩) (show w.heap.size<=w1.heap.size by omega) (.slice (some ⟨g,0,none⟩) (ls.length -1) (cl1));have d1:¬w1.heap.size=w.heap.size+1:=o_
  have hO:=h_ (((fP.setLow (p:=⟨w.heap.size+1,0,none⟩) (show w.heap.size+1<w.heap.size+1+1 by omega) (.slice An1 ns.length cn1)).setLow (p:=⟨w.heap.size+1,1,none⟩) (show w.heap.size+1<w.heap.size+1+1 by omega) (.slice (some ⟨g,0,none⟩) (ls.length -1) (cl1))).mono (show w.heap.size<=_ by omega));have HB:=h_ ((Hn.setCell (p:=⟨w.heap.size+1,0,none⟩) sz_ (.slice An1 ns.length cn1)).setCell (p:=⟨w.heap.size+1,1,none⟩) sz_ (.slice (some ⟨g,0,none⟩) (ls.length -1) (cl1)));have GV:=h_ (show ls.length -1=(ls.take k++ls.drop (k+1)).length by simp;omega);obtain⟨s_0,s_1,s_f0,s_f1⟩:=FC.b2;obtain⟨r_0,r_1,r_f0,r_f1⟩:=gZ.b2;generalize List.take k ls++List.drop (k+1) ls=LL at*;generalize w1.heap.size=B1 at*;go_wp2;exact bodyPost_ret (v:= .tuple #[.agg #[.slice An1 ns.length cn1,.slice (some ⟨g,0,none⟩) (ls.length -1) (cl1)],.bool true]) (by simp[results,Tryz.results162,go_sem,r_0,r_1,s_0,s_1,d1]) rfl (zG.mk rfl rfl GV.out hO.out HB.out)
attribute [local go_sem ↓] zr zt zR zQ
theorem z6a (vn vl:Value) (ns ls:List Pr) (k:Int) (w:World) (hn:RP w vn ns) (hl:RP w vl ls) (h1:ns.length<=1048576) (h2:ls.length<=1048576) (hw:hasL ns ls k=false):
  Calls Tryz.prog 162 #[.agg #[vn,vl],.int .i64 k] w (zG ns ls false w):=by
 go_enter Tryz.func162,Tryz.ntmps162
 go_wp2_with fail
 refine(qn _ _ ns ls _ (hn.below bel_) (hl.below bel_) h1 h2).mono ?_
 rintro e w1 ⟨An1,cn1,Al1,cl1,rfl,Hi,h9⟩;have Ht:=h9.size;simp at Ht
 have H7:OwnW (w.heap.size+1+1) w1 (.slice An1 ns.length cn1) (.slice Al1 ls.length cl1) ns ls:=by simpa using Hi
 have GM:Blk w1 w.heap.size 27 #[vn,vl]:=Blk.below ((Blk.newAt rfl).alloc _) h9 sz_;have Hx:Blk w1 (w.heap.size+1) 27 #[.slice none 0 0,.slice none 0 0]:=Blk.below (Blk.newAt (by simp)) h9 sz_;have h8:Below w.heap.size w w1:=bel_
 have n1:w.heap.size<w1.heap.size:=o_
 have n2:w.heap.size+1<w1.heap.size:=o_
 obtain⟨a_0,a_1⟩:=GM.c2;have hbs:Below w1.heap.size w1 (w1.alloc (.cells #[.slice An1 ns.length cn1,.slice Al1 ls.length cl1] 27)):=bel_
 have Gl:Below w.heap.size w (w1.alloc (.cells #[.slice An1 ns.length cn1,.slice Al1 ls.length cl1] 27)):=bel_
 go_wp2_with fail
 refine(ZD _ _ ns ls _ _ _ (hn.below Gl) (hl.below Gl) hw).mono ?_
 rintro e w2 ⟨rfl,Hd⟩;have gu:Below w1.heap.size w1 w2:=hbs.trans (Hd.mono hbs.size);have fk:Blk w2 w1.heap.size 27 #[.slice An1 ns.length cn1,.slice Al1 ls.length cl1]:=Blk.below (Blk.newAt rfl) Hd sz_;have gg:=Hx.below gu n2;have Hk:=H7.kept gu;have Ha:Below w.heap.size w w2:=h8.trans (gu.mono h8.size);obtain⟨s_0,s_1,s_f0,s_f1⟩:=fk.b2;obtain⟨r_0,r_1,r_f0,r_f1⟩:=gg.b2;have hO:=h_ (((Hk.setLow (p:=⟨w.heap.size+1,0,none⟩) sz_ (.slice An1 ns.length cn1)).setLow (p:=⟨w.heap.size+1,1,none⟩) sz_ (.slice Al1 ls.length cl1)).mono (show w.heap.size<=_ by omega));have HB:=h_ ((Ha.setCell (p:=⟨w.heap.size+1,0,none⟩) sz_ (.slice An1 ns.length cn1)).setCell (p:=⟨w.heap.size+1,1,none⟩) sz_ (.slice Al1 ls.length cl1));generalize w1.heap.size=B1 at*;go_wp2;exact bodyPost_ret (v:= .tuple #[.agg #[.slice An1 ns.length cn1,.slice Al1 ls.length cl1],.bool false]) (by simp[results,Tryz.results162,go_sem,r_0,r_1,s_0,s_1]) rfl ⟨_,_,_,_,rfl,hO.out,HB.out⟩
theorem RP.drop {w:World} {b off n c:Nat} {l:List (Int×Int)} (h:RP w (.slice (some ⟨b,off,none⟩) n c) l) (k:Nat) (hk:k<=l.length):
  RP w (.slice (if c=k then some ⟨b,off,none⟩ else some ⟨b,off+k*2,none⟩) (l.length -k) (c -k)) (l.drop k):=by
 obtain⟨h0,A',c',hv,h1,h2,h3⟩:=h
 cases hv
 have Hj:(l.drop k).length =l.length -k:=by simp
 by_cases G8:c=k
 ·rw[aao G8]
  exact⟨qm prc 2 (fun _=>rfl) _,_,_,by rw[Hj],by omega,by omega,fun hn=>by omega⟩
 ·rw[aaq G8]
  refine⟨qm prc 2 (fun _=>rfl) _,_,_,by rw[Hj],by omega,by omega,fun hn=>?_⟩
  obtain⟨b',off',e1,e2,e3⟩:=h3 o_
  cases e1
  refine⟨b,off+k*2,rfl,e2,fun j u hu=>?_⟩
  have:=e3 (k*2+j) u (by rw[<-hu,Zn,List.getElem?_drop]);rw[<-aak] at this;exact this
theorem z5Y (vn vl:Value) (ns ls:List Pr) (k:Int) (w:World) (hn:RP w vn ns) (hl:RP w vl ls) (h1:ns.length<=1048576) (h2:ls.length<=1048576) (hw:hasL ns ls k=false):
  Calls Tryz.prog 108 #[.agg #[vn,vl],.int .i64 k] w (zG ns ls false w):=by
 obtain⟨Al,cl,rfl,Hy,Gz,_⟩:=hl.formI;unfold maxLen at Gz;have HW:=h_ hw
 go_enter Tryz.func108,Tryz.ntmps108
 go_wp2_with fail
 refine(zU _ _ ns ls _ (hn.below bel_) (hl.below bel_) h1 h2).mono ?_
 rintro e w1 ⟨An1,cn1,Al1,cl1,rfl,Hi,h9⟩;have Ht:=h9.size;simp at Ht
 have H7:OwnW (w.heap.size+1+1) w1 (.slice An1 ns.length cn1) (.slice Al1 ls.length cl1) ns ls:=by simpa using Hi
 have GM:Blk w1 w.heap.size 27 #[vn,.slice Al ls.length cl]:=Blk.below ((Blk.newAt rfl).alloc _) h9 sz_;have Hx:Blk w1 (w.heap.size+1) 27 #[.slice none 0 0,.slice none 0 0]:=Blk.below (Blk.newAt (by simp)) h9 sz_;have h8:Below w.heap.size w w1:=bel_
 have n1:w.heap.size<w1.heap.size:=o_
 have n2:w.heap.size+1<w1.heap.size:=o_
 obtain⟨a_0,a_1⟩:=GM.c2;have hbs:Below w1.heap.size w1 (w1.alloc (.cells #[.slice An1 ns.length cn1,.slice Al1 ls.length cl1] 27)):=bel_
 have Gl:Below w.heap.size w (w1.alloc (.cells #[.slice An1 ns.length cn1,.slice Al1 ls.length cl1] 27)):=bel_
 cases hw:winB ns ls
 ·go_wp2_with fail
  refine(zF _ _ ns ls _ _ (hn.below Gl) (hl.below Gl) hw).mono ?_
  rintro e w2 ⟨rfl,Hd⟩;have gu:Below w1.heap.size w1 w2:=hbs.trans (Hd.mono hbs.size);have fk:Blk w2 w1.heap.size 27 #[.slice An1 ns.length cn1,.slice Al1 ls.length cl1]:=Blk.below (Blk.newAt rfl) Hd sz_;have gg:=Hx.below gu n2;have Hk:=H7.kept gu;have Ha:Below w.heap.size w w2:=h8.trans (gu.mono h8.size);obtain⟨s_0,s_1,s_f0,s_f1⟩:=fk.b2;obtain⟨r_0,r_1,r_f0,r_f1⟩:=gg.b2;have hO:=h_ (((Hk.setLow (p:=⟨w.heap.size+1,0,none⟩) sz_ (.slice An1 ns.length cn1)).setLow (p:=⟨w.heap.size+1,1,none⟩) sz_ (.slice Al1 ls.length cl1)).mono (show w.heap.size<=_ by omega));have HB:=h_ ((Ha.setCell (p:=⟨w.heap.size+1,0,none⟩) sz_ (.slice An1 ns.length cn1)).setCell (p:=⟨w.heap.size+1,1,none⟩) sz_ (.slice Al1 ls.length cl1));generalize w1.heap.size=B1 at*;go_wp2;exact bodyPost_ret (v:= .tuple #[.agg #[.slice An1 ns.length cn1,.slice Al1 ls.length cl1],.bool false]) (by simp[results,Tryz.results108,go_sem,r_0,r_1,s_0,s_1]) rfl ⟨_,_,_,_,rfl,hO.out,HB.out⟩
 ·have i1:inB k 0 ((ls.length:Int) -1)=false:=by
   have:=HW.out;unfold hasL at this;rw[hw] at this
   simpa using this
  go_wp2_with fail
  refine(zF _ _ ns ls _ _ (hn.below Gl) (hl.below Gl) hw).mono ?_
  rintro e w2 ⟨rfl,Hd⟩;(have gE:=bcC Hd)
  have Ft:=(GM.alloc (.cells #[.slice An1 ns.length cn1,.slice Al1 ls.length cl1] 27)).below Hd sz_;obtain⟨b_0,b_1⟩:=Ft.c2
  go_wp2_with fail
  refine(zP _ _ _ _ _ i1).mono ?_
  rintro e w' ⟨rfl,rfl⟩;have gu:Below w1.heap.size w1 w2:=hbs.trans (Hd.mono hbs.size);have fk:Blk w2 w1.heap.size 27 #[.slice An1 ns.length cn1,.slice Al1 ls.length cl1]:=Blk.below (Blk.newAt rfl) Hd sz_;have gg:=Hx.below gu n2;have Hk:=H7.kept gu;have Ha:Below w.heap.size w w2:=h8.trans (gu.mono h8.size);obtain⟨s_0,s_1,s_f0,s_f1⟩:=fk.b2;obtain⟨r_0,r_1,r_f0,r_f1⟩:=gg.b2;have hO:=h_ (((Hk.setLow (p:=⟨w.heap.size+1,0,none⟩) sz_ (.slice An1 ns.length cn1)).setLow (p:=⟨w.heap.size+1,1,none⟩) sz_ (.slice Al1 ls.length cl1)).mono (show w.heap.size<=_ by omega));have HB:=h_ ((Ha.setCell (p:=⟨w.heap.size+1,0,none⟩) sz_ (.slice An1 ns.length cn1)).setCell (p:=⟨w.heap.size+1,1,none⟩) sz_ (.slice Al1 ls.length cl1));generalize w1.heap.size=B1 at*;go_wp2;exact bodyPost_ret (v:= .tuple #[.agg #[.slice An1 ns.length cn1,.slice Al1 ls.length cl1],.bool false]) (by simp[results,Tryz.results108,go_sem,r_0,r_1,s_0,s_1]) rfl ⟨_,_,_,_,rfl,hO.out,HB.out⟩
attribute [local go_sem ↓] zr zt zR zQ
theorem VR (vn:Value) (ns ls T D:List Pr) (b off k:Nat) (w:World) (hn:RP w vn ns) (hl:RP w (.slice (some ⟨b,off,none⟩) ls.length (k+1)) ls) (h1:ns.length<=1048576) (h2:ls.length<=1048576) (hk:k<ls.length)
  (hw:winB ns ls=true) (Hy:ls.length<=k+1) (hT:RP w (.slice (some ⟨b,off,none⟩) k (k+1)) T) (cX:Hid (T.length=k))
  (hD:RP w (.slice (some ⟨b,off,none⟩) 0 0) D) (nJ:Hid (D.length=0)):
  Calls Tryz.prog 108 #[.agg #[vn,.slice (some ⟨b,off,none⟩) ls.length (k+1)],.int .i64 k] w (zG ns (T++D) true w):=by
 obtain⟨j0,hj,jz0,jz1,jz2⟩:=info_parts jb;have i1:inB (k:Int) 0 ((ls.length:Int) -1)=true:=zf.2 o_
 go_enter Tryz.func108,Tryz.ntmps108
 go_wp2_with fail
 refine(zU _ _ ns ls _ (hn.below bel_) (hl.below bel_) h1 h2).mono ?_
 rintro e w1 ⟨An1,cn1,Al1,cl1,rfl,Hi,h9⟩;have Ht:=h9.size;simp at Ht
 have H7:OwnW (w.heap.size+1+1) w1 (.slice An1 ns.length cn1) (.slice Al1 ls.length cl1) ns ls:=by simpa using Hi
 have Hp:=H7.1.lt;have GM:Blk w1 w.heap.size 27 #[vn,.slice (some ⟨b,off,none⟩) ls.length (k+1)]:=Blk.below ((Blk.newAt rfl).alloc _) h9 sz_;have Hx:Blk w1 (w.heap.size+1) 27 #[.slice none 0 0,.slice none 0 0]:=Blk.below (Blk.newAt (by simp)) h9 sz_;have h8:Below w.heap.size w w1:=bel_
 have n1:w.heap.size<w1.heap.size:=o_
 have n2:w.heap.size+1<w1.heap.size:=o_
 obtain⟨a_0,a_1⟩:=GM.c2;have hbs:Below w1.heap.size w1 (w1.alloc (.cells #[.slice An1 ns.length cn1,.slice Al1 ls.length cl1] 27)):=bel_
 have Gl:Below w.heap.size w (w1.alloc (.cells #[.slice An1 ns.length cn1,.slice Al1 ls.length cl1] 27)):=bel_
 go_wp2_with fail
 refine(zF _ _ ns ls _ _ (hn.below Gl) (hl.below Gl) hw).mono ?_
 rintro e w2 ⟨rfl,Hd⟩;have Gh:=Hd.size;(try simp at Gh);(try have gI:=p0_ w w2);(try have gJ:=p1_ w w2);(try have GS:=p2_ w w2)
 have Ft:=(GM.alloc (.cells #[.slice An1 ns.length cn1,.slice Al1 ls.length cl1] 27)).below Hd sz_;have gu:Below w1.heap.size w1 w2:=hbs.trans (Hd.mono hbs.size);have fk:Blk w2 w1.heap.size 27 #[.slice An1 ns.length cn1,.slice Al1 ls.length cl1]:=Blk.below (Blk.newAt rfl) Hd sz_;have gg:=Hx.below gu n2;have Re:=H7.1.kept gu;have Ha:Below w.heap.size w w2:=h8.trans (gu.mono h8.size);have n3:w1.heap.size<w2.heap.size:=fk.lt;obtain⟨a_0,a_1⟩:=Ft.c2
 go_wp2_with fail
 refine(zP _ _ _ _ _ i1).mono ?_
 rintro e w' ⟨rfl,rfl⟩;have c1:(k:Int)<=((k+1):Int):=o_
 have c2:(0:Int)<=(k:Int):=o_
 have c3:(k:Int)+1<=(ls.length:Int):=o_
 have c4':(ls.length:Int)<=(k:Int)+1:=o_
 have c5:(0:Int)<=(k:Int)+1:=o_
 have c6:((k:Int)+1).toNat =k+1:=o_
 have BJ:IntKind.i64.wrap ((k:Int)+1)=(k:Int)+1:=aaP _ o_;have CJ:=hT.below Ha;have hD2:=hD.below Ha;have Uu:=h_ CJ;have HD2:=h_ hD2;obtain⟨s_0,s_1,s_f0,s_f1⟩:=fk.b2;have d1:¬w1.heap.size=w.heap.size+1:=o_
 have d2:¬w1.heap.size=w.heap.size:=o_
 go_wp2_with fail
 go_region_held3 (fun w'=>w'.cell? ⟨w.heap.size,0,none⟩=some vn/\w'.cell? ⟨w.heap.size,1,none⟩=some (.slice (some ⟨b,off,none⟩) ls.length (k+1)))
  (go_keep)
  (first|(refine zk rfl _ _ _ rfl w2.heap.size 108 j0 Tryz.underlying25 hj jz0 jz1 jz2 (.slice (some ⟨w2.heap.size,0,none⟩) 0 0) (.slice (some ⟨b,off,none⟩) k (k+1)) [] T rfl rfl (OwnP.drew (OwnP.made rfl (aaa _))) (RP.below Uu.out bel_) (by simp;have:=cX.out;omega) sz_ ?_;intro A3 c3' w3 Hm gn fA;(have He:=jM (B:=w2.heap.size) gn sz_ sz_);(have Gy:=fun (b o:Nat) (h:b<w2.heap.size)=>He.cell (p:=⟨b,o,none⟩) h);(have nK:=fun (b o:Nat) (h:b<w2.heap.size)=>He.frozen (p:=⟨b,o,none⟩) h);(have G5:=He.size);(try simp at G5);(have Mx:Below w2.heap.size w2 w3:=by refine Below.trans ?_ He;exact bel_);(have F1:=h_ Hm);clear gn fA Hm)|(refine zk rfl _ _ _ rfl w2.heap.size 108 j0 Tryz.underlying25 hj jz0 jz1 jz2 (.slice A3 T.length c3') (.slice (some ⟨b,off,none⟩) 0 0) T D rfl rfl F1.out (RP.below HD2.out Mx) (by have:=cX.out;have:=nJ.out;omega) sz_ ?_;intro A4 c4' w4 gH Gc Cg;(have BK:Below w2.heap.size w3 w4:=(aaj _ _).grown Gc sz_ (fun k hk=>(F1.out.lt k hk).1));(have FG:=fun (b o:Nat) (h:b<w2.heap.size)=>BK.cell (p:=⟨b,o,none⟩) h);(have hf4:=fun (b o:Nat) (h:b<w2.heap.size)=>BK.frozen (p:=⟨b,o,none⟩) h);(have cY:=h_ gH);clear Gc Cg gH))
 have gH:OwnP 108 w2.heap.size w4 (.slice A4 (T++D).length c4') (T++D):=cY.out;rw[aaW] at gH;have CK:Below w2.heap.size w2 w4:=Mx.trans BK;have FM:=Re.kept CK;have Hn:Below w.heap.size w w4:=Ha.trans (CK.mono Ha.size);have fF:=gg.below CK gg.lt;have Bp:=fk.below CK fk.lt
 have fP:OwnW (w.heap.size+1+1) w4 (.slice An1 ns.length cn1) (.slice A4 (T.length+D.length) c4') ns (T++D):=
  ⟨FM,gH.mono o_,fun k hk gG=>by have:=(Hp k hk).2;have:=(gH.lt k gG).1;omega⟩
 have Fm:=fP.setFar (p:=⟨w1.heap.size,1,none⟩) (by
  rintro(h|h)
  ·exact absurd (Hp _ h).2 (aaV _)
  ·have:=(gH.lt _ h).1
   have h':w2.heap.size<=w1.heap.size:=this;omega) (.slice A4 (T.length+D.length) c4')
 have Hv:=Hn.setCell (p:=⟨w1.heap.size,1,none⟩) (show w.heap.size<=w1.heap.size by omega) (.slice A4 (T.length+D.length) c4');have mF:Blk (w4.setCell ⟨w1.heap.size,1,none⟩ (.slice A4 (T.length+D.length) c4')) w1.heap.size 27 #[.slice An1 ns.length cn1,.slice A4 (T.length+D.length) c4']:=Bp.set_ 1 _;have fL:=fF.far (p:=⟨w1.heap.size,1,none⟩) (show ¬w.heap.size+1=w1.heap.size by omega) (.slice A4 (T.length+D.length) c4');have hO:=h_ (((Fm.setLow (p:=⟨w.heap.size+1,0,none⟩) (show w.heap.size+1<w.heap.size+1+1 by omega) (.slice An1 ns.length cn1)).setLow (p:=⟨w.heap.size+1,1,none⟩) (show w.heap.size+1<w.heap.size+1+1 by omega) (.slice A4 (T.length+D.length) c4')).mono (show w.heap.size<=_ by omega));have HB:=h_ ((Hv.setCell (p:=⟨w.heap.size+1,0,none⟩) sz_ (.slice An1 ns.length cn1)).setCell (p:=⟨w.heap.size+1,1,none⟩) sz_ (.slice A4 (T.length+D.length) c4'));have GV:=h_ (show T.length+D.length=(T++D).length by simp);obtain⟨s_0,s_1,s_f0,s_f1⟩:=mF.b2;obtain⟨r_0,r_1,r_f0,r_f1⟩:=fL.b2;generalize w4.setCell ⟨w1.heap.size,1,none⟩ (.slice A4 (T.length+D.length) c4')=w5 at*;generalize w1.heap.size=B1 at*;go_wp2;exact bodyPost_ret (v:= .tuple #[.agg #[.slice An1 ns.length cn1,.slice A4 (T.length+D.length) c4'],.bool true]) (by simp[results,Tryz.results108,go_sem,r_0,r_1,s_0,s_1,d1]) rfl (zG.mk rfl rfl GV.out hO.out HB.out)
theorem VU (vn:Value) (ns ls T D:List Pr) (b off cl k:Nat) (w:World) (hn:RP w vn ns) (hl:RP w (.slice (some ⟨b,off,none⟩) ls.length cl) ls) (h1:ns.length<=1048576) (h2:ls.length<=1048576) (hk:k<ls.length)
  (hw:winB ns ls=true) (Hy:ls.length<=cl) (G8:¬cl=k+1) (hT:RP w (.slice (some ⟨b,off,none⟩) k cl) T) (cX:Hid (T.length=k))
  (hD:RP w (.slice (some ⟨b,off+(k+1)*2,none⟩) (ls.length -(k+1)) (cl -(k+1))) D) (nJ:Hid (D.length=ls.length -(k+1))):
  Calls Tryz.prog 108 #[.agg #[vn,.slice (some ⟨b,off,none⟩) ls.length cl],.int .i64 k] w (zG ns (T++D) true w):=by
 obtain⟨j0,hj,jz0,jz1,jz2⟩:=info_parts jb;have i1:inB (k:Int) 0 ((ls.length:Int) -1)=true:=zf.2 o_
 go_enter Tryz.func108,Tryz.ntmps108
 go_wp2_with fail
 refine(zU _ _ ns ls _ (hn.below bel_) (hl.below bel_) h1 h2).mono ?_
 rintro e w1 ⟨An1,cn1,Al1,cl1,rfl,Hi,h9⟩;have Ht:=h9.size;simp at Ht
 have H7:OwnW (w.heap.size+1+1) w1 (.slice An1 ns.length cn1) (.slice Al1 ls.length cl1) ns ls:=by simpa using Hi
 have Hp:=H7.1.lt;have GM:Blk w1 w.heap.size 27 #[vn,.slice (some ⟨b,off,none⟩) ls.length cl]:=Blk.below ((Blk.newAt rfl).alloc _) h9 sz_;have Hx:Blk w1 (w.heap.size+1) 27 #[.slice none 0 0,.slice none 0 0]:=Blk.below (Blk.newAt (by simp)) h9 sz_;have h8:Below w.heap.size w w1:=bel_
 have n1:w.heap.size<w1.heap.size:=o_
 have n2:w.heap.size+1<w1.heap.size:=o_
 obtain⟨a_0,a_1⟩:=GM.c2;have hbs:Below w1.heap.size w1 (w1.alloc (.cells #[.slice An1 ns.length cn1,.slice Al1 ls.length cl1] 27)):=bel_
 have Gl:Below w.heap.size w (w1.alloc (.cells #[.slice An1 ns.length cn1,.slice Al1 ls.length cl1] 27)):=bel_
 go_wp2_with fail
 refine(zF _ _ ns ls _ _ (hn.below Gl) (hl.below Gl) hw).mono ?_
 rintro e w2 ⟨rfl,Hd⟩;have Gh:=Hd.size;(try simp at Gh);(try have gI:=p0_ w w2);(try have gJ:=p1_ w w2);(try have GS:=p2_ w w2)
 have Ft:=(GM.alloc (.cells #[.slice An1 ns.length cn1,.slice Al1 ls.length cl1] 27)).below Hd sz_;have gu:Below w1.heap.size w1 w2:=hbs.trans (Hd.mono hbs.size);have fk:Blk w2 w1.heap.size 27 #[.slice An1 ns.length cn1,.slice Al1 ls.length cl1]:=Blk.below (Blk.newAt rfl) Hd sz_;have gg:=Hx.below gu n2;have Re:=H7.1.kept gu;have Ha:Below w.heap.size w w2:=h8.trans (gu.mono h8.size);have n3:w1.heap.size<w2.heap.size:=fk.lt;obtain⟨a_0,a_1⟩:=Ft.c2
 go_wp2_with fail
 refine(zP _ _ _ _ _ i1).mono ?_
 rintro e w' ⟨rfl,rfl⟩;have c1:(k:Int)<=(cl:Int):=o_
 have c2:(0:Int)<=(k:Int):=o_
 have c3:(k:Int)+1<=(ls.length:Int):=o_
 have c5:(0:Int)<=(k:Int)+1:=o_
 have c6:((k:Int)+1).toNat =k+1:=o_
 have BJ:IntKind.i64.wrap ((k:Int)+1)=(k:Int)+1:=aaP _ o_;have CJ:=hT.below Ha;have hD2:=hD.below Ha;have Uu:=h_ CJ;have HD2:=h_ hD2;obtain⟨s_0,s_1,s_f0,s_f1⟩:=fk.b2;have d1:¬w1.heap.size=w.heap.size+1:=o_
 have d2:¬w1.heap.size=w.heap.size:=o_
 go_wp2_with fail
 go_region_held3 (fun w'=>w'.cell? ⟨w.heap.size,0,none⟩=some vn/\w'.cell? ⟨w.heap.size,1,none⟩=some (.slice (some ⟨b,off,none⟩) ls.length (cl)))
  (go_keep)
  (first|(refine zk rfl _ _ _ rfl w2.heap.size 108 j0 Tryz.underlying25 hj jz0 jz1 jz2 (.slice (some ⟨w2.heap.size,0,none⟩) 0 0) (.slice (some ⟨b,off,none⟩) k (cl)) [] T rfl rfl (OwnP.drew (OwnP.made rfl (aaa _))) (RP.below Uu.out bel_) (by simp;have:=cX.out;omega) sz_ ?_;intro A3 c3' w3 Hm gn fA;(have He:=jM (B:=w2.heap.size) gn sz_ sz_);(have Gy:=fun (b o:Nat) (h:b<w2.heap.size)=>He.cell (p:=⟨b,o,none⟩) h);(have nK:=fun (b o:Nat) (h:b<w2.heap.size)=>He.frozen (p:=⟨b,o,none⟩) h);(have G5:=He.size);(try simp at G5);(have Mx:Below w2.heap.size w2 w3:=by refine Below.trans ?_ He;exact bel_);(have F1:=h_ Hm);clear gn fA Hm)|(refine zk rfl _ _ _ rfl w2.heap.size 108 j0 Tryz.underlying25 hj jz0 jz1 jz2 (.slice A3 T.length c3') (.slice (some ⟨b,off+(k+1)*2,none⟩) (ls.length -(k+1)) (cl -(k+1))) T D rfl rfl F1.out (RP.below HD2.out Mx) (by have:=cX.out;have:=nJ.out;omega) sz_ ?_;intro A4 c4' w4 gH Gc Cg;(have BK:Below w2.heap.size w3 w4:=(aaj _ _).grown Gc sz_ (fun k hk=>(F1.out.lt k hk).1));(have FG:=fun (b o:Nat) (h:b<w2.heap.size)=>BK.cell (p:=⟨b,o,none⟩) h);(have hf4:=fun (b o:Nat) (h:b<w2.heap.size)=>BK.frozen (p:=⟨b,o,none⟩) h);(have cY:=h_ gH);clear Gc Cg gH))
 have gH:OwnP 108 w2.heap.size w4 (.slice A4 (T++D).length c4') (T++D):=cY.out;rw[aaW] at gH;have CK:Below w2.heap.size w2 w4:=Mx.trans BK;have FM:=Re.kept CK;have Hn:Below w.heap.size w w4:=Ha.trans (CK.mono Ha.size);have fF:=gg.below CK gg.lt;have Bp:=fk.below CK fk.lt
 have fP:OwnW (w.heap.size+1+1) w4 (.slice An1 ns.length cn1) (.slice A4 (T.length+D.length) c4') ns (T++D):=
  ⟨FM,gH.mono o_,fun k hk gG=>by have:=(Hp k hk).2;have:=(gH.lt k gG).1;omega⟩
 have Fm:=fP.setFar (p:=⟨w1.heap.size,1,none⟩) (by
  rintro(h|h)
  ·exact absurd (Hp _ h).2 (aaV _)
  ·have:=(gH.lt _ h).1
   have h':w2.heap.size<=w1.heap.size:=this;omega) (.slice A4 (T.length+D.length) c4')
 have Hv:=Hn.setCell (p:=⟨w1.heap.size,1,none⟩) (show w.heap.size<=w1.heap.size by omega) (.slice A4 (T.length+D.length) c4');have mF:Blk (w4.setCell ⟨w1.heap.size,1,none⟩ (.slice A4 (T.length+D.length) c4')) w1.heap.size 27 #[.slice An1 ns.length cn1,.slice A4 (T.length+D.length) c4']:=Bp.set_ 1 _;have fL:=fF.far (p:=⟨w1.heap.size,1,none⟩) (show ¬w.heap.size+1=w1.heap.size by omega) (.slice A4 (T.length+D.length) c4');have hO:=h_ (((Fm.setLow (p:=⟨w.heap.size+1,0,none⟩) (show w.heap.size+1<w.heap.size+1+1 by omega) (.slice An1 ns.length cn1)).setLow (p:=⟨w.heap.size+1,1,none⟩) (show w.heap.size+1<w.heap.size+1+1 by omega) (.slice A4 (T.length+D.length) c4')).mono (show w.heap.size<=_ by omega));have HB:=h_ ((Hv.setCell (p:=⟨w.heap.size+1,0,none⟩) sz_ (.slice An1 ns.length cn1)).setCell (p:=⟨w.heap.size+1,1,none⟩) sz_ (.slice A4 (T.length+D.length) c4'));have GV:=h_ (show T.length+D.length=(T++D).length by simp);obtain⟨s_0,s_1,s_f0,s_f1⟩:=mF.b2;obtain⟨r_0,r_1,r_f0,r_f1⟩:=fL.b2;generalize w4.setCell ⟨w1.heap.size,1,none⟩ (.slice A4 (T.length+D.length) c4')=w5 at*;generalize w1.heap.size=B1 at*;go_wp2;exact bodyPost_ret (v:= .tuple #[.agg #[.slice An1 ns.length cn1,.slice A4 (T.length+D.length) c4'],.bool true]) (by simp[results,Tryz.results108,go_sem,r_0,r_1,s_0,s_1,d1]) rfl (zG.mk rfl rfl GV.out hO.out HB.out)
theorem Jo {ns ls:List Pr} {k:Int} (h:hasL ns ls k=true):winB ns ls=true/\∃m:Nat,k=(m:Int)/\m<ls.length:=by
 unfold hasL at h;rw[aaG] at h;have:=zf.1 h.2;exact⟨h.1,k.toNat,by omega,by omega⟩
theorem z4R (vn vl:Value) (ns ls:List Pr) (k:Int) (w:World) (hn:RP w vn ns) (hl:RP w vl ls) (h1:ns.length<=1048576) (h2:ls.length<=1048576):
  Calls Tryz.prog 162 #[.agg #[vn,vl],.int .i64 k] w (zG ns (jO ns ls k) (hasL ns ls k) w):=by
 unfold jO
 cases hw:hasL ns ls k
 ·exact z6a vn vl ns ls k w hn hl h1 h2 hw
 ·obtain⟨_,m,rfl,hm⟩:=Jo hw
  have:=z4N vn vl ns ls m w hn hl h1 h2 hm hw
  simpa using this
theorem XD (vn vl:Value) (ns ls:List Pr) (k:Int) (w:World) (hn:RP w vn ns) (hl:RP w vl ls) (h1:ns.length<=1048576) (h2:ls.length<=1048576):
  Calls Tryz.prog 108 #[.agg #[vn,vl],.int .i64 k] w (zG ns (jO ns ls k) (hasL ns ls k) w):=by
 unfold jO
 cases hw:hasL ns ls k
 ·exact z5Y vn vl ns ls k w hn hl h1 h2 hw
 ·obtain⟨Hh,m,rfl,hm⟩:=Jo hw
  obtain⟨Al,cl,rfl,Hy,_,hcell⟩:=hl.form;obtain⟨b,off,rfl,_⟩:=hcell o_;have e:ls.take (m:Int).toNat ++ls.drop ((m:Int).toNat +1)=ls.take m++ls.drop (m+1):=by simp
  rw[aao rfl,e];have hT:=RP.take hl m o_;have hD:=RP.drop hl (m+1) o_;have cX:Hid ((ls.take m).length =m):=h_ (by simp;omega)
  by_cases G8:cl=m+1
  ·subst G8
   rw[aao rfl] at hD;have e0:ls.length -(m+1)=0:=o_
   rw[e0,aae] at hD;exact VR vn ns ls _ _ b off m w hn hl h1 h2 hm Hh Hy hT cX hD (h_ (by simp;omega))
  ·rw[aaq G8] at hD
   exact VU vn ns ls _ _ b off cl m w hn hl h1 h2 hm Hh Hy G8 hT cX hD (h_ (by simp))
end Go.Proofs.YtnjcpljhmhdhkaaGreat
