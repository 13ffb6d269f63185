/- part 7 -/
import Derived.Test.YtnjcpljhmhdhkaaGreatTPk6
import Derived.Deep.Upon
set_option linter.unusedSimpArgs false
set_option linter.unusedVariables false
set_option maxRecDepth 100000
set_option maxHeartbeats 8000000
namespace Go.Proofs.YtnjcpljhmhdhkaaGreat
open Go.RowKit
attribute [local go_sem ↓] zr zq zU zT
theorem z8G (vn vl:Value) (ns ls:List Pr) (a b:Int) (w:World) (hn:RP w vn ns) (hl:RP w vl ls) (h1:ns.length<=1048576) (h2:ls.length<=1048576) (hw:winB ns ls=false):
  Calls Tryz.prog 107 #[.agg #[vn,vl],.int .i64 a,.int .i64 b] w (zI ns ls false w):=by
 obtain⟨j0,hj,jz0,jz1,jz2⟩:=info_parts jd
 go_enter Tryz.func107,Tryz.ntmps107
 go_wp2_with fail
 refine(zR _ _ ns ls _ (hn.below bel_) (hl.below bel_) h1 h2).mono ?_
 rintro e w3 ⟨An3,cn3,Al3,cl3,rfl,bV,Hg⟩;have fC:=Hg.size;simp at fC
 have Hq:OwnW (w.heap.size+1+1) w3 (.slice An3 ns.length cn3) (.slice Al3 ls.length cl3) ns ls:=by simpa using bV
 have gj:=Hq.lt;have F0:Blk w3 w.heap.size 27 #[vn,vl]:=Blk.below ((Blk.newAt rfl).alloc _) Hg sz_;have Ga:Blk w3 (w.heap.size+1) 27 #[.slice none 0 0,.slice none 0 0]:=Blk.below (Blk.newAt (by simp)) Hg sz_;have He:Below w.heap.size w w3:=bel_
 go_wp2_with (at_builtin;refine zj rfl _ _ _ rfl (w.heap.size+1+1) 108 j0 Tryz.underlying25 hj jz0 jz1 jz2 (.slice Al3 ls.length cl3) _ ls [(mn2 a b,mx2 a b)] rfl rfl ((Hq.2.1.alloc _).alloc _) (j6 (by simp) rfl rfl rfl (by simp[maxLen])) (by simp;omega) (by simp;omega) ?_)
 intro A4 c4 w4 gz Gf C2;have Hw:∀k,(Value.slice Al3 ls.length cl3).ownBlock =some k->w.heap.size+1+1<=k/\k<w3.heap.size:=fun k hk=>gj k (.inr hk)
 have bX:=((F0.alloc (.cells #[.slice An3 ns.length cn3,.slice Al3 ls.length cl3] 27)).alloc _).grownR Gf (fun k hk=>by have:=(Hw k hk).1;omega);have GY:=((Ga.alloc (.cells #[.slice An3 ns.length cn3,.slice Al3 ls.length cl3] 27)).alloc _).grownR Gf (fun k hk=>by have:=(Hw k hk).1;omega);have BF:Blk w4 w3.heap.size 27 #[.slice An3 ns.length cn3,.slice Al3 ls.length cl3]:=((Blk.newAt rfl).alloc _).grownR Gf (fun k hk=>by have:=(Hw k hk).2;omega);have cI:=((Hq.1.alloc (.cells #[.slice An3 ns.length cn3,.slice Al3 ls.length cl3] 27)).alloc _).apart Gf (fun k hk gU=>Hq.2.2 k hk gU)
 have Fv:∀k,(Value.slice A4 (ls.length+1) c4).ownBlock =some k->(w.heap.size+1+1<=k/\k<w3.heap.size)∨k=w3.heap.size+1+1:=by
  intro k hk
  rcases yV C2 hk with h|h
  ·exact .inl (Hw k h)
  ·exact .inr (by simpa using h)
 have CC:∀k,(Value.slice An3 ns.length cn3).ownBlock =some k->(Value.slice A4 (ls.length+1) c4).ownBlock =some k->False:=by
  intro k hk gU
  rcases yV C2 gU with h|h
  ·exact Hq.2.2 k hk h
  ·have h':k=w3.heap.size+1+1:=by simpa using h
   have:=(gj k (.inl hk)).2;omega
 have fG:OwnW (w.heap.size+1+1) w4 (.slice An3 ns.length cn3) (.slice A4 (ls.length+1) c4) ns (ls++[(mn2 a b,mx2 a b)]):=⟨cI,gz,CC⟩;have Ho:Below w.heap.size w w4:=((He.alloc o_ _).alloc sz_ _).grown Gf sz_ (fun k hk=>by have:=(Hw k hk).1;omega)
 have Fj:=fG.setFar (p:=⟨w3.heap.size,1,none⟩) (by
  rintro(h|h)
  ·have:=(gj _ (.inl h)).2
   exact absurd this (aaV _)
  ·rcases Fv _ h with h'|h'
   ·exact absurd h'.2 (aaV _)
   ·have h'':w3.heap.size=w3.heap.size+1+1:=h'
    omega) (.slice A4 (ls.length+1) c4)
 have FP:Blk (w4.setCell ⟨w3.heap.size,1,none⟩ (.slice A4 (ls.length+1) c4)) w3.heap.size 27 #[.slice An3 ns.length cn3,.slice A4 (ls.length+1) c4]:=BF.set_ 1 _;have CE:=bX.far (p:=⟨w3.heap.size,1,none⟩) (show ¬w.heap.size=w3.heap.size by omega) (.slice A4 (ls.length+1) c4);have fJ:=GY.far (p:=⟨w3.heap.size,1,none⟩) (show ¬w.heap.size+1=w3.heap.size by omega) (.slice A4 (ls.length+1) c4);have H8:Below w.heap.size w (w4.setCell ⟨w3.heap.size,1,none⟩ (.slice A4 (ls.length+1) c4)):=Ho.setCell (p:=⟨w3.heap.size,1,none⟩) (show w.heap.size<=w3.heap.size by omega) _;obtain⟨t_0,t_1,t_f0,t_f1⟩:=BF.b2;have FR:(w4.setCell ⟨w3.heap.size,1,none⟩ (.slice A4 (ls.length+1) c4)).heap.size =w4.heap.size:=by simp[World.setCell]
 have fQ:=CE.cell 0;have bT:=CE.cell 1;simp only[abd,aah,aag] at fQ bT
 generalize hL:ls++[(mn2 a b,mx2 a b)]=LL at*
 go_wp2_with fail
 refine(zH _ _ ns ls _ _ (hn.below H8) (hl.below H8) hw).mono ?_
 rintro e w6 ⟨rfl,gJ⟩;have CU:=gJ.size;have nw:=CE.below gJ CE.lt;have Fg:=fJ.below gJ fJ.lt;have Gi:Below w.heap.size w w6:=H8.trans (gJ.mono H8.size);rw[FR] at CU;obtain⟨a_0,a_1⟩:=nw.c2
 go_wp2_with fail
 refine(zR _ _ ns ls _ (hn.below Gi) (hl.below Gi) h1 h2).mono ?_
 rintro e w8 ⟨An8,cn8,Al8,cl8,rfl,Wa,mH⟩;have nz:=Fg.below mH Fg.lt;have C3:Below w.heap.size w w8:=Gi.trans (mH.mono Gi.size);have q1:w.heap.size+1<w6.heap.size:=Fg.lt;obtain⟨r_0,r_1,r_f0,r_f1⟩:=nz.b2;have hO:=h_ (((Wa.setLow (p:=⟨w.heap.size+1,0,none⟩) q1 (.slice An8 ns.length cn8)).setLow (p:=⟨w.heap.size+1,1,none⟩) q1 (.slice Al8 ls.length cl8)).mono (show w.heap.size<=_ by omega));have HB:=h_ ((C3.setCell (p:=⟨w.heap.size+1,0,none⟩) sz_ (.slice An8 ns.length cn8)).setCell (p:=⟨w.heap.size+1,1,none⟩) sz_ (.slice Al8 ls.length cl8));go_wp2;exact bodyPost_ret (v:= .tuple #[.agg #[.slice An8 ns.length cn8,.slice Al8 ls.length cl8],.bool false]) (by simp[results,Tryz.results107,go_sem,r_0,r_1]) rfl (zI.mk rfl rfl rfl hO.out HB.out)
theorem VE (vn vl:Value) (ns ls:List Pr) (a b:Int) (w:World) (hn:RP w vn ns) (hl:RP w vl ls) (h1:ns.length<=1048576) (h2:ls.length<=1048576) (hw:winB ns ls=true) (hE:winB ns (ls++[(mn2 a b,mx2 a b)])=false):
  Calls Tryz.prog 107 #[.agg #[vn,vl],.int .i64 a,.int .i64 b] w (zI ns ls false w):=by
 obtain⟨j0,hj,jz0,jz1,jz2⟩:=info_parts jd
 go_enter Tryz.func107,Tryz.ntmps107
 go_wp2_with fail
 refine(zR _ _ ns ls _ (hn.below bel_) (hl.below bel_) h1 h2).mono ?_
 rintro e w3 ⟨An3,cn3,Al3,cl3,rfl,bV,Hg⟩;have fC:=Hg.size;simp at fC
 have Hq:OwnW (w.heap.size+1+1) w3 (.slice An3 ns.length cn3) (.slice Al3 ls.length cl3) ns ls:=by simpa using bV
 have gj:=Hq.lt;have F0:Blk w3 w.heap.size 27 #[vn,vl]:=Blk.below ((Blk.newAt rfl).alloc _) Hg sz_;have Ga:Blk w3 (w.heap.size+1) 27 #[.slice none 0 0,.slice none 0 0]:=Blk.below (Blk.newAt (by simp)) Hg sz_;have He:Below w.heap.size w w3:=bel_
 go_wp2_with (at_builtin;refine zj rfl _ _ _ rfl (w.heap.size+1+1) 108 j0 Tryz.underlying25 hj jz0 jz1 jz2 (.slice Al3 ls.length cl3) _ ls [(mn2 a b,mx2 a b)] rfl rfl ((Hq.2.1.alloc _).alloc _) (j6 (by simp) rfl rfl rfl (by simp[maxLen])) (by simp;omega) (by simp;omega) ?_)
 intro A4 c4 w4 gz Gf C2;have Hw:∀k,(Value.slice Al3 ls.length cl3).ownBlock =some k->w.heap.size+1+1<=k/\k<w3.heap.size:=fun k hk=>gj k (.inr hk)
 have bX:=((F0.alloc (.cells #[.slice An3 ns.length cn3,.slice Al3 ls.length cl3] 27)).alloc _).grownR Gf (fun k hk=>by have:=(Hw k hk).1;omega);have GY:=((Ga.alloc (.cells #[.slice An3 ns.length cn3,.slice Al3 ls.length cl3] 27)).alloc _).grownR Gf (fun k hk=>by have:=(Hw k hk).1;omega);have BF:Blk w4 w3.heap.size 27 #[.slice An3 ns.length cn3,.slice Al3 ls.length cl3]:=((Blk.newAt rfl).alloc _).grownR Gf (fun k hk=>by have:=(Hw k hk).2;omega);have cI:=((Hq.1.alloc (.cells #[.slice An3 ns.length cn3,.slice Al3 ls.length cl3] 27)).alloc _).apart Gf (fun k hk gU=>Hq.2.2 k hk gU)
 have Fv:∀k,(Value.slice A4 (ls.length+1) c4).ownBlock =some k->(w.heap.size+1+1<=k/\k<w3.heap.size)∨k=w3.heap.size+1+1:=by
  intro k hk
  rcases yV C2 hk with h|h
  ·exact .inl (Hw k h)
  ·exact .inr (by simpa using h)
 have CC:∀k,(Value.slice An3 ns.length cn3).ownBlock =some k->(Value.slice A4 (ls.length+1) c4).ownBlock =some k->False:=by
  intro k hk gU
  rcases yV C2 gU with h|h
  ·exact Hq.2.2 k hk h
  ·have h':k=w3.heap.size+1+1:=by simpa using h
   have:=(gj k (.inl hk)).2;omega
 have fG:OwnW (w.heap.size+1+1) w4 (.slice An3 ns.length cn3) (.slice A4 (ls.length+1) c4) ns (ls++[(mn2 a b,mx2 a b)]):=⟨cI,gz,CC⟩;have Ho:Below w.heap.size w w4:=((He.alloc o_ _).alloc sz_ _).grown Gf sz_ (fun k hk=>by have:=(Hw k hk).1;omega)
 have Fj:=fG.setFar (p:=⟨w3.heap.size,1,none⟩) (by
  rintro(h|h)
  ·have:=(gj _ (.inl h)).2
   exact absurd this (aaV _)
  ·rcases Fv _ h with h'|h'
   ·exact absurd h'.2 (aaV _)
   ·have h'':w3.heap.size=w3.heap.size+1+1:=h'
    omega) (.slice A4 (ls.length+1) c4)
 have FP:Blk (w4.setCell ⟨w3.heap.size,1,none⟩ (.slice A4 (ls.length+1) c4)) w3.heap.size 27 #[.slice An3 ns.length cn3,.slice A4 (ls.length+1) c4]:=BF.set_ 1 _;have CE:=bX.far (p:=⟨w3.heap.size,1,none⟩) (show ¬w.heap.size=w3.heap.size by omega) (.slice A4 (ls.length+1) c4);have fJ:=GY.far (p:=⟨w3.heap.size,1,none⟩) (show ¬w.heap.size+1=w3.heap.size by omega) (.slice A4 (ls.length+1) c4);have H8:Below w.heap.size w (w4.setCell ⟨w3.heap.size,1,none⟩ (.slice A4 (ls.length+1) c4)):=Ho.setCell (p:=⟨w3.heap.size,1,none⟩) (show w.heap.size<=w3.heap.size by omega) _;obtain⟨t_0,t_1,t_f0,t_f1⟩:=BF.b2;have FR:(w4.setCell ⟨w3.heap.size,1,none⟩ (.slice A4 (ls.length+1) c4)).heap.size =w4.heap.size:=by simp[World.setCell]
 have fQ:=CE.cell 0;have bT:=CE.cell 1;simp only[abd,aah,aag] at fQ bT
 generalize hL:ls++[(mn2 a b,mx2 a b)]=LL at*
 go_wp2_with fail
 refine(zH _ _ ns ls _ _ (hn.below H8) (hl.below H8) hw).mono ?_
 rintro e w6 ⟨rfl,gJ⟩;have CU:=gJ.size;have nw:=CE.below gJ CE.lt;have Fg:=fJ.below gJ fJ.lt;have bU:=FP.below gJ FP.lt;have CD:=Fj.kept gJ;have Gi:Below w.heap.size w w6:=H8.trans (gJ.mono H8.size);rw[FR] at CU;obtain⟨t_0,t_1⟩:=bU.c2
 go_wp2_with fail
 refine(zH _ _ ns LL _ _ CD.1.reads CD.2.1.reads hE).mono ?_
 rintro e w7 ⟨rfl,f9⟩;have nC:=nw.below f9 nw.lt;have C4:=Fg.below f9 Fg.lt;have GC:Below w.heap.size w w7:=Gi.trans (f9.mono Gi.size);obtain⟨a_0,a_1⟩:=nC.c2
 go_wp2_with fail
 refine(zR _ _ ns ls _ (hn.below GC) (hl.below GC) h1 h2).mono ?_
 rintro e w8 ⟨An8,cn8,Al8,cl8,rfl,Wa,mH⟩;have nz:=C4.below mH C4.lt;have C3:Below w.heap.size w w8:=GC.trans (mH.mono GC.size);have q1:w.heap.size+1<w7.heap.size:=C4.lt;obtain⟨r_0,r_1,r_f0,r_f1⟩:=nz.b2;have hO:=h_ (((Wa.setLow (p:=⟨w.heap.size+1,0,none⟩) q1 (.slice An8 ns.length cn8)).setLow (p:=⟨w.heap.size+1,1,none⟩) q1 (.slice Al8 ls.length cl8)).mono (show w.heap.size<=_ by omega));have HB:=h_ ((C3.setCell (p:=⟨w.heap.size+1,0,none⟩) sz_ (.slice An8 ns.length cn8)).setCell (p:=⟨w.heap.size+1,1,none⟩) sz_ (.slice Al8 ls.length cl8));go_wp2;exact bodyPost_ret (v:= .tuple #[.agg #[.slice An8 ns.length cn8,.slice Al8 ls.length cl8],.bool false]) (by simp[results,Tryz.results107,go_sem,r_0,r_1]) rfl (zI.mk rfl rfl rfl hO.out HB.out)
theorem XD (vn vl:Value) (ns ls:List Pr) (a b:Int) (w:World) (hn:RP w vn ns) (hl:RP w vl ls) (h1:ns.length<=1048576) (h2:ls.length<=1048576) (hw:winB ns ls=true) (hE:winB ns (ls++[(mn2 a b,mx2 a b)])=true):
  Calls Tryz.prog 107 #[.agg #[vn,vl],.int .i64 a,.int .i64 b] w (zI ns (ls++[(mn2 a b,mx2 a b)]) true w):=by
 obtain⟨j0,hj,jz0,jz1,jz2⟩:=info_parts jd
 go_enter Tryz.func107,Tryz.ntmps107
 go_wp2_with fail
 refine(zR _ _ ns ls _ (hn.below bel_) (hl.below bel_) h1 h2).mono ?_
 rintro e w3 ⟨An3,cn3,Al3,cl3,rfl,bV,Hg⟩;have fC:=Hg.size;simp at fC
 have Hq:OwnW (w.heap.size+1+1) w3 (.slice An3 ns.length cn3) (.slice Al3 ls.length cl3) ns ls:=by simpa using bV
 have gj:=Hq.lt;have F0:Blk w3 w.heap.size 27 #[vn,vl]:=Blk.below ((Blk.newAt rfl).alloc _) Hg sz_;have Ga:Blk w3 (w.heap.size+1) 27 #[.slice none 0 0,.slice none 0 0]:=Blk.below (Blk.newAt (by simp)) Hg sz_;have He:Below w.heap.size w w3:=bel_
 go_wp2_with (at_builtin;refine zj rfl _ _ _ rfl (w.heap.size+1+1) 108 j0 Tryz.underlying25 hj jz0 jz1 jz2 (.slice Al3 ls.length cl3) _ ls [(mn2 a b,mx2 a b)] rfl rfl ((Hq.2.1.alloc _).alloc _) (j6 (by simp) rfl rfl rfl (by simp[maxLen])) (by simp;omega) (by simp;omega) ?_)
 intro A4 c4 w4 gz Gf C2;have Hw:∀k,(Value.slice Al3 ls.length cl3).ownBlock =some k->w.heap.size+1+1<=k/\k<w3.heap.size:=fun k hk=>gj k (.inr hk)
 have bX:=((F0.alloc (.cells #[.slice An3 ns.length cn3,.slice Al3 ls.length cl3] 27)).alloc _).grownR Gf (fun k hk=>by have:=(Hw k hk).1;omega);have GY:=((Ga.alloc (.cells #[.slice An3 ns.length cn3,.slice Al3 ls.length cl3] 27)).alloc _).grownR Gf (fun k hk=>by have:=(Hw k hk).1;omega);have BF:Blk w4 w3.heap.size 27 #[.slice An3 ns.length cn3,.slice Al3 ls.length cl3]:=((Blk.newAt rfl).alloc _).grownR Gf (fun k hk=>by have:=(Hw k hk).2;omega);have cI:=((Hq.1.alloc (.cells #[.slice An3 ns.length cn3,.slice Al3 ls.length cl3] 27)).alloc _).apart Gf (fun k hk gU=>Hq.2.2 k hk gU)
 have Fv:∀k,(Value.slice A4 (ls.length+1) c4).ownBlock =some k->(w.heap.size+1+1<=k/\k<w3.heap.size)∨k=w3.heap.size+1+1:=by
  intro k hk
  rcases yV C2 hk with h|h
  ·exact .inl (Hw k h)
  ·exact .inr (by simpa using h)
 have CC:∀k,(Value.slice An3 ns.length cn3).ownBlock =some k->(Value.slice A4 (ls.length+1) c4).ownBlock =some k->False:=by
  intro k hk gU
  rcases yV C2 gU with h|h
  ·exact Hq.2.2 k hk h
  ·have h':k=w3.heap.size+1+1:=by simpa using h
   have:=(gj k (.inl hk)).2;omega
 have fG:OwnW (w.heap.size+1+1) w4 (.slice An3 ns.length cn3) (.slice A4 (ls.length+1) c4) ns (ls++[(mn2 a b,mx2 a b)]):=⟨cI,gz,CC⟩;have Ho:Below w.heap.size w w4:=((He.alloc o_ _).alloc sz_ _).grown Gf sz_ (fun k hk=>by have:=(Hw k hk).1;omega)
 have Fj:=fG.setFar (p:=⟨w3.heap.size,1,none⟩) (by
  rintro(h|h)
  ·have:=(gj _ (.inl h)).2
   exact absurd this (aaV _)
  ·rcases Fv _ h with h'|h'
   ·exact absurd h'.2 (aaV _)
   ·have h'':w3.heap.size=w3.heap.size+1+1:=h'
    omega) (.slice A4 (ls.length+1) c4)
 have FP:Blk (w4.setCell ⟨w3.heap.size,1,none⟩ (.slice A4 (ls.length+1) c4)) w3.heap.size 27 #[.slice An3 ns.length cn3,.slice A4 (ls.length+1) c4]:=BF.set_ 1 _;have CE:=bX.far (p:=⟨w3.heap.size,1,none⟩) (show ¬w.heap.size=w3.heap.size by omega) (.slice A4 (ls.length+1) c4);have fJ:=GY.far (p:=⟨w3.heap.size,1,none⟩) (show ¬w.heap.size+1=w3.heap.size by omega) (.slice A4 (ls.length+1) c4);have H8:Below w.heap.size w (w4.setCell ⟨w3.heap.size,1,none⟩ (.slice A4 (ls.length+1) c4)):=Ho.setCell (p:=⟨w3.heap.size,1,none⟩) (show w.heap.size<=w3.heap.size by omega) _;obtain⟨t_0,t_1,t_f0,t_f1⟩:=BF.b2;have FR:(w4.setCell ⟨w3.heap.size,1,none⟩ (.slice A4 (ls.length+1) c4)).heap.size =w4.heap.size:=by simp[World.setCell]
 have Hm:(ls++[(mn2 a b,mx2 a b)]).length =ls.length+1:=by simp
 have fQ:=CE.cell 0;have bT:=CE.cell 1;simp only[abd,aah,aag] at fQ bT
 generalize hL:ls++[(mn2 a b,mx2 a b)]=LL at*
 go_wp2_with fail
 refine(zH _ _ ns ls _ _ (hn.below H8) (hl.below H8) hw).mono ?_
 rintro e w6 ⟨rfl,gJ⟩;have CU:=gJ.size;have nw:=CE.below gJ CE.lt;have Fg:=fJ.below gJ fJ.lt;have bU:=FP.below gJ FP.lt;have CD:=Fj.kept gJ;have Gi:Below w.heap.size w w6:=H8.trans (gJ.mono H8.size);rw[FR] at CU;obtain⟨t_0,t_1⟩:=bU.c2
 go_wp2_with fail
 refine(zH _ _ ns LL _ _ CD.1.reads CD.2.1.reads hE).mono ?_
 rintro e w7 ⟨rfl,f9⟩;have C4:=Fg.below f9 Fg.lt;have hT7:=bU.below f9 bU.lt;have rx:=CD.kept f9;have GC:Below w.heap.size w w7:=Gi.trans (f9.mono Gi.size);obtain⟨r_0,r_1,r_f0,r_f1⟩:=C4.b2;obtain⟨t_0,t_1,t_f0,t_f1⟩:=hT7.b2;have hO:=h_ (((rx.setLow (p:=⟨w.heap.size+1,0,none⟩) (show w.heap.size+1<w.heap.size+1+1 by omega) (.slice An3 ns.length cn3)).setLow (p:=⟨w.heap.size+1,1,none⟩) (show w.heap.size+1<w.heap.size+1+1 by omega) (.slice A4 (ls.length+1) c4)).mono (show w.heap.size<=_ by omega));have HB:=h_ ((GC.setCell (p:=⟨w.heap.size+1,0,none⟩) sz_ (.slice An3 ns.length cn3)).setCell (p:=⟨w.heap.size+1,1,none⟩) sz_ (.slice A4 (ls.length+1) c4));generalize w3.heap.size=B3 at*;go_wp2;exact bodyPost_ret (v:= .tuple #[.agg #[.slice An3 ns.length cn3,.slice A4 (ls.length+1) c4],.bool true]) (by simp[results,Tryz.results107,go_sem,r_0,r_1,t_0,t_1]) rfl (zI.mk rfl rfl Hm.symm hO.out HB.out)
theorem z7x (vn vl:Value) (ns ls:List Pr) (a b:Int) (w:World) (hn:RP w vn ns) (hl:RP w vl ls) (h1:ns.length<=1048576) (h2:ls.length<=1048576):
  Calls Tryz.prog 161 #[.agg #[vn,vl],.int .i64 a,.int .i64 b] w (zI ns (addL ns ls a b) (addB ns ls a b) w):=by
 unfold addL addB
 cases hw:winB ns ls
 ·exact z8C vn vl ns ls a b w hn hl h1 h2 hw
 ·cases hE:winB ns (ls++[(mn2 a b,mx2 a b)])
  ·exact Xj vn vl ns ls a b w hn hl h1 h2 hw hE
  ·exact Xs vn vl ns ls a b w hn hl h1 h2 hw hE
theorem Va (vn vl:Value) (ns ls:List Pr) (a b:Int) (w:World) (hn:RP w vn ns) (hl:RP w vl ls) (h1:ns.length<=1048576) (h2:ls.length<=1048576):
  Calls Tryz.prog 107 #[.agg #[vn,vl],.int .i64 a,.int .i64 b] w (zI ns (addL ns ls a b) (addB ns ls a b) w):=by
 unfold addL addB
 cases hw:winB ns ls
 ·exact z8G vn vl ns ls a b w hn hl h1 h2 hw
 ·cases hE:winB ns (ls++[(mn2 a b,mx2 a b)])
  ·exact VE vn vl ns ls a b w hn hl h1 h2 hw hE
  ·exact XD vn vl ns ls a b w hn hl h1 h2 hw hE
attribute [local go_sem ↓] zr zq zU zT
noncomputable def hasL (ns ls:List Pr) (k:Int):Bool:=winB ns ls&&inB k 0 ((ls.length:Int) -1)
noncomputable def jQ (ns ls:List Pr) (k:Int):List Pr:=if hasL ns ls k then ls.take k.toNat++ls.drop (k.toNat+1) else ls
theorem z1r (vn vl:Value) (ns ls:List Pr) (k:Int) (w:World) (hn:RP w vn ns) (hl:RP w vl ls):
  CB_ 215 #[.agg #[vn,vl],.int .i64 k] w (.bool (hasL ns ls k)):=by
 obtain⟨Al,cl,rfl,Hz,GM,_⟩:=hl.formI;unfold maxLen at GM
 cases hw:winB ns ls
 ·have HR:Hid (hasL ns ls k=false):=h_ (by simp[hasL,hw])
  go_enter Tryz.func215,Tryz.ntmps215
  go_wp2_with fail
  refine(qb _ _ ns ls _ _ (hn.below bel_) (hl.below bel_) hw).mono ?_
  rintro e w1 ⟨rfl,Hb⟩;go_wp2;go_ret
  exact⟨z8 HR.out.symm,by exact bel_⟩
 ·have HR:Hid (hasL ns ls k=inB k 0 ((ls.length:Int) -1)):=h_ (by simp[hasL,hw])
  go_enter Tryz.func215,Tryz.ntmps215
  go_wp2_with fail
  refine(qb _ _ ns ls _ _ (hn.below bel_) (hl.below bel_) hw).mono ?_
  rintro e w1 ⟨rfl,Hb⟩;(have gl:=bcC Hb)
  go_wp2_with fail
  refine(yK _ _ _ _).mono ?_
  rintro e w' ⟨rfl,rfl⟩;rw[<-HR.out];go_wp2;go_ret
  exact⟨rfl,by exact bel_⟩
theorem Jg (vn vl:Value) (ns ls:List Pr) (k:Int) (b:Bool) (w:World) (hn:RP w vn ns) (hl:RP w vl ls) (hb:hasL ns ls k=b):
  CB_ 215 #[.agg #[vn,vl],.int .i64 k] w (.bool b):=by
 subst hb;exact z1r vn vl ns ls k w hn hl
theorem Zv (ls:List Pr) (k:Nat):(ls.drop k).flatMap prc=(ls.flatMap prc).drop (k*2):=by
 induction ls generalizing k with
 |nil=>simp
 |cons p ls ih=>
  cases k with
  |zero=>simp
  |succ k=>
   rw[List.drop_succ_cons,ih,aam,show(k+1)*2=k*2+2 by omega];simp[prc]
theorem z5v (ls:List Pr) (k:Nat):(ls.take k).flatMap prc=(ls.flatMap prc).take (k*2):=by
 induction ls generalizing k with
 |nil=>simp
 |cons p ls ih=>
  cases k with
  |zero=>simp
  |succ k=>
   rw[List.take_succ_cons,aam,ih,aam,show(k+1)*2=k*2+2 by omega];simp[prc]
theorem xg (g:Nat) (t:TypeId):∀(vs:List Value) (o:Nat) (w:World) (cs:Array Value),w.heap[g]? =some (.cells cs t (0,0))->o+vs.length<=cs.size->
  (w.setCells g o vs).heap[g]? =some (.cells (cs.toList.take o++vs++cs.toList.drop (o+vs.length)).toArray t (0,0)):=by
 intro vs
 induction vs with
 |nil=>
  intro o w cs h ho;simp[World.setCells,h]
 |cons v vs ih=>
  intro o w cs h ho;have h':(w.setCell ⟨g,o,none⟩ v).heap[g]? =some (.cells (cs.setIfInBounds o v) t (0,0)):=Blk.set_ (show Blk w g t cs from h) o v;have:=ih (o+1) (w.setCell ⟨g,o,none⟩ v) (cs.setIfInBounds o v) h' (by simp at ho⊢;omega);have FF:o<cs.toList.length:=by simp at ho⊢;omega
  have e:(cs.setIfInBounds o v).toList =cs.toList.take o++v::cs.toList.drop (o+1):=by
   rw[Array.toList_setIfInBounds,List.set_eq_take_append_cons_drop,aao FF]
  have hl:(cs.toList.take o).length =o:=by simp at FF⊢;omega
  show((w.setCell ⟨g,o,none⟩ v).setCells g (o+1) vs).heap[g]? =_
  rw[this,e]
  have e1:List.take (o+1) (cs.toList.take o++v::cs.toList.drop (o+1))=cs.toList.take o++[v]:=by
   rw[List.take_append,hl];have:o+1 -o=1:=o_
   rw[this,aaK o_];rfl
  have e2:List.drop (o+1+vs.length) (cs.toList.take o++v::cs.toList.drop (o+1))=cs.toList.drop (o+(v::vs).length):=by
   rw[List.drop_append,hl];have h3:o+1+vs.length -o=vs.length+1:=o_
   rw[h3,List.drop_succ_cons,List.drop_drop,List.drop_of_length_le o_];simp
   congr 1
   omega
  rw[e1,e2];simp
theorem z8x {t:TypeId} {base g cap:Nat} {w:World} {ls:List Pr} {k:Nat} (h:OwnP t base w (.slice (some ⟨g,0,none⟩) ls.length cap) ls) (hk:k<ls.length):
  OwnP t base (w.setCells g (k*2) ((ls.drop (k+1)).flatMap prc)) (.slice (some ⟨g,0,none⟩) (ls.length -1) cap) (ls.take k++ls.drop (k+1)):=by
 have ho:w.ownsRow base t 2 (.slice (some ⟨g,0,none⟩) ls.length cap) ls.length (ls.flatMap prc):=h;have Hm:(ls.take k++ls.drop (k+1)).length =ls.length -1:=by simp;omega
 have fK:(ls.flatMap prc).length =ls.length*2:=qo prc 2 (fun _=>rfl) ls;have C5:((ls.drop (k+1)).flatMap prc).length =(ls.length -(k+1))*2:=by rw[qo prc 2 (fun _=>rfl)];simp
 refine⟨qo prc 2 (fun _=>rfl) _,?_⟩
 rcases ho.2 with ⟨e,_⟩|⟨g',cap',cur,e,hb,hh,bO,mh,gI,Cx⟩
 ·cases e
 ·cases e
  have cJ:ls.length*2<=cur.size:=by rw[gI];exact Nat.mul_le_mul_right 2 bO
  have Hw:=xg g t ((ls.drop (k+1)).flatMap prc) (k*2) w cur hh (by rw[C5];omega);refine .inr ⟨g,cap,_,by rw[Hm],hb,Hw,by rw[Hm];omega,mh,?_,?_⟩
  ·simp only[List.size_toArray,aaW,abm,List.length_drop,C5,Array.length_toList]
   omega
  ·rw[Hm,aaX,Zv,z5v,<-Cx]
   have hc:cur.toList.length=cur.size:=Array.length_toList;have ry:(List.take (k*2) cur.toList).length =k*2:=by rw[abm,hc];omega
   have e3:(List.drop ((k+1)*2) (List.take (ls.length*2) cur.toList)).length =(ls.length -1)*2 -k*2:=by rw[List.length_drop,abm,hc];omega
   show List.take ((ls.length -1)*2) (List.take (k*2) cur.toList++_++_)=_
   rw[aay,List.take_append,ry,aaK (by rw[ry];omega),List.take_left' e3,List.take_take,Nat.min_eq_left o_]
theorem yY (g:Nat):∀(vs:List Value) (o:Nat) (w:World),(w.setCells g o vs).heap.size =w.heap.size
 | [],_,_=>rfl
 |v::vs,o,w=>by
  show((w.setCell ⟨g,o,none⟩ v).setCells g (o+1) vs).heap.size =_
  rw[yY g vs];simp[World.setCell]
theorem yX (g:Nat):∀(vs:List Value) (o:Nat) (w:World),(w.setCells g o vs).tape =w.tape
 | [],_,_=>rfl
 |v::vs,o,w=>yX g vs (o+1) (w.setCell ⟨g,o,none⟩ v)
theorem Vx {P:Program} {w:World} {t ty e:TypeId} {i:TypeInfo} {base g cap c2:Nat} {ls:List Pr} {k:Nat} (ht:P.underlying t=some (.slice e)) (hi:P.info? e=some i) (Hy:i.size=2)
  (h:OwnP e base w (.slice (some ⟨g,0,none⟩) ls.length cap) ls) (hk:k<ls.length):
  (Builtin.append_ #[t,t] ty #[.slice (some ⟨g,0,none⟩) k cap,.slice (if cap=k+1 then some ⟨g,0,none⟩ else some ⟨g,(k+1)*2,none⟩) (ls.length -(k+1)) c2]).run P w=
   .ok (.slice (some ⟨g,0,none⟩) (ls.length -1) cap) (w.setCells g (k*2) ((ls.drop (k+1)).flatMap prc)):=by
 have bY:ls.length<=cap:=by
  obtain⟨A',c',e1,e2,_⟩:=h.reads.form
  cases e1;exact e2
 have C5:((ls.drop (k+1)).flatMap prc).length =(ls.length -(k+1))*2:=by rw[qo prc 2 (fun _=>rfl),List.length_drop]
 have fK:(ls.flatMap prc).length =ls.length*2:=qo prc 2 (fun _=>rfl) ls;have ho:w.ownsRow base e 2 (.slice (some ⟨g,0,none⟩) ls.length cap) ls.length (ls.flatMap prc):=h;have hcell:∀j,j<ls.length*2->w.cell? ⟨g,j,none⟩=(ls.flatMap prc)[j]? :=fun j hj=>ho.cellAt j o_
 have uo:Src P i.size t (.slice (if cap=k+1 then some ⟨g,0,none⟩ else some ⟨g,(k+1)*2,none⟩) (ls.length -(k+1)) c2) (ls.length -(k+1)) ((ls.drop (k+1)).flatMap prc) w:=by
  by_cases fM:cap=k+1
  ·rw[aao fM]
   have e0:ls.length -(k+1)=0:=o_
   refine Src.ofSlice w ht _ _ _ _ (by rw[Hy];exact C5) ?_ (Vm _)
   intro j u hu;have hj:=(List.getElem?_eq_some_iff.1 hu).1;rw[C5] at hj;omega
  ·rw[aaq fM]
   refine Src.ofSlice w ht _ _ _ _ (by rw[Hy];exact C5) ?_ (Vm _)
   intro j u hu;have hj:=(List.getElem?_eq_some_iff.1 hu).1;rw[C5] at hj;rw[kL,hcell _ o_,<-hu,Zv,List.getElem?_drop]
 have hr:=run_append_room_src (P:=P) w t t ty e i ht hi g 0 k cap _ (ls.length -(k+1)) ((ls.drop (k+1)).flatMap prc) uo o_
  (fun j hj=>by rw[C5] at hj;rw[Hy,aaF,hcell _ o_,aac o_];rfl)
  (fun j hj=>ho.frozenAt _)
 rw[Hy,aaF,show k+(ls.length -(k+1))=ls.length -1 by omega] at hr;exact hr
theorem jN {P:Program} {w:World} {ops:Array Oper} {rest:List Oper} {o:Oper} {a:Act} {Q:Exit->Act->World->Prop} (Fu:o.guard=none) (s x:Operand) (t:TypeId)
  (ho:o.op= .call { callee:= .builtin .append,args:= #[s,x],argTypes:= #[t,t] })
  (base:Nat) (e:TypeId) (i:TypeInfo) (ht:P.underlying t=some (.slice e)) (hi:P.info? e=some i) (Hy:i.size=2) (g cap c2:Nat) (ls:List Pr) (k:Nat)
  (hs:a.eval s= .slice (some ⟨g,0,none⟩) k cap) (hx:a.eval x= .slice (if cap=k+1 then some ⟨g,0,none⟩ else some ⟨g,(k+1)*2,none⟩) (ls.length -(k+1)) c2)
  (hown:OwnP e base w (.slice (some ⟨g,0,none⟩) ls.length cap) ls) (hk:k<ls.length)
  (h:∀w',OwnP e base w' (.slice (some ⟨g,0,none⟩) (ls.length -1) cap) (ls.take k++ls.drop (k+1))->w.grownBy w' (some g)->wpList P ops Q rest (a.put o.dst (.slice (some ⟨g,0,none⟩) (ls.length -1) cap)) w'):
  wpList P ops Q (o::rest) a w:=
 wpList_plain Fu fun K hK=>by
  have fj:=Vx (ty:=o.type) (c2:=c2) ht hi Hy hown hk;unfold Oper.wp execOp;simp only[ho,resolve,invoke,builtin,Sem.run_bind,Sem.run_pure,aaY,List.map_toArray,aaS,aaT,hs,hx,fj]
  exact hK _ _ (h _ (z8x hown hk) ⟨World.os_setCells _ _ _ _,yX _ _ _ _,World.output_setCells _ _ _ _,by rw[yY];exact aaa _,fun i hi Hv=>World.heap_setCells_other _ _ _ _ hi (fun e=>Hv (by rw[e]))⟩)
theorem z5V (vn vl:Value) (ns ls:List Pr) (k:Nat) (w:World) (hn:RP w vn ns) (hl:RP w vl ls) (h1:ns.length<=1048576) (h2:ls.length<=1048576) (hk:k<ls.length) (hw:hasL ns ls k=true):
  Calls Tryz.prog 162 #[.agg #[vn,vl],.int .i64 k] w (zI ns (ls.take k++ls.drop (k+1)) true w):=by
 obtain⟨j0,hj,jz0,jz1,jz2⟩:=info_parts jd
 go_enter Tryz.func162,Tryz.ntmps162
 go_wp2_with fail
 refine(qt _ _ ns ls _ (hn.below bel_) (hl.below bel_) h1 h2).mono ?_
 rintro e w1 ⟨An1,cn1,Al1,cl1,rfl,Hj,Hb⟩;have H7:=Hb.size;simp at H7
 have gd:OwnW (w.heap.size+1+1) w1 (.slice An1 ns.length cn1) (.slice Al1 ls.length cl1) ns ls:=by simpa using Hj
 have Hu:=gd.lt;have GT:Blk w1 w.heap.size 27 #[vn,vl]:=Blk.below ((Blk.newAt rfl).alloc _) Hb sz_;have H6:Blk w1 (w.heap.size+1) 27 #[.slice none 0 0,.slice none 0 0]:=Blk.below (Blk.newAt (by simp)) Hb sz_;have Ha:Below w.heap.size w w1:=bel_
 have n1:w.heap.size<w1.heap.size:=o_
 have n2:w.heap.size+1<w1.heap.size:=o_
 obtain⟨a_0,a_1⟩:=GT.c2;have hbs:Below w1.heap.size w1 (w1.alloc (.cells #[.slice An1 ns.length cn1,.slice Al1 ls.length cl1] 27)):=bel_
 have Gw:Below w.heap.size w (w1.alloc (.cells #[.slice An1 ns.length cn1,.slice Al1 ls.length cl1] 27)):=bel_
 go_wp2_with fail
 refine(Jg _ _ ns ls _ _ _ (hn.below Gw) (hl.below Gw) hw).mono ?_
 rintro e w2 ⟨rfl,Hh⟩;have gG:Below w1.heap.size w1 w2:=hbs.trans (Hh.mono hbs.size);have fT:Blk w2 w1.heap.size 27 #[.slice An1 ns.length cn1,.slice Al1 ls.length cl1]:=Blk.below (Blk.newAt rfl) Hh sz_;have go:=H6.below gG n2;have Hn:=gd.kept gG;have Hc:Below w.heap.size w w2:=Ha.trans (gG.mono Ha.size);obtain⟨s_0,s_1,s_f0,s_f1⟩:=fT.b2
 rcases F4:Hn.2.1.2 with ⟨_,h0⟩|⟨g,cap,cur,e1,mo,hh,bO,mh,Fs⟩
 ·omega
 cases e1
 by_cases fM:cl1=k+1
 ·subst fM
  have c2:(0:Int)<=(k:Int):=o_
  have c3:(k:Int)+1<=(ls.length:Int):=o_
  have c1':(k:Int)<=(k:Int)+1:=o_
  go_wp2_with fail
  have Bm:IntKind.i64.wrap ((k:Int)+1)=(k:Int)+1:=aaP _ o_;have c5:(0:Int)<=(k:Int)+1:=o_
  have c6:((k:Int)+1).toNat =k+1:=o_
  go_still_tail 9,k_
  have hown:=h_ Hn.2.1
  have hgS:¬g=w1.heap.size:=by
   have:=(Hu g (.inr rfl)).2;omega
  go_wp2_with (at_builtin;refine jN (c2:=0) rfl _ _ _ rfl (w.heap.size+1+1) 108 j0 Tryz.underlying25 hj jz1 g (k+1) ls k rfl (by rw[aao rfl,show ls.length -(k+1)=0 by omega];rfl) (OwnP.drew hown.out) hk ?_)
  intro w3 hcut fH;have F5:=Blk.grownR (Blk.drew fT) fH (fun b e=>by cases e;exact hgS);have Ga:=Blk.grownR (Blk.drew go) fH (fun b e=>by cases e;omega);have My:OwnP 106 (w.heap.size+1+1) w3 (.slice An1 ns.length cn1) ns:=(OwnP.drew Hn.1).apart fH (fun b hb e=>by cases e;exact Hn.2.2 _ hb rfl);have mI:OwnW (w.heap.size+1+1) w3 (.slice An1 ns.length cn1) (.slice (some ⟨g,0,none⟩) (ls.length -1) (k+1)) ns (ls.take k++ls.drop (k+1)):=⟨My,hcut,fun b hb Hh=>Hn.2.2 b hb Hh⟩;have He:Below w.heap.size w w3:=(Below.drew Hc).grown fH (by have:=Hc.size;simpa using this) (fun b e=>by cases e;omega)
  have fG:=mI.setFar (p:=⟨w1.heap.size,1,none⟩) (by
   rintro(h|h)
   ·have:=(Hu _ (.inl h)).2
    exact absurd this (aaV _)
   ·have:=(Hu _ (.inr h)).2
    exact absurd this (aaV _)) (.slice (some ⟨g,0,none⟩) (ls.length -1) (k+1))
  have Ho:=He.setCell (p:=⟨w1.heap.size,1,none⟩) (show w.heap.size<=w1.heap.size by omega) (.slice (some ⟨g,0,none⟩) (ls.length -1) (k+1));have d1:¬w1.heap.size=w.heap.size+1:=o_
  have hO:=h_ (((fG.setLow (p:=⟨w.heap.size+1,0,none⟩) (show w.heap.size+1<w.heap.size+1+1 by omega) (.slice An1 ns.length cn1)).setLow (p:=⟨w.heap.size+1,1,none⟩) (show w.heap.size+1<w.heap.size+1+1 by omega) (.slice (some ⟨g,0,none⟩) (ls.length -1) (k+1))).mono (show w.heap.size<=_ by omega));have HB:=h_ ((Ho.setCell (p:=⟨w.heap.size+1,0,none⟩) sz_ (.slice An1 ns.length cn1)).setCell (p:=⟨w.heap.size+1,1,none⟩) sz_ (.slice (some ⟨g,0,none⟩) (ls.length -1) (k+1)));have fN:=h_ (show ls.length -1=(ls.take k++ls.drop (k+1)).length by simp;omega);obtain⟨s_0,s_1,s_f0,s_f1⟩:=F5.b2;obtain⟨r_0,r_1,r_f0,r_f1⟩:=Ga.b2;generalize List.take k ls++List.drop (k+1) ls=LL at*;generalize w1.heap.size=B1 at*;go_wp2;exact bodyPost_ret (v:= .tuple #[.agg #[.slice An1 ns.length cn1,.slice (some ⟨g,0,none⟩) (ls.length -1) (k+1)],.bool true]) (by simp[results,Tryz.results162,go_sem,r_0,r_1,s_0,s_1,d1]) rfl (zI.mk rfl rfl fN.out hO.out HB.out)
 ·have c1:(k:Int)<=((cl1:Nat):Int):=o_
  have c2:(0:Int)<=(k:Int):=o_
  have c3:(k:Int)+1<=(ls.length:Int):=o_
  go_wp2_with fail
  have Bm:IntKind.i64.wrap ((k:Int)+1)=(k:Int)+1:=aaP _ o_;have c5:(0:Int)<=(k:Int)+1:=o_
  have c6:((k:Int)+1).toNat =k+1:=o_
  go_still_tail 9,k_
  have hown:=h_ Hn.2.1
  have hgS:¬g=w1.heap.size:=by
   have:=(Hu g (.inr rfl)).2;omega
  go_wp2_with (at_builtin;refine jN (c2:=cl1 -(k+1)) rfl _ _ _ rfl (w.heap.size+1+1) 108 j0 Tryz.underlying25 hj jz1 g (cl1) ls k rfl (by rw[aaq fM];rfl) (OwnP.drew hown.out) hk ?_)
  intro w3 hcut fH;have F5:=Blk.grownR (Blk.drew fT) fH (fun b e=>by cases e;exact hgS);have Ga:=Blk.grownR (Blk.drew go) fH (fun b e=>by cases e;omega);have My:OwnP 106 (w.heap.size+1+1) w3 (.slice An1 ns.length cn1) ns:=(OwnP.drew Hn.1).apart fH (fun b hb e=>by cases e;exact Hn.2.2 _ hb rfl);have mI:OwnW (w.heap.size+1+1) w3 (.slice An1 ns.length cn1) (.slice (some ⟨g,0,none⟩) (ls.length -1) (cl1)) ns (ls.take k++ls.drop (k+1)):=⟨My,hcut,fun b hb Hh=>Hn.2.2 b hb Hh⟩;have He:Below w.heap.size w w3:=(Below.drew Hc).grown fH (by have:=Hc.size;simpa using this) (fun b e=>by cases e;omega)
  have fG:=mI.setFar (p:=⟨w1.heap.size,1,none⟩) (by
   rintro(h|h)
   ·have:=(Hu _ (.inl h)).2
    exact absurd this (aaV _)
   ·have:=(Hu _ (.inr h)).2
    exact absurd this (aaV _)) (.slice (some ⟨g,0,none⟩) (ls.length -1) (cl1))
  have Ho:=He.setCell (p:=⟨w1.heap.size,1,none⟩) (show w.heap.size<=w1.heap.size by omega) (.slice (some ⟨g,0,none⟩) (ls.length -1) (cl1));have d1:¬w1.heap.size=w.heap.size+1:=o_
  have hO:=h_ (((fG.setLow (p:=⟨w.heap.size+1,0,none⟩) (show w.heap.size+1<w.heap.size+1+1 by omega) (.slice An1 ns.length cn1)).setLow (p:=⟨w.heap.size+1,1,none⟩) (show w.heap.size+1<w.heap.size+1+1 by omega) (.slice (some ⟨g,0,none⟩) (ls.length -1) (cl1))).mono (show w.heap.size<=_ by omega));have HB:=h_ ((Ho.setCell (p:=⟨w.heap.size+1,0,none⟩) sz_ (.slice An1 ns.length cn1)).setCell (p:=⟨w.heap.size+1,1,none⟩) sz_ (.slice (some ⟨g,0,none⟩) (ls.length -1) (cl1)));have fN:=h_ (show ls.length -1=(ls.take k++ls.drop (k+1)).length by simp;omega);obtain⟨s_0,s_1,s_f0,s_f1⟩:=F5.b2;obtain⟨r_0,r_1,r_f0,r_f1⟩:=Ga.b2;generalize List.take k ls++List.drop (k+1) ls=LL at*;generalize w1.heap.size=B1 at*;go_wp2;exact bodyPost_ret (v:= .tuple #[.agg #[.slice An1 ns.length cn1,.slice (some ⟨g,0,none⟩) (ls.length -1) (cl1)],.bool true]) (by simp[results,Tryz.results162,go_sem,r_0,r_1,s_0,s_1,d1]) rfl (zI.mk rfl rfl fN.out hO.out HB.out)
attribute [local go_sem ↓] zr zq zU zT
theorem z6P (vn vl:Value) (ns ls:List Pr) (k:Int) (w:World) (hn:RP w vn ns) (hl:RP w vl ls) (h1:ns.length<=1048576) (h2:ls.length<=1048576) (hw:hasL ns ls k=false):
  Calls Tryz.prog 162 #[.agg #[vn,vl],.int .i64 k] w (zI ns ls false w):=by
 go_enter Tryz.func162,Tryz.ntmps162
 go_wp2_with fail
 refine(qt _ _ ns ls _ (hn.below bel_) (hl.below bel_) h1 h2).mono ?_
 rintro e w1 ⟨An1,cn1,Al1,cl1,rfl,Hj,Hb⟩;have H7:=Hb.size;simp at H7
 have gd:OwnW (w.heap.size+1+1) w1 (.slice An1 ns.length cn1) (.slice Al1 ls.length cl1) ns ls:=by simpa using Hj
 have GT:Blk w1 w.heap.size 27 #[vn,vl]:=Blk.below ((Blk.newAt rfl).alloc _) Hb sz_;have H6:Blk w1 (w.heap.size+1) 27 #[.slice none 0 0,.slice none 0 0]:=Blk.below (Blk.newAt (by simp)) Hb sz_;have Ha:Below w.heap.size w w1:=bel_
 have n1:w.heap.size<w1.heap.size:=o_
 have n2:w.heap.size+1<w1.heap.size:=o_
 obtain⟨a_0,a_1⟩:=GT.c2;have hbs:Below w1.heap.size w1 (w1.alloc (.cells #[.slice An1 ns.length cn1,.slice Al1 ls.length cl1] 27)):=bel_
 have Gw:Below w.heap.size w (w1.alloc (.cells #[.slice An1 ns.length cn1,.slice Al1 ls.length cl1] 27)):=bel_
 go_wp2_with fail
 refine(Jg _ _ ns ls _ _ _ (hn.below Gw) (hl.below Gw) hw).mono ?_
 rintro e w2 ⟨rfl,Hh⟩;have gG:Below w1.heap.size w1 w2:=hbs.trans (Hh.mono hbs.size);have fT:Blk w2 w1.heap.size 27 #[.slice An1 ns.length cn1,.slice Al1 ls.length cl1]:=Blk.below (Blk.newAt rfl) Hh sz_;have go:=H6.below gG n2;have Hn:=gd.kept gG;have Hc:Below w.heap.size w w2:=Ha.trans (gG.mono Ha.size);obtain⟨s_0,s_1,s_f0,s_f1⟩:=fT.b2;obtain⟨r_0,r_1,r_f0,r_f1⟩:=go.b2;have hO:=h_ (((Hn.setLow (p:=⟨w.heap.size+1,0,none⟩) sz_ (.slice An1 ns.length cn1)).setLow (p:=⟨w.heap.size+1,1,none⟩) sz_ (.slice Al1 ls.length cl1)).mono (show w.heap.size<=_ by omega));have HB:=h_ ((Hc.setCell (p:=⟨w.heap.size+1,0,none⟩) sz_ (.slice An1 ns.length cn1)).setCell (p:=⟨w.heap.size+1,1,none⟩) sz_ (.slice Al1 ls.length cl1));generalize w1.heap.size=B1 at*;go_wp2;exact bodyPost_ret (v:= .tuple #[.agg #[.slice An1 ns.length cn1,.slice Al1 ls.length cl1],.bool false]) (by simp[results,Tryz.results162,go_sem,r_0,r_1,s_0,s_1]) rfl ⟨_,_,_,_,rfl,hO.out,HB.out⟩
theorem RP.drop {w:World} {b off n c:Nat} {l:List (Int×Int)} (h:RP w (.slice (some ⟨b,off,none⟩) n c) l) (k:Nat) (hk:k<=l.length):
  RP w (.slice (if c=k then some ⟨b,off,none⟩ else some ⟨b,off+k*2,none⟩) (l.length -k) (c -k)) (l.drop k):=by
 obtain⟨h0,A',c',hv,h1,h2,h3⟩:=h
 cases hv
 have Hm:(l.drop k).length =l.length -k:=by simp
 by_cases fM:c=k
 ·rw[aao fM]
  exact⟨qo prc 2 (fun _=>rfl) _,_,_,by rw[Hm],by omega,by omega,fun hn=>by omega⟩
 ·rw[aaq fM]
  refine⟨qo prc 2 (fun _=>rfl) _,_,_,by rw[Hm],by omega,by omega,fun hn=>?_⟩
  obtain⟨b',off',e1,e2,e3⟩:=h3 o_
  cases e1
  refine⟨b,off+k*2,rfl,e2,fun j u hu=>?_⟩
  have:=e3 (k*2+j) u (by rw[<-hu,Zv,List.getElem?_drop]);rw[<-aak] at this;exact this
theorem z6D (vn vl:Value) (ns ls:List Pr) (k:Int) (w:World) (hn:RP w vn ns) (hl:RP w vl ls) (h1:ns.length<=1048576) (h2:ls.length<=1048576) (hw:hasL ns ls k=false):
  Calls Tryz.prog 108 #[.agg #[vn,vl],.int .i64 k] w (zI ns ls false w):=by
 obtain⟨Al,cl,rfl,Hz,GM,_⟩:=hl.formI;unfold maxLen at GM;have HW:=h_ hw
 go_enter Tryz.func108,Tryz.ntmps108
 go_wp2_with fail
 refine(zR _ _ ns ls _ (hn.below bel_) (hl.below bel_) h1 h2).mono ?_
 rintro e w1 ⟨An1,cn1,Al1,cl1,rfl,Hj,Hb⟩;have H7:=Hb.size;simp at H7
 have gd:OwnW (w.heap.size+1+1) w1 (.slice An1 ns.length cn1) (.slice Al1 ls.length cl1) ns ls:=by simpa using Hj
 have GT:Blk w1 w.heap.size 27 #[vn,.slice Al ls.length cl]:=Blk.below ((Blk.newAt rfl).alloc _) Hb sz_;have H6:Blk w1 (w.heap.size+1) 27 #[.slice none 0 0,.slice none 0 0]:=Blk.below (Blk.newAt (by simp)) Hb sz_;have Ha:Below w.heap.size w w1:=bel_
 have n1:w.heap.size<w1.heap.size:=o_
 have n2:w.heap.size+1<w1.heap.size:=o_
 obtain⟨a_0,a_1⟩:=GT.c2;have hbs:Below w1.heap.size w1 (w1.alloc (.cells #[.slice An1 ns.length cn1,.slice Al1 ls.length cl1] 27)):=bel_
 have Gw:Below w.heap.size w (w1.alloc (.cells #[.slice An1 ns.length cn1,.slice Al1 ls.length cl1] 27)):=bel_
 cases hw:winB ns ls
 ·go_wp2_with fail
  refine(zH _ _ ns ls _ _ (hn.below Gw) (hl.below Gw) hw).mono ?_
  rintro e w2 ⟨rfl,Hh⟩;have gG:Below w1.heap.size w1 w2:=hbs.trans (Hh.mono hbs.size);have fT:Blk w2 w1.heap.size 27 #[.slice An1 ns.length cn1,.slice Al1 ls.length cl1]:=Blk.below (Blk.newAt rfl) Hh sz_;have go:=H6.below gG n2;have Hn:=gd.kept gG;have Hc:Below w.heap.size w w2:=Ha.trans (gG.mono Ha.size);obtain⟨s_0,s_1,s_f0,s_f1⟩:=fT.b2;obtain⟨r_0,r_1,r_f0,r_f1⟩:=go.b2;have hO:=h_ (((Hn.setLow (p:=⟨w.heap.size+1,0,none⟩) sz_ (.slice An1 ns.length cn1)).setLow (p:=⟨w.heap.size+1,1,none⟩) sz_ (.slice Al1 ls.length cl1)).mono (show w.heap.size<=_ by omega));have HB:=h_ ((Hc.setCell (p:=⟨w.heap.size+1,0,none⟩) sz_ (.slice An1 ns.length cn1)).setCell (p:=⟨w.heap.size+1,1,none⟩) sz_ (.slice Al1 ls.length cl1));generalize w1.heap.size=B1 at*;go_wp2;exact bodyPost_ret (v:= .tuple #[.agg #[.slice An1 ns.length cn1,.slice Al1 ls.length cl1],.bool false]) (by simp[results,Tryz.results108,go_sem,r_0,r_1,s_0,s_1]) rfl ⟨_,_,_,_,rfl,hO.out,HB.out⟩
 ·have i1:inB k 0 ((ls.length:Int) -1)=false:=by
   have:=HW.out;unfold hasL at this;rw[hw] at this
   simpa using this
  go_wp2_with fail
  refine(zH _ _ ns ls _ _ (hn.below Gw) (hl.below Gw) hw).mono ?_
  rintro e w2 ⟨rfl,Hh⟩;(have gV:=bcC Hh)
  have FA:=(GT.alloc (.cells #[.slice An1 ns.length cn1,.slice Al1 ls.length cl1] 27)).below Hh sz_;obtain⟨b_0,b_1⟩:=FA.c2
  go_wp2_with fail
  refine(zP _ _ _ _ _ i1).mono ?_
  rintro e w' ⟨rfl,rfl⟩;have gG:Below w1.heap.size w1 w2:=hbs.trans (Hh.mono hbs.size);have fT:Blk w2 w1.heap.size 27 #[.slice An1 ns.length cn1,.slice Al1 ls.length cl1]:=Blk.below (Blk.newAt rfl) Hh sz_;have go:=H6.below gG n2;have Hn:=gd.kept gG;have Hc:Below w.heap.size w w2:=Ha.trans (gG.mono Ha.size);obtain⟨s_0,s_1,s_f0,s_f1⟩:=fT.b2;obtain⟨r_0,r_1,r_f0,r_f1⟩:=go.b2;have hO:=h_ (((Hn.setLow (p:=⟨w.heap.size+1,0,none⟩) sz_ (.slice An1 ns.length cn1)).setLow (p:=⟨w.heap.size+1,1,none⟩) sz_ (.slice Al1 ls.length cl1)).mono (show w.heap.size<=_ by omega));have HB:=h_ ((Hc.setCell (p:=⟨w.heap.size+1,0,none⟩) sz_ (.slice An1 ns.length cn1)).setCell (p:=⟨w.heap.size+1,1,none⟩) sz_ (.slice Al1 ls.length cl1));generalize w1.heap.size=B1 at*;go_wp2;exact bodyPost_ret (v:= .tuple #[.agg #[.slice An1 ns.length cn1,.slice Al1 ls.length cl1],.bool false]) (by simp[results,Tryz.results108,go_sem,r_0,r_1,s_0,s_1]) rfl ⟨_,_,_,_,rfl,hO.out,HB.out⟩
attribute [local go_sem ↓] zr zq zU zT
theorem Xw (vn:Value) (ns ls T D:List Pr) (b off k:Nat) (w:World) (hn:RP w vn ns) (hl:RP w (.slice (some ⟨b,off,none⟩) ls.length (k+1)) ls) (h1:ns.length<=1048576) (h2:ls.length<=1048576) (hk:k<ls.length)
  (hw:winB ns ls=true) (Hz:ls.length<=k+1) (hT:RP w (.slice (some ⟨b,off,none⟩) k (k+1)) T) (Ch:Hid (T.length=k))
  (hD:RP w (.slice (some ⟨b,off,none⟩) 0 0) D) (NT:Hid (D.length=0)):
  Calls Tryz.prog 108 #[.agg #[vn,.slice (some ⟨b,off,none⟩) ls.length (k+1)],.int .i64 k] w (zI ns (T++D) true w):=by
 obtain⟨j0,hj,jz0,jz1,jz2⟩:=info_parts jd;have i1:inB (k:Int) 0 ((ls.length:Int) -1)=true:=zc.2 o_
 go_enter Tryz.func108,Tryz.ntmps108
 go_wp2_with fail
 refine(zR _ _ ns ls _ (hn.below bel_) (hl.below bel_) h1 h2).mono ?_
 rintro e w1 ⟨An1,cn1,Al1,cl1,rfl,Hj,Hb⟩;have H7:=Hb.size;simp at H7
 have gd:OwnW (w.heap.size+1+1) w1 (.slice An1 ns.length cn1) (.slice Al1 ls.length cl1) ns ls:=by simpa using Hj
 have Hu:=gd.1.lt;have GT:Blk w1 w.heap.size 27 #[vn,.slice (some ⟨b,off,none⟩) ls.length (k+1)]:=Blk.below ((Blk.newAt rfl).alloc _) Hb sz_;have H6:Blk w1 (w.heap.size+1) 27 #[.slice none 0 0,.slice none 0 0]:=Blk.below (Blk.newAt (by simp)) Hb sz_;have Ha:Below w.heap.size w w1:=bel_
 have n1:w.heap.size<w1.heap.size:=o_
 have n2:w.heap.size+1<w1.heap.size:=o_
 obtain⟨a_0,a_1⟩:=GT.c2;have hbs:Below w1.heap.size w1 (w1.alloc (.cells #[.slice An1 ns.length cn1,.slice Al1 ls.length cl1] 27)):=bel_
 have Gw:Below w.heap.size w (w1.alloc (.cells #[.slice An1 ns.length cn1,.slice Al1 ls.length cl1] 27)):=bel_
 go_wp2_with fail
 refine(zH _ _ ns ls _ _ (hn.below Gw) (hl.below Gw) hw).mono ?_
 rintro e w2 ⟨rfl,Hh⟩;have Gp:=Hh.size;(try simp at Gp);(try have Gc:=p0_ w w2);(try have Gd:=p1_ w w2);(try have fu:=p2_ w w2)
 have FA:=(GT.alloc (.cells #[.slice An1 ns.length cn1,.slice Al1 ls.length cl1] 27)).below Hh sz_;have gG:Below w1.heap.size w1 w2:=hbs.trans (Hh.mono hbs.size);have fT:Blk w2 w1.heap.size 27 #[.slice An1 ns.length cn1,.slice Al1 ls.length cl1]:=Blk.below (Blk.newAt rfl) Hh sz_;have go:=H6.below gG n2;have uq:=gd.1.kept gG;have Hc:Below w.heap.size w w2:=Ha.trans (gG.mono Ha.size);have n3:w1.heap.size<w2.heap.size:=fT.lt;obtain⟨a_0,a_1⟩:=FA.c2
 go_wp2_with fail
 refine(zP _ _ _ _ _ i1).mono ?_
 rintro e w' ⟨rfl,rfl⟩;have c1:(k:Int)<=((k+1):Int):=o_
 have c2:(0:Int)<=(k:Int):=o_
 have c3:(k:Int)+1<=(ls.length:Int):=o_
 have c4':(ls.length:Int)<=(k:Int)+1:=o_
 have c5:(0:Int)<=(k:Int)+1:=o_
 have c6:((k:Int)+1).toNat =k+1:=o_
 have Bm:IntKind.i64.wrap ((k:Int)+1)=(k:Int)+1:=aaP _ o_;have bZ:=hT.below Hc;have hD2:=hD.below Hc;have Wb:=h_ bZ;have HD2:=h_ hD2;obtain⟨s_0,s_1,s_f0,s_f1⟩:=fT.b2;have d1:¬w1.heap.size=w.heap.size+1:=o_
 have d2:¬w1.heap.size=w.heap.size:=o_
 go_wp2_with fail
 go_region_held3 (fun w'=>w'.cell? ⟨w.heap.size,0,none⟩=some vn/\w'.cell? ⟨w.heap.size,1,none⟩=some (.slice (some ⟨b,off,none⟩) ls.length (k+1)))
  (go_keep)
  (first|(refine zk rfl _ _ _ rfl w2.heap.size 108 j0 Tryz.underlying25 hj jz0 jz1 jz2 (.slice (some ⟨w2.heap.size,0,none⟩) 0 0) (.slice (some ⟨b,off,none⟩) k (k+1)) [] T rfl rfl (OwnP.drew (OwnP.made rfl (aaa _))) (RP.below Wb.out bel_) (by simp;have:=Ch.out;omega) sz_ ?_;intro A3 c3' w3 Hq gq Fa;(have Hg:=jT (B:=w2.heap.size) gq sz_ sz_);(have GK:=fun (b o:Nat) (h:b<w2.heap.size)=>Hg.cell (p:=⟨b,o,none⟩) h);(have Mz:=fun (b o:Nat) (h:b<w2.heap.size)=>Hg.frozen (p:=⟨b,o,none⟩) h);(have fC:=Hg.size);(try simp at fC);(have nD:Below w2.heap.size w2 w3:=by refine Below.trans ?_ Hg;exact bel_);(have C6:=h_ Hq);clear gq Fa Hq)|(refine zk rfl _ _ _ rfl w2.heap.size 108 j0 Tryz.underlying25 hj jz0 jz1 jz2 (.slice A3 T.length c3') (.slice (some ⟨b,off,none⟩) 0 0) T D rfl rfl C6.out (RP.below HD2.out nD) (by have:=Ch.out;have:=NT.out;omega) sz_ ?_;intro A4 c4' w4 gz Gf C2;(have mJ:Below w2.heap.size w3 w4:=(aaj _ _).grown Gf sz_ (fun k hk=>(C6.out.lt k hk).1));(have cf:=fun (b o:Nat) (h:b<w2.heap.size)=>mJ.cell (p:=⟨b,o,none⟩) h);(have hf4:=fun (b o:Nat) (h:b<w2.heap.size)=>mJ.frozen (p:=⟨b,o,none⟩) h);(have F6:=h_ gz);clear Gf C2 gz))
 have gz:OwnP 108 w2.heap.size w4 (.slice A4 (T++D).length c4') (T++D):=F6.out;rw[aaW] at gz;have b7:Below w2.heap.size w2 w4:=nD.trans mJ;have cI:=uq.kept b7;have Ho:Below w.heap.size w w4:=Hc.trans (b7.mono Hc.size);have GY:=go.below b7 go.lt;have mp:=fT.below b7 fT.lt
 have fG:OwnW (w.heap.size+1+1) w4 (.slice An1 ns.length cn1) (.slice A4 (T.length+D.length) c4') ns (T++D):=
  ⟨cI,gz.mono o_,fun k hk gU=>by have:=(Hu k hk).2;have:=(gz.lt k gU).1;omega⟩
 have Fj:=fG.setFar (p:=⟨w1.heap.size,1,none⟩) (by
  rintro(h|h)
  ·exact absurd (Hu _ h).2 (aaV _)
  ·have:=(gz.lt _ h).1
   have h':w2.heap.size<=w1.heap.size:=this;omega) (.slice A4 (T.length+D.length) c4')
 have H8:=Ho.setCell (p:=⟨w1.heap.size,1,none⟩) (show w.heap.size<=w1.heap.size by omega) (.slice A4 (T.length+D.length) c4');have Mx:Blk (w4.setCell ⟨w1.heap.size,1,none⟩ (.slice A4 (T.length+D.length) c4')) w1.heap.size 27 #[.slice An1 ns.length cn1,.slice A4 (T.length+D.length) c4']:=mp.set_ 1 _;have fJ:=GY.far (p:=⟨w1.heap.size,1,none⟩) (show ¬w.heap.size+1=w1.heap.size by omega) (.slice A4 (T.length+D.length) c4');have hO:=h_ (((Fj.setLow (p:=⟨w.heap.size+1,0,none⟩) (show w.heap.size+1<w.heap.size+1+1 by omega) (.slice An1 ns.length cn1)).setLow (p:=⟨w.heap.size+1,1,none⟩) (show w.heap.size+1<w.heap.size+1+1 by omega) (.slice A4 (T.length+D.length) c4')).mono (show w.heap.size<=_ by omega));have HB:=h_ ((H8.setCell (p:=⟨w.heap.size+1,0,none⟩) sz_ (.slice An1 ns.length cn1)).setCell (p:=⟨w.heap.size+1,1,none⟩) sz_ (.slice A4 (T.length+D.length) c4'));have fN:=h_ (show T.length+D.length=(T++D).length by simp);obtain⟨s_0,s_1,s_f0,s_f1⟩:=Mx.b2;obtain⟨r_0,r_1,r_f0,r_f1⟩:=fJ.b2;generalize w4.setCell ⟨w1.heap.size,1,none⟩ (.slice A4 (T.length+D.length) c4')=w5 at*;generalize w1.heap.size=B1 at*;go_wp2;exact bodyPost_ret (v:= .tuple #[.agg #[.slice An1 ns.length cn1,.slice A4 (T.length+D.length) c4'],.bool true]) (by simp[results,Tryz.results108,go_sem,r_0,r_1,s_0,s_1,d1]) rfl (zI.mk rfl rfl fN.out hO.out HB.out)
theorem XB (vn:Value) (ns ls T D:List Pr) (b off cl k:Nat) (w:World) (hn:RP w vn ns) (hl:RP w (.slice (some ⟨b,off,none⟩) ls.length cl) ls) (h1:ns.length<=1048576) (h2:ls.length<=1048576) (hk:k<ls.length)
  (hw:winB ns ls=true) (Hz:ls.length<=cl) (fM:¬cl=k+1) (hT:RP w (.slice (some ⟨b,off,none⟩) k cl) T) (Ch:Hid (T.length=k))
  (hD:RP w (.slice (some ⟨b,off+(k+1)*2,none⟩) (ls.length -(k+1)) (cl -(k+1))) D) (NT:Hid (D.length=ls.length -(k+1))):
  Calls Tryz.prog 108 #[.agg #[vn,.slice (some ⟨b,off,none⟩) ls.length cl],.int .i64 k] w (zI ns (T++D) true w):=by
 obtain⟨j0,hj,jz0,jz1,jz2⟩:=info_parts jd;have i1:inB (k:Int) 0 ((ls.length:Int) -1)=true:=zc.2 o_
 go_enter Tryz.func108,Tryz.ntmps108
 go_wp2_with fail
 refine(zR _ _ ns ls _ (hn.below bel_) (hl.below bel_) h1 h2).mono ?_
 rintro e w1 ⟨An1,cn1,Al1,cl1,rfl,Hj,Hb⟩;have H7:=Hb.size;simp at H7
 have gd:OwnW (w.heap.size+1+1) w1 (.slice An1 ns.length cn1) (.slice Al1 ls.length cl1) ns ls:=by simpa using Hj
 have Hu:=gd.1.lt;have GT:Blk w1 w.heap.size 27 #[vn,.slice (some ⟨b,off,none⟩) ls.length cl]:=Blk.below ((Blk.newAt rfl).alloc _) Hb sz_;have H6:Blk w1 (w.heap.size+1) 27 #[.slice none 0 0,.slice none 0 0]:=Blk.below (Blk.newAt (by simp)) Hb sz_;have Ha:Below w.heap.size w w1:=bel_
 have n1:w.heap.size<w1.heap.size:=o_
 have n2:w.heap.size+1<w1.heap.size:=o_
 obtain⟨a_0,a_1⟩:=GT.c2;have hbs:Below w1.heap.size w1 (w1.alloc (.cells #[.slice An1 ns.length cn1,.slice Al1 ls.length cl1] 27)):=bel_
 have Gw:Below w.heap.size w (w1.alloc (.cells #[.slice An1 ns.length cn1,.slice Al1 ls.length cl1] 27)):=bel_
 go_wp2_with fail
 refine(zH _ _ ns ls _ _ (hn.below Gw) (hl.below Gw) hw).mono ?_
 rintro e w2 ⟨rfl,Hh⟩;have Gp:=Hh.size;(try simp at Gp);(try have Gc:=p0_ w w2);(try have Gd:=p1_ w w2);(try have fu:=p2_ w w2)
 have FA:=(GT.alloc (.cells #[.slice An1 ns.length cn1,.slice Al1 ls.length cl1] 27)).below Hh sz_;have gG:Below w1.heap.size w1 w2:=hbs.trans (Hh.mono hbs.size);have fT:Blk w2 w1.heap.size 27 #[.slice An1 ns.length cn1,.slice Al1 ls.length cl1]:=Blk.below (Blk.newAt rfl) Hh sz_;have go:=H6.below gG n2;have uq:=gd.1.kept gG;have Hc:Below w.heap.size w w2:=Ha.trans (gG.mono Ha.size);have n3:w1.heap.size<w2.heap.size:=fT.lt;obtain⟨a_0,a_1⟩:=FA.c2
 go_wp2_with fail
 refine(zP _ _ _ _ _ i1).mono ?_
 rintro e w' ⟨rfl,rfl⟩;have c1:(k:Int)<=(cl:Int):=o_
 have c2:(0:Int)<=(k:Int):=o_
 have c3:(k:Int)+1<=(ls.length:Int):=o_
 have c5:(0:Int)<=(k:Int)+1:=o_
 have c6:((k:Int)+1).toNat =k+1:=o_
 have Bm:IntKind.i64.wrap ((k:Int)+1)=(k:Int)+1:=aaP _ o_;have bZ:=hT.below Hc;have hD2:=hD.below Hc;have Wb:=h_ bZ;have HD2:=h_ hD2;obtain⟨s_0,s_1,s_f0,s_f1⟩:=fT.b2;have d1:¬w1.heap.size=w.heap.size+1:=o_
 have d2:¬w1.heap.size=w.heap.size:=o_
 go_wp2_with fail
 go_region_held3 (fun w'=>w'.cell? ⟨w.heap.size,0,none⟩=some vn/\w'.cell? ⟨w.heap.size,1,none⟩=some (.slice (some ⟨b,off,none⟩) ls.length (cl)))
  (go_keep)
  (first|(refine zk rfl _ _ _ rfl w2.heap.size 108 j0 Tryz.underlying25 hj jz0 jz1 jz2 (.slice (some ⟨w2.heap.size,0,none⟩) 0 0) (.slice (some ⟨b,off,none⟩) k (cl)) [] T rfl rfl (OwnP.drew (OwnP.made rfl (aaa _))) (RP.below Wb.out bel_) (by simp;have:=Ch.out;omega) sz_ ?_;intro A3 c3' w3 Hq gq Fa;(have Hg:=jT (B:=w2.heap.size) gq sz_ sz_);(have GK:=fun (b o:Nat) (h:b<w2.heap.size)=>Hg.cell (p:=⟨b,o,none⟩) h);(have Mz:=fun (b o:Nat) (h:b<w2.heap.size)=>Hg.frozen (p:=⟨b,o,none⟩) h);(have fC:=Hg.size);(try simp at fC);(have nD:Below w2.heap.size w2 w3:=by refine Below.trans ?_ Hg;exact bel_);(have C6:=h_ Hq);clear gq Fa Hq)|(refine zk rfl _ _ _ rfl w2.heap.size 108 j0 Tryz.underlying25 hj jz0 jz1 jz2 (.slice A3 T.length c3') (.slice (some ⟨b,off+(k+1)*2,none⟩) (ls.length -(k+1)) (cl -(k+1))) T D rfl rfl C6.out (RP.below HD2.out nD) (by have:=Ch.out;have:=NT.out;omega) sz_ ?_;intro A4 c4' w4 gz Gf C2;(have mJ:Below w2.heap.size w3 w4:=(aaj _ _).grown Gf sz_ (fun k hk=>(C6.out.lt k hk).1));(have cf:=fun (b o:Nat) (h:b<w2.heap.size)=>mJ.cell (p:=⟨b,o,none⟩) h);(have hf4:=fun (b o:Nat) (h:b<w2.heap.size)=>mJ.frozen (p:=⟨b,o,none⟩) h);(have F6:=h_ gz);clear Gf C2 gz))
 have gz:OwnP 108 w2.heap.size w4 (.slice A4 (T++D).length c4') (T++D):=F6.out;rw[aaW] at gz;have b7:Below w2.heap.size w2 w4:=nD.trans mJ;have cI:=uq.kept b7;have Ho:Below w.heap.size w w4:=Hc.trans (b7.mono Hc.size);have GY:=go.below b7 go.lt;have mp:=fT.below b7 fT.lt
 have fG:OwnW (w.heap.size+1+1) w4 (.slice An1 ns.length cn1) (.slice A4 (T.length+D.length) c4') ns (T++D):=
  ⟨cI,gz.mono o_,fun k hk gU=>by have:=(Hu k hk).2;have:=(gz.lt k gU).1;omega⟩
 have Fj:=fG.setFar (p:=⟨w1.heap.size,1,none⟩) (by
  rintro(h|h)
  ·exact absurd (Hu _ h).2 (aaV _)
  ·have:=(gz.lt _ h).1
   have h':w2.heap.size<=w1.heap.size:=this;omega) (.slice A4 (T.length+D.length) c4')
 have H8:=Ho.setCell (p:=⟨w1.heap.size,1,none⟩) (show w.heap.size<=w1.heap.size by omega) (.slice A4 (T.length+D.length) c4');have Mx:Blk (w4.setCell ⟨w1.heap.size,1,none⟩ (.slice A4 (T.length+D.length) c4')) w1.heap.size 27 #[.slice An1 ns.length cn1,.slice A4 (T.length+D.length) c4']:=mp.set_ 1 _;have fJ:=GY.far (p:=⟨w1.heap.size,1,none⟩) (show ¬w.heap.size+1=w1.heap.size by omega) (.slice A4 (T.length+D.length) c4');have hO:=h_ (((Fj.setLow (p:=⟨w.heap.size+1,0,none⟩) (show w.heap.size+1<w.heap.size+1+1 by omega) (.slice An1 ns.length cn1)).setLow (p:=⟨w.heap.size+1,1,none⟩) (show w.heap.size+1<w.heap.size+1+1 by omega) (.slice A4 (T.length+D.length) c4')).mono (show w.heap.size<=_ by omega));have HB:=h_ ((H8.setCell (p:=⟨w.heap.size+1,0,none⟩) sz_ (.slice An1 ns.length cn1)).setCell (p:=⟨w.heap.size+1,1,none⟩) sz_ (.slice A4 (T.length+D.length) c4'));have fN:=h_ (show T.length+D.length=(T++D).length by simp);obtain⟨s_0,s_1,s_f0,s_f1⟩:=Mx.b2;obtain⟨r_0,r_1,r_f0,r_f1⟩:=fJ.b2;generalize w4.setCell ⟨w1.heap.size,1,none⟩ (.slice A4 (T.length+D.length) c4')=w5 at*;generalize w1.heap.size=B1 at*;go_wp2;exact bodyPost_ret (v:= .tuple #[.agg #[.slice An1 ns.length cn1,.slice A4 (T.length+D.length) c4'],.bool true]) (by simp[results,Tryz.results108,go_sem,r_0,r_1,s_0,s_1,d1]) rfl (zI.mk rfl rfl fN.out hO.out HB.out)
theorem JH {ns ls:List Pr} {k:Int} (h:hasL ns ls k=true):winB ns ls=true/\∃m:Nat,k=(m:Int)/\m<ls.length:=by
 unfold hasL at h;rw[aaG] at h;have:=zc.1 h.2;exact⟨h.1,k.toNat,by omega,by omega⟩
theorem z5K (vn vl:Value) (ns ls:List Pr) (k:Int) (w:World) (hn:RP w vn ns) (hl:RP w vl ls) (h1:ns.length<=1048576) (h2:ls.length<=1048576):
  Calls Tryz.prog 162 #[.agg #[vn,vl],.int .i64 k] w (zI ns (jQ ns ls k) (hasL ns ls k) w):=by
 unfold jQ
 cases hw:hasL ns ls k
 ·exact z6P vn vl ns ls k w hn hl h1 h2 hw
 ·obtain⟨_,m,rfl,hm⟩:=JH hw
  have:=z5V vn vl ns ls m w hn hl h1 h2 hm hw
  simpa using this
theorem z0q (vn vl:Value) (ns ls:List Pr) (k:Int) (w:World) (hn:RP w vn ns) (hl:RP w vl ls) (h1:ns.length<=1048576) (h2:ls.length<=1048576):
  Calls Tryz.prog 108 #[.agg #[vn,vl],.int .i64 k] w (zI ns (jQ ns ls k) (hasL ns ls k) w):=by
 unfold jQ
 cases hw:hasL ns ls k
 ·exact z6D vn vl ns ls k w hn hl h1 h2 hw
 ·obtain⟨Hk,m,rfl,hm⟩:=JH hw
  obtain⟨Al,cl,rfl,Hz,_,hcell⟩:=hl.form;obtain⟨b,off,rfl,_⟩:=hcell o_;have e:ls.take (m:Int).toNat ++ls.drop ((m:Int).toNat +1)=ls.take m++ls.drop (m+1):=by simp
  rw[aao rfl,e];have hT:=RP.take hl m o_;have hD:=RP.drop hl (m+1) o_;have Ch:Hid ((ls.take m).length =m):=h_ (by simp;omega)
  by_cases fM:cl=m+1
  ·subst fM
   rw[aao rfl] at hD;have e0:ls.length -(m+1)=0:=o_
   rw[e0,aae] at hD;exact Xw vn ns ls _ _ b off m w hn hl h1 h2 hm Hk Hz hT Ch hD (h_ (by simp;omega))
  ·rw[aaq fM] at hD
   exact XB vn ns ls _ _ b off cl m w hn hl h1 h2 hm Hk Hz fM hT Ch hD (h_ (by simp))
end Go.Proofs.YtnjcpljhmhdhkaaGreat
