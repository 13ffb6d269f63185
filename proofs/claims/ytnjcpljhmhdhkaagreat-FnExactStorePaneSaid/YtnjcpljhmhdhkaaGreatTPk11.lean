/- part 11 -/
import Derived.Test.YtnjcpljhmhdhkaaGreatTPk10
set_option linter.unusedSimpArgs false
set_option linter.unusedVariables false
set_option maxRecDepth 100000
set_option maxHeartbeats 8000000
namespace Go.Proofs.YtnjcpljhmhdhkaaGreat
open Go.RowKit
attribute [local go_sem ↓] zu zw zY zZ
theorem z5z (vn vl:Value) (ns ls:List Pr) (a b:Int) (w:World) (hn:RP w vn ns) (hl:RP w vl ls) (h1:ns.length≤1048576) (h2:ls.length≤1048576) (hw:winB ns ls=false):
  Calls Tryz.prog 107 #[.agg #[vn,vl],.int .i64 a,.int .i64 b] w (zC ns ls false w):=by
 obtain⟨j0,hj,jz0,jz1,jz2⟩:=info_parts qC
 go_enter Tryz.func107,Tryz.ntmps107
 go_wp2_with fail
 refine(qg _ _ ns ls _ (hn.below (by exact bel_)) (hl.below (by exact bel_)) h1 h2).mono ?_
 rintro e w3 ⟨An3,cn3,Al3,cl3,rfl,ho3',hb3⟩;have hz3:=hb3.size;simp at hz3
 have ho3:OwnW (w.heap.size+1+1) w3 (.slice An3 ns.length cn3) (.slice Al3 ls.length cl3) ns ls:=by simpa using ho3'
 have hlt3:=ho3.lt;have hA3:Blk w3 w.heap.size 27 #[vn,vl]:=Blk.below ((Blk.newAt rfl).alloc _) hb3 sz_;have hR3:Blk w3 (w.heap.size+1) 27 #[.slice none 0 0,.slice none 0 0]:=Blk.below (Blk.newAt (by simp)) hb3 sz_;have hbw3:Below w.heap.size w w3:=by exact bel_
 clear hb3 ho3'
 go_wp2_with (at_builtin;refine zg rfl _ _ _ rfl (w.heap.size+1+1) 108 j0 Tryz.underlying25 hj jz0 jz1 jz2 (.slice Al3 ls.length cl3) _ ls [(mn2 a b,mx2 a b)] rfl rfl ((ho3.2.1.alloc _).alloc _) (qR (by simp) rfl rfl rfl (by simp[maxLen])) (by simp;omega) (by simp;omega) ?_)
 intro A4 c4 w4 ho4 hg4 ha4;have hz4:=hg4.size;simp at hz4
 have hrow:∀k,(Value.slice Al3 ls.length cl3).ownBlock =some k→w.heap.size+1+1≤k∧k<w3.heap.size:=fun k hk=>hlt3 k (.inr hk)
 have hA4:=((hA3.alloc (.cells #[.slice An3 ns.length cn3,.slice Al3 ls.length cl3] 27)).alloc _).grownR hg4 (fun k hk=>by have:=(hrow k hk).1;omega);have hR4:=((hR3.alloc (.cells #[.slice An3 ns.length cn3,.slice Al3 ls.length cl3] 27)).alloc _).grownR hg4 (fun k hk=>by have:=(hrow k hk).1;omega);have hT4:Blk w4 w3.heap.size 27 #[.slice An3 ns.length cn3,.slice Al3 ls.length cl3]:=((Blk.newAt rfl).alloc _).grownR hg4 (fun k hk=>by have:=(hrow k hk).2;omega);have hon4:=((ho3.1.alloc (.cells #[.slice An3 ns.length cn3,.slice Al3 ls.length cl3] 27)).alloc _).apart hg4 (fun k hk hk2=>ho3.2.2 k hk hk2)
 have hnew:∀k,(Value.slice A4 (ls.length+1) c4).ownBlock =some k→(w.heap.size+1+1≤k∧k<w3.heap.size)∨k=w3.heap.size+1+1:=by
  intro k hk
  rcases y7 ha4 hk with h|h
  ·exact .inl (hrow k h)
  ·exact .inr (by simpa using h)
 have hap4:∀k,(Value.slice An3 ns.length cn3).ownBlock =some k→(Value.slice A4 (ls.length+1) c4).ownBlock =some k→False:=by
  intro k hk hk2
  rcases y7 ha4 hk2 with h|h
  ·exact ho3.2.2 k hk h
  ·have h':k=w3.heap.size+1+1:=by simpa using h
   have:=(hlt3 k (.inl hk)).2;omega
 have hoW4:OwnW (w.heap.size+1+1) w4 (.slice An3 ns.length cn3) (.slice A4 (ls.length+1) c4) ns (ls++[(mn2 a b,mx2 a b)]):=⟨hon4,ho4,hap4⟩;have hbw4:Below w.heap.size w w4:=((hbw3.alloc (by omega) _).alloc sz_ _).grown hg4 sz_ (fun k hk=>by have:=(hrow k hk).1;omega)
 have hoW5:=hoW4.setFar (p:=⟨w3.heap.size,1,none⟩) (by
  rintro(h|h)
  ·have:=(hlt3 _ (.inl h)).2
   exact absurd this (Nat.lt_irrefl _)
  ·rcases hnew _ h with h'|h'
   ·exact absurd h'.2 (Nat.lt_irrefl _)
   ·have h'':w3.heap.size=w3.heap.size+1+1:=h'
    omega) (.slice A4 (ls.length+1) c4)
 have hT5:Blk (w4.setCell ⟨w3.heap.size,1,none⟩ (.slice A4 (ls.length+1) c4)) w3.heap.size 27 #[.slice An3 ns.length cn3,.slice A4 (ls.length+1) c4]:=hT4.set_ 1 _;have hA5:=hA4.far (p:=⟨w3.heap.size,1,none⟩) (show ¬w.heap.size=w3.heap.size by omega) (.slice A4 (ls.length+1) c4);have hR5:=hR4.far (p:=⟨w3.heap.size,1,none⟩) (show ¬w.heap.size+1=w3.heap.size by omega) (.slice A4 (ls.length+1) c4);have hbw5:Below w.heap.size w (w4.setCell ⟨w3.heap.size,1,none⟩ (.slice A4 (ls.length+1) c4)):=hbw4.setCell (p:=⟨w3.heap.size,1,none⟩) (show w.heap.size≤w3.heap.size by omega) _;obtain⟨t_0,t_1,t_f0,t_f1⟩:=hT4.b2;clear hg4 ha4 ho4 hon4 hap4 hnew hoW4 hbw4 hR4 hR3 hA4 hA3 ho3 hbw3;have hsz5:(w4.setCell ⟨w3.heap.size,1,none⟩ (.slice A4 (ls.length+1) c4)).heap.size =w4.heap.size:=by simp[World.setCell]
 have hlen:(ls++[(mn2 a b,mx2 a b)]).length =ls.length+1:=by simp
 have hnl:=hA5.cell 0;have hnl1:=hA5.cell 1;simp only[List.getElem?_toArray,List.getElem?_cons_succ,List.getElem?_cons_zero] at hnl hnl1
 generalize hL:ls++[(mn2 a b,mx2 a b)]=LL at*
 go_wp2_with fail
 refine(zE _ _ ns ls _ _ (hn.below hbw5) (hl.below hbw5) hw).mono ?_
 rintro e w6 ⟨rfl,hb6⟩;have hz6:=hb6.size;have hA6:=hA5.below hb6 hA5.lt;have hR6:=hR5.below hb6 hR5.lt;have hT6:=hT5.below hb6 hT5.lt;have hoW6:=hoW5.kept hb6;have hbw6:Below w.heap.size w w6:=hbw5.trans (hb6.mono hbw5.size);rw[hsz5] at hz6;clear hb6 hoW5 hbw5 hA5 hR5 hT5 hnl hnl1 t_0 t_1 t_f0 t_f1 hT4 hsz5;obtain⟨a_0,a_1⟩:=hA6.c2
 go_wp2_with fail
 refine(qg _ _ ns ls _ (hn.below hbw6) (hl.below hbw6) h1 h2).mono ?_
 rintro e w8 ⟨An8,cn8,Al8,cl8,rfl,ho8,hb8⟩;have hz8:=hb8.size;have hR8:=hR6.below hb8 hR6.lt;have hbw8:Below w.heap.size w w8:=hbw6.trans (hb8.mono hbw6.size);have q1:w.heap.size+1<w6.heap.size:=hR6.lt;clear hb8 a_0 a_1 hA6 hR6 hT6 hoW6 hbw6;obtain⟨r_0,r_1,r_f0,r_f1⟩:=hR8.b2;have hO:=Lib.hid (((ho8.setLow (p:=⟨w.heap.size+1,0,none⟩) q1 (.slice An8 ns.length cn8)).setLow (p:=⟨w.heap.size+1,1,none⟩) q1 (.slice Al8 ls.length cl8)).mono (show w.heap.size≤_ by omega));have HB:=Lib.hid ((hbw8.setCell (p:=⟨w.heap.size+1,0,none⟩) sz_ (.slice An8 ns.length cn8)).setCell (p:=⟨w.heap.size+1,1,none⟩) sz_ (.slice Al8 ls.length cl8));clear ho8 hbw8 hR8;go_wp2;exact bodyPost_ret (v:= .tuple #[.agg #[.slice An8 ns.length cn8,.slice Al8 ls.length cl8],.bool false]) (by simp[results,Tryz.results107,go_sem,r_0,r_1]) rfl (zC.mk rfl rfl rfl hO.out HB.out)
theorem Zk (vn vl:Value) (ns ls:List Pr) (a b:Int) (w:World) (hn:RP w vn ns) (hl:RP w vl ls) (h1:ns.length≤1048576) (h2:ls.length≤1048576) (hw:winB ns ls=true) (hE:winB ns (ls++[(mn2 a b,mx2 a b)])=false):
  Calls Tryz.prog 107 #[.agg #[vn,vl],.int .i64 a,.int .i64 b] w (zC ns ls false w):=by
 obtain⟨j0,hj,jz0,jz1,jz2⟩:=info_parts qC
 go_enter Tryz.func107,Tryz.ntmps107
 go_wp2_with fail
 refine(qg _ _ ns ls _ (hn.below (by exact bel_)) (hl.below (by exact bel_)) h1 h2).mono ?_
 rintro e w3 ⟨An3,cn3,Al3,cl3,rfl,ho3',hb3⟩;have hz3:=hb3.size;simp at hz3
 have ho3:OwnW (w.heap.size+1+1) w3 (.slice An3 ns.length cn3) (.slice Al3 ls.length cl3) ns ls:=by simpa using ho3'
 have hlt3:=ho3.lt;have hA3:Blk w3 w.heap.size 27 #[vn,vl]:=Blk.below ((Blk.newAt rfl).alloc _) hb3 sz_;have hR3:Blk w3 (w.heap.size+1) 27 #[.slice none 0 0,.slice none 0 0]:=Blk.below (Blk.newAt (by simp)) hb3 sz_;have hbw3:Below w.heap.size w w3:=by exact bel_
 clear hb3 ho3'
 go_wp2_with (at_builtin;refine zg rfl _ _ _ rfl (w.heap.size+1+1) 108 j0 Tryz.underlying25 hj jz0 jz1 jz2 (.slice Al3 ls.length cl3) _ ls [(mn2 a b,mx2 a b)] rfl rfl ((ho3.2.1.alloc _).alloc _) (qR (by simp) rfl rfl rfl (by simp[maxLen])) (by simp;omega) (by simp;omega) ?_)
 intro A4 c4 w4 ho4 hg4 ha4;have hz4:=hg4.size;simp at hz4
 have hrow:∀k,(Value.slice Al3 ls.length cl3).ownBlock =some k→w.heap.size+1+1≤k∧k<w3.heap.size:=fun k hk=>hlt3 k (.inr hk)
 have hA4:=((hA3.alloc (.cells #[.slice An3 ns.length cn3,.slice Al3 ls.length cl3] 27)).alloc _).grownR hg4 (fun k hk=>by have:=(hrow k hk).1;omega);have hR4:=((hR3.alloc (.cells #[.slice An3 ns.length cn3,.slice Al3 ls.length cl3] 27)).alloc _).grownR hg4 (fun k hk=>by have:=(hrow k hk).1;omega);have hT4:Blk w4 w3.heap.size 27 #[.slice An3 ns.length cn3,.slice Al3 ls.length cl3]:=((Blk.newAt rfl).alloc _).grownR hg4 (fun k hk=>by have:=(hrow k hk).2;omega);have hon4:=((ho3.1.alloc (.cells #[.slice An3 ns.length cn3,.slice Al3 ls.length cl3] 27)).alloc _).apart hg4 (fun k hk hk2=>ho3.2.2 k hk hk2)
 have hnew:∀k,(Value.slice A4 (ls.length+1) c4).ownBlock =some k→(w.heap.size+1+1≤k∧k<w3.heap.size)∨k=w3.heap.size+1+1:=by
  intro k hk
  rcases y7 ha4 hk with h|h
  ·exact .inl (hrow k h)
  ·exact .inr (by simpa using h)
 have hap4:∀k,(Value.slice An3 ns.length cn3).ownBlock =some k→(Value.slice A4 (ls.length+1) c4).ownBlock =some k→False:=by
  intro k hk hk2
  rcases y7 ha4 hk2 with h|h
  ·exact ho3.2.2 k hk h
  ·have h':k=w3.heap.size+1+1:=by simpa using h
   have:=(hlt3 k (.inl hk)).2;omega
 have hoW4:OwnW (w.heap.size+1+1) w4 (.slice An3 ns.length cn3) (.slice A4 (ls.length+1) c4) ns (ls++[(mn2 a b,mx2 a b)]):=⟨hon4,ho4,hap4⟩;have hbw4:Below w.heap.size w w4:=((hbw3.alloc (by omega) _).alloc sz_ _).grown hg4 sz_ (fun k hk=>by have:=(hrow k hk).1;omega)
 have hoW5:=hoW4.setFar (p:=⟨w3.heap.size,1,none⟩) (by
  rintro(h|h)
  ·have:=(hlt3 _ (.inl h)).2
   exact absurd this (Nat.lt_irrefl _)
  ·rcases hnew _ h with h'|h'
   ·exact absurd h'.2 (Nat.lt_irrefl _)
   ·have h'':w3.heap.size=w3.heap.size+1+1:=h'
    omega) (.slice A4 (ls.length+1) c4)
 have hT5:Blk (w4.setCell ⟨w3.heap.size,1,none⟩ (.slice A4 (ls.length+1) c4)) w3.heap.size 27 #[.slice An3 ns.length cn3,.slice A4 (ls.length+1) c4]:=hT4.set_ 1 _;have hA5:=hA4.far (p:=⟨w3.heap.size,1,none⟩) (show ¬w.heap.size=w3.heap.size by omega) (.slice A4 (ls.length+1) c4);have hR5:=hR4.far (p:=⟨w3.heap.size,1,none⟩) (show ¬w.heap.size+1=w3.heap.size by omega) (.slice A4 (ls.length+1) c4);have hbw5:Below w.heap.size w (w4.setCell ⟨w3.heap.size,1,none⟩ (.slice A4 (ls.length+1) c4)):=hbw4.setCell (p:=⟨w3.heap.size,1,none⟩) (show w.heap.size≤w3.heap.size by omega) _;obtain⟨t_0,t_1,t_f0,t_f1⟩:=hT4.b2;clear hg4 ha4 ho4 hon4 hap4 hnew hoW4 hbw4 hR4 hR3 hA4 hA3 ho3 hbw3;have hsz5:(w4.setCell ⟨w3.heap.size,1,none⟩ (.slice A4 (ls.length+1) c4)).heap.size =w4.heap.size:=by simp[World.setCell]
 have hlen:(ls++[(mn2 a b,mx2 a b)]).length =ls.length+1:=by simp
 have hnl:=hA5.cell 0;have hnl1:=hA5.cell 1;simp only[List.getElem?_toArray,List.getElem?_cons_succ,List.getElem?_cons_zero] at hnl hnl1
 generalize hL:ls++[(mn2 a b,mx2 a b)]=LL at*
 go_wp2_with fail
 refine(zE _ _ ns ls _ _ (hn.below hbw5) (hl.below hbw5) hw).mono ?_
 rintro e w6 ⟨rfl,hb6⟩;have hz6:=hb6.size;have hA6:=hA5.below hb6 hA5.lt;have hR6:=hR5.below hb6 hR5.lt;have hT6:=hT5.below hb6 hT5.lt;have hoW6:=hoW5.kept hb6;have hbw6:Below w.heap.size w w6:=hbw5.trans (hb6.mono hbw5.size);rw[hsz5] at hz6;clear hb6 hoW5 hbw5 hA5 hR5 hT5 hnl hnl1 t_0 t_1 t_f0 t_f1 hT4 hsz5;obtain⟨t_0,t_1⟩:=hT6.c2
 go_wp2_with fail
 refine(zE _ _ ns LL _ _ hoW6.1.reads hoW6.2.1.reads hE).mono ?_
 rintro e w7 ⟨rfl,hb7⟩;have hz7:=hb7.size;have hA7:=hA6.below hb7 hA6.lt;have hR7:=hR6.below hb7 hR6.lt;have hT7:=hT6.below hb7 hT6.lt;have hoW7:=hoW6.kept hb7;have hbw7:Below w.heap.size w w7:=hbw6.trans (hb7.mono hbw6.size);clear hb7 t_0 t_1 hA6 hR6 hT6 hoW6 hbw6;obtain⟨a_0,a_1⟩:=hA7.c2
 go_wp2_with fail
 refine(qg _ _ ns ls _ (hn.below hbw7) (hl.below hbw7) h1 h2).mono ?_
 rintro e w8 ⟨An8,cn8,Al8,cl8,rfl,ho8,hb8⟩;have hz8:=hb8.size;have hR8:=hR7.below hb8 hR7.lt;have hbw8:Below w.heap.size w w8:=hbw7.trans (hb8.mono hbw7.size);have q1:w.heap.size+1<w7.heap.size:=hR7.lt;clear hb8 a_0 a_1 hA7 hR7 hT7 hoW7 hbw7;obtain⟨r_0,r_1,r_f0,r_f1⟩:=hR8.b2;have hO:=Lib.hid (((ho8.setLow (p:=⟨w.heap.size+1,0,none⟩) q1 (.slice An8 ns.length cn8)).setLow (p:=⟨w.heap.size+1,1,none⟩) q1 (.slice Al8 ls.length cl8)).mono (show w.heap.size≤_ by omega));have HB:=Lib.hid ((hbw8.setCell (p:=⟨w.heap.size+1,0,none⟩) sz_ (.slice An8 ns.length cn8)).setCell (p:=⟨w.heap.size+1,1,none⟩) sz_ (.slice Al8 ls.length cl8));clear ho8 hbw8 hR8;go_wp2;exact bodyPost_ret (v:= .tuple #[.agg #[.slice An8 ns.length cn8,.slice Al8 ls.length cl8],.bool false]) (by simp[results,Tryz.results107,go_sem,r_0,r_1]) rfl (zC.mk rfl rfl rfl hO.out HB.out)
theorem JC (vn vl:Value) (ns ls:List Pr) (a b:Int) (w:World) (hn:RP w vn ns) (hl:RP w vl ls) (h1:ns.length≤1048576) (h2:ls.length≤1048576) (hw:winB ns ls=true) (hE:winB ns (ls++[(mn2 a b,mx2 a b)])=true):
  Calls Tryz.prog 107 #[.agg #[vn,vl],.int .i64 a,.int .i64 b] w (zC ns (ls++[(mn2 a b,mx2 a b)]) true w):=by
 obtain⟨j0,hj,jz0,jz1,jz2⟩:=info_parts qC
 go_enter Tryz.func107,Tryz.ntmps107
 go_wp2_with fail
 refine(qg _ _ ns ls _ (hn.below (by exact bel_)) (hl.below (by exact bel_)) h1 h2).mono ?_
 rintro e w3 ⟨An3,cn3,Al3,cl3,rfl,ho3',hb3⟩;have hz3:=hb3.size;simp at hz3
 have ho3:OwnW (w.heap.size+1+1) w3 (.slice An3 ns.length cn3) (.slice Al3 ls.length cl3) ns ls:=by simpa using ho3'
 have hlt3:=ho3.lt;have hA3:Blk w3 w.heap.size 27 #[vn,vl]:=Blk.below ((Blk.newAt rfl).alloc _) hb3 sz_;have hR3:Blk w3 (w.heap.size+1) 27 #[.slice none 0 0,.slice none 0 0]:=Blk.below (Blk.newAt (by simp)) hb3 sz_;have hbw3:Below w.heap.size w w3:=by exact bel_
 clear hb3 ho3'
 go_wp2_with (at_builtin;refine zg rfl _ _ _ rfl (w.heap.size+1+1) 108 j0 Tryz.underlying25 hj jz0 jz1 jz2 (.slice Al3 ls.length cl3) _ ls [(mn2 a b,mx2 a b)] rfl rfl ((ho3.2.1.alloc _).alloc _) (qR (by simp) rfl rfl rfl (by simp[maxLen])) (by simp;omega) (by simp;omega) ?_)
 intro A4 c4 w4 ho4 hg4 ha4;have hz4:=hg4.size;simp at hz4
 have hrow:∀k,(Value.slice Al3 ls.length cl3).ownBlock =some k→w.heap.size+1+1≤k∧k<w3.heap.size:=fun k hk=>hlt3 k (.inr hk)
 have hA4:=((hA3.alloc (.cells #[.slice An3 ns.length cn3,.slice Al3 ls.length cl3] 27)).alloc _).grownR hg4 (fun k hk=>by have:=(hrow k hk).1;omega);have hR4:=((hR3.alloc (.cells #[.slice An3 ns.length cn3,.slice Al3 ls.length cl3] 27)).alloc _).grownR hg4 (fun k hk=>by have:=(hrow k hk).1;omega);have hT4:Blk w4 w3.heap.size 27 #[.slice An3 ns.length cn3,.slice Al3 ls.length cl3]:=((Blk.newAt rfl).alloc _).grownR hg4 (fun k hk=>by have:=(hrow k hk).2;omega);have hon4:=((ho3.1.alloc (.cells #[.slice An3 ns.length cn3,.slice Al3 ls.length cl3] 27)).alloc _).apart hg4 (fun k hk hk2=>ho3.2.2 k hk hk2)
 have hnew:∀k,(Value.slice A4 (ls.length+1) c4).ownBlock =some k→(w.heap.size+1+1≤k∧k<w3.heap.size)∨k=w3.heap.size+1+1:=by
  intro k hk
  rcases y7 ha4 hk with h|h
  ·exact .inl (hrow k h)
  ·exact .inr (by simpa using h)
 have hap4:∀k,(Value.slice An3 ns.length cn3).ownBlock =some k→(Value.slice A4 (ls.length+1) c4).ownBlock =some k→False:=by
  intro k hk hk2
  rcases y7 ha4 hk2 with h|h
  ·exact ho3.2.2 k hk h
  ·have h':k=w3.heap.size+1+1:=by simpa using h
   have:=(hlt3 k (.inl hk)).2;omega
 have hoW4:OwnW (w.heap.size+1+1) w4 (.slice An3 ns.length cn3) (.slice A4 (ls.length+1) c4) ns (ls++[(mn2 a b,mx2 a b)]):=⟨hon4,ho4,hap4⟩;have hbw4:Below w.heap.size w w4:=((hbw3.alloc (by omega) _).alloc sz_ _).grown hg4 sz_ (fun k hk=>by have:=(hrow k hk).1;omega)
 have hoW5:=hoW4.setFar (p:=⟨w3.heap.size,1,none⟩) (by
  rintro(h|h)
  ·have:=(hlt3 _ (.inl h)).2
   exact absurd this (Nat.lt_irrefl _)
  ·rcases hnew _ h with h'|h'
   ·exact absurd h'.2 (Nat.lt_irrefl _)
   ·have h'':w3.heap.size=w3.heap.size+1+1:=h'
    omega) (.slice A4 (ls.length+1) c4)
 have hT5:Blk (w4.setCell ⟨w3.heap.size,1,none⟩ (.slice A4 (ls.length+1) c4)) w3.heap.size 27 #[.slice An3 ns.length cn3,.slice A4 (ls.length+1) c4]:=hT4.set_ 1 _;have hA5:=hA4.far (p:=⟨w3.heap.size,1,none⟩) (show ¬w.heap.size=w3.heap.size by omega) (.slice A4 (ls.length+1) c4);have hR5:=hR4.far (p:=⟨w3.heap.size,1,none⟩) (show ¬w.heap.size+1=w3.heap.size by omega) (.slice A4 (ls.length+1) c4);have hbw5:Below w.heap.size w (w4.setCell ⟨w3.heap.size,1,none⟩ (.slice A4 (ls.length+1) c4)):=hbw4.setCell (p:=⟨w3.heap.size,1,none⟩) (show w.heap.size≤w3.heap.size by omega) _;obtain⟨t_0,t_1,t_f0,t_f1⟩:=hT4.b2;clear hg4 ha4 ho4 hon4 hap4 hnew hoW4 hbw4 hR4 hR3 hA4 hA3 ho3 hbw3;have hsz5:(w4.setCell ⟨w3.heap.size,1,none⟩ (.slice A4 (ls.length+1) c4)).heap.size =w4.heap.size:=by simp[World.setCell]
 have hlen:(ls++[(mn2 a b,mx2 a b)]).length =ls.length+1:=by simp
 have hnl:=hA5.cell 0;have hnl1:=hA5.cell 1;simp only[List.getElem?_toArray,List.getElem?_cons_succ,List.getElem?_cons_zero] at hnl hnl1
 generalize hL:ls++[(mn2 a b,mx2 a b)]=LL at*
 go_wp2_with fail
 refine(zE _ _ ns ls _ _ (hn.below hbw5) (hl.below hbw5) hw).mono ?_
 rintro e w6 ⟨rfl,hb6⟩;have hz6:=hb6.size;have hA6:=hA5.below hb6 hA5.lt;have hR6:=hR5.below hb6 hR5.lt;have hT6:=hT5.below hb6 hT5.lt;have hoW6:=hoW5.kept hb6;have hbw6:Below w.heap.size w w6:=hbw5.trans (hb6.mono hbw5.size);rw[hsz5] at hz6;clear hb6 hoW5 hbw5 hA5 hR5 hT5 hnl hnl1 t_0 t_1 t_f0 t_f1 hT4 hsz5;obtain⟨t_0,t_1⟩:=hT6.c2
 go_wp2_with fail
 refine(zE _ _ ns LL _ _ hoW6.1.reads hoW6.2.1.reads hE).mono ?_
 rintro e w7 ⟨rfl,hb7⟩;have hz7:=hb7.size;have hA7:=hA6.below hb7 hA6.lt;have hR7:=hR6.below hb7 hR6.lt;have hT7:=hT6.below hb7 hT6.lt;have hoW7:=hoW6.kept hb7;have hbw7:Below w.heap.size w w7:=hbw6.trans (hb7.mono hbw6.size);clear hb7 t_0 t_1 hA6 hR6 hT6 hoW6 hbw6;obtain⟨r_0,r_1,r_f0,r_f1⟩:=hR7.b2;obtain⟨t_0,t_1,t_f0,t_f1⟩:=hT7.b2;have d1:¬w3.heap.size=w.heap.size+1:=by omega
 have hO:=Lib.hid (((hoW7.setLow (p:=⟨w.heap.size+1,0,none⟩) (show w.heap.size+1<w.heap.size+1+1 by omega) (.slice An3 ns.length cn3)).setLow (p:=⟨w.heap.size+1,1,none⟩) (show w.heap.size+1<w.heap.size+1+1 by omega) (.slice A4 (ls.length+1) c4)).mono (show w.heap.size≤_ by omega));have HB:=Lib.hid ((hbw7.setCell (p:=⟨w.heap.size+1,0,none⟩) sz_ (.slice An3 ns.length cn3)).setCell (p:=⟨w.heap.size+1,1,none⟩) sz_ (.slice A4 (ls.length+1) c4));clear hoW7 hbw7 hA7 hR7 hT7;generalize w3.heap.size=B3 at*;go_wp2;exact bodyPost_ret (v:= .tuple #[.agg #[.slice An3 ns.length cn3,.slice A4 (ls.length+1) c4],.bool true]) (by simp[results,Tryz.results107,go_sem,r_0,r_1,t_0,t_1]) rfl (zC.mk rfl rfl hlen.symm hO.out HB.out)
theorem z4f (vn vl:Value) (ns ls:List Pr) (a b:Int) (w:World) (hn:RP w vn ns) (hl:RP w vl ls) (h1:ns.length≤1048576) (h2:ls.length≤1048576):
  Calls Tryz.prog 161 #[.agg #[vn,vl],.int .i64 a,.int .i64 b] w (zC ns (addL ns ls a b) (addB ns ls a b) w):=by
 unfold addL addB
 cases hw:winB ns ls
 ·exact z5a vn vl ns ls a b w hn hl h1 h2 hw
 ·cases hE:winB ns (ls++[(mn2 a b,mx2 a b)])
  ·exact Zc vn vl ns ls a b w hn hl h1 h2 hw hE
  ·exact JF vn vl ns ls a b w hn hl h1 h2 hw hE
theorem z4k (vn vl:Value) (ns ls:List Pr) (a b:Int) (w:World) (hn:RP w vn ns) (hl:RP w vl ls) (h1:ns.length≤1048576) (h2:ls.length≤1048576):
  Calls Tryz.prog 107 #[.agg #[vn,vl],.int .i64 a,.int .i64 b] w (zC ns (addL ns ls a b) (addB ns ls a b) w):=by
 unfold addL addB
 cases hw:winB ns ls
 ·exact z5z vn vl ns ls a b w hn hl h1 h2 hw
 ·cases hE:winB ns (ls++[(mn2 a b,mx2 a b)])
  ·exact Zk vn vl ns ls a b w hn hl h1 h2 hw hE
  ·exact JC vn vl ns ls a b w hn hl h1 h2 hw hE
end Go.Proofs.YtnjcpljhmhdhkaaGreat
