/- part 10 -/
import Derived.Test.YtnjcpljhmhdhkaaGreatTPk9
set_option linter.unusedSimpArgs false
set_option linter.unusedVariables false
set_option maxRecDepth 100000
set_option maxHeartbeats 8000000
namespace Go.Proofs.YtnjcpljhmhdhkaaGreat
open Go.RowKit
attribute [local go_sem ↓] zu zw zY zZ
def zC (ns ls:List (Int×Int)) (b:Bool) (w:World) (e:Ending) (w':World):Prop:=∃An cn Al cl,e= .returned (.tuple #[.agg #[.slice An ns.length cn,.slice Al ls.length cl],.bool b])∧
 OwnW w.heap.size w' (.slice An ns.length cn) (.slice Al ls.length cl) ns ls∧Below w.heap.size w w'
theorem Blk.grownR {w w':World} {b:Nat} {t:TypeId} {cs:Array Value} {row:Option Nat} (h:Blk w b t cs) (hg:w.grownBy w' row) (hr:∀k,row=some k→¬k=b):Blk w' b t cs:=
 (hg.block b h.lt (fun e=>hr b e.symm rfl)).trans h
theorem OwnW.apart {base:Nat} {w w':World} {vn vl:Value} {ns ls:List (Int×Int)} {row:Option Nat} (h:OwnW base w vn vl ns ls) (hg:w.grownBy w' row) (hr:∀k,zl vn vl k→row=some k→False):OwnW base w' vn vl ns ls:=
 ⟨h.1.apart hg (fun k hk=>hr k (.inl hk)),h.2.1.apart hg (fun k hk=>hr k (.inr hk)),h.2.2⟩
theorem OwnW.setLow {base:Nat} {w:World} {vn vl:Value} {ns ls:List (Int×Int)} (h:OwnW base w vn vl ns ls) {p:Addr} (hp:p.block<base) (u:Value):OwnW base (w.setCell p u) vn vl ns ls:=
 ⟨h.1.setLow hp u,h.2.1.setLow hp u,h.2.2⟩
theorem OwnW.alloc {base:Nat} {w:World} {vn vl:Value} {ns ls:List (Int×Int)} (h:OwnW base w vn vl ns ls) (o:Obj):OwnW base (w.alloc o) vn vl ns ls:=⟨h.1.alloc o,h.2.1.alloc o,h.2.2⟩
theorem OwnW.setFar {base:Nat} {w:World} {vn vl:Value} {ns ls:List (Int×Int)} (h:OwnW base w vn vl ns ls) {p:Addr} (hp:¬zl vn vl p.block) (u:Value):OwnW base (w.setCell p u) vn vl ns ls:=
 h.apart (qO w p u) (fun k hk e=>by cases e;exact hp hk)
theorem zC.mk {ns ls:List (Int×Int)} {b:Bool} {w w':World} {e:Ending} {An Al:Option Addr} {n m cn cl:Nat} (he:e= .returned (.tuple #[.agg #[.slice An n cn,.slice Al m cl],.bool b])) (hn:n=ns.length) (hm:m=ls.length)
  (ho:OwnW w.heap.size w' (.slice An n cn) (.slice Al m cl) ns ls) (hb:Below w.heap.size w w'):zC ns ls b w e w':=by
 subst hn hm;exact⟨_,_,_,_,he,ho,hb⟩
noncomputable def addB (ns ls:List Pr) (a b:Int):Bool:=winB ns ls&&winB ns (ls++[(mn2 a b,mx2 a b)])
noncomputable def addL (ns ls:List Pr) (a b:Int):List Pr:=if addB ns ls a b then ls++[(mn2 a b,mx2 a b)] else ls
theorem z5a (vn vl:Value) (ns ls:List Pr) (a b:Int) (w:World) (hn:RP w vn ns) (hl:RP w vl ls) (h1:ns.length≤1048576) (h2:ls.length≤1048576) (hw:winB ns ls=false):
  Calls Tryz.prog 161 #[.agg #[vn,vl],.int .i64 a,.int .i64 b] w (zC ns ls false w):=by
 go_enter Tryz.func161,Tryz.ntmps161
 go_wp2_with fail
 refine(qf _ _ ns ls _ (hn.below (by exact bel_)) (hl.below (by exact bel_)) h1 h2).mono ?_
 rintro e w1 ⟨An1,cn1,Al1,cl1,rfl,ho1,hb1⟩;have hz1:=hb1.size;simp at hz1
 have ho1':OwnW (w.heap.size+1+1) w1 (.slice An1 ns.length cn1) (.slice Al1 ls.length cl1) ns ls:=by simpa using ho1
 have hA1:Blk w1 w.heap.size 27 #[vn,vl]:=Blk.below ((Blk.newAt rfl).alloc _) hb1 sz_;have hR1:Blk w1 (w.heap.size+1) 27 #[.slice none 0 0,.slice none 0 0]:=Blk.below (Blk.newAt (by simp)) hb1 sz_;have hbw1:Below w.heap.size w w1:=by exact bel_
 clear hb1 ho1;have n1:w.heap.size<w1.heap.size:=by omega
 have n2:w.heap.size+1<w1.heap.size:=by omega
 obtain⟨a_0,a_1⟩:=hA1.c2;have hbs:Below w1.heap.size w1 (w1.alloc (.cells #[.slice An1 ns.length cn1,.slice Al1 ls.length cl1] 27)):=by exact bel_
 have hbws:Below w.heap.size w (w1.alloc (.cells #[.slice An1 ns.length cn1,.slice Al1 ls.length cl1] 27)):=by exact bel_
 go_wp2_with fail
 refine(zP _ _ ns ls _ _ (hn.below hbws) (hl.below hbws) hw).mono ?_
 rintro e w2 ⟨rfl,hb2⟩;(first|(with_reducible have hcf2:=z8 hb2)|have hcf2:=bcell hb2);obtain⟨hc2,hf2⟩:=hcf2;have hz2:=hb2.size;(try simp at hz2);(try have hp2_0:=p0_ w w2);(try have hp2_1:=p1_ w w2);(try have hp2_2:=p2_ w w2);(try have hp2_3:=p3_ w w2)
 have hb12:Below w1.heap.size w1 w2:=hbs.trans (hb2.mono hbs.size);have hS2:Blk w2 w1.heap.size 27 #[.slice An1 ns.length cn1,.slice Al1 ls.length cl1]:=Blk.below (Blk.newAt rfl) hb2 sz_;have hR2:=hR1.below hb12 n2;have ho2:=ho1'.kept hb12;have hbw2:Below w.heap.size w w2:=hbw1.trans (hb12.mono hbw1.size);clear hb2 hc2 hf2 hbs hbws hb12 hA1 hR1 ho1' hbw1 a_0 a_1;obtain⟨s_0,s_1,s_f0,s_f1⟩:=hS2.b2;obtain⟨r_0,r_1,r_f0,r_f1⟩:=hR2.b2;have hne:¬w1.heap.size=w.heap.size+1:=by omega
 have hO:=Lib.hid (((ho2.setLow (p:=⟨w.heap.size+1,0,none⟩) sz_ (.slice An1 ns.length cn1)).setLow (p:=⟨w.heap.size+1,1,none⟩) sz_ (.slice Al1 ls.length cl1)).mono (show w.heap.size≤_ by omega));have HB:=Lib.hid ((hbw2.setCell (p:=⟨w.heap.size+1,0,none⟩) sz_ (.slice An1 ns.length cn1)).setCell (p:=⟨w.heap.size+1,1,none⟩) sz_ (.slice Al1 ls.length cl1));clear ho2 hbw2;generalize w1.heap.size=B1 at*;go_wp2;exact bodyPost_ret (v:= .tuple #[.agg #[.slice An1 ns.length cn1,.slice Al1 ls.length cl1],.bool false]) (by simp[results,Tryz.results161,go_sem,r_0,r_1,s_0,s_1]) rfl ⟨_,_,_,_,rfl,hO.out,HB.out⟩
theorem y7 {A:Option Addr} {n c:Nat} {v:Value} {h:Nat} (e:(Value.slice A n c).ownBlock =v.ownBlock∨(Value.slice A n c).ownBlock =some h) {k:Nat} (hk:(Value.slice A n c).ownBlock =some k):v.ownBlock=some k∨k=h:=by
 rcases e with e|e
 ·exact .inl (e.symm.trans hk)
 ·exact .inr (by have:=e.symm.trans hk;cases this;rfl)
theorem JF (vn vl:Value) (ns ls:List Pr) (a b:Int) (w:World) (hn:RP w vn ns) (hl:RP w vl ls) (h1:ns.length≤1048576) (h2:ls.length≤1048576) (hw:winB ns ls=true) (hE:winB ns (ls++[(mn2 a b,mx2 a b)])=true):
  Calls Tryz.prog 161 #[.agg #[vn,vl],.int .i64 a,.int .i64 b] w (zC ns (ls++[(mn2 a b,mx2 a b)]) true w):=by
 obtain⟨j0,hj,jz0,jz1,jz2⟩:=info_parts qC
 go_enter Tryz.func161,Tryz.ntmps161
 go_wp2_with fail
 refine(qf _ _ ns ls _ (hn.below (by exact bel_)) (hl.below (by exact bel_)) h1 h2).mono ?_
 rintro e w1 ⟨An1,cn1,Al1,cl1,rfl,ho1,hb1⟩;have hz1:=hb1.size;simp at hz1
 have ho1':OwnW (w.heap.size+1+1) w1 (.slice An1 ns.length cn1) (.slice Al1 ls.length cl1) ns ls:=by simpa using ho1
 have hlt1:=ho1'.lt;have hA1:Blk w1 w.heap.size 27 #[vn,vl]:=Blk.below ((Blk.newAt rfl).alloc _) hb1 sz_;have hR1:Blk w1 (w.heap.size+1) 27 #[.slice none 0 0,.slice none 0 0]:=Blk.below (Blk.newAt (by simp)) hb1 sz_;have hbw1:Below w.heap.size w w1:=by exact bel_
 clear hb1 ho1;have n1:w.heap.size<w1.heap.size:=by omega
 have n2:w.heap.size+1<w1.heap.size:=by omega
 obtain⟨a_0,a_1⟩:=hA1.c2;have hbs:Below w1.heap.size w1 (w1.alloc (.cells #[.slice An1 ns.length cn1,.slice Al1 ls.length cl1] 27)):=by exact bel_
 have hbws:Below w.heap.size w (w1.alloc (.cells #[.slice An1 ns.length cn1,.slice Al1 ls.length cl1] 27)):=by exact bel_
 go_wp2_with fail
 refine(zP _ _ ns ls _ _ (hn.below hbws) (hl.below hbws) hw).mono ?_
 rintro e w2 ⟨rfl,hb2⟩;(first|(with_reducible have hcf2:=z8 hb2)|have hcf2:=bcell hb2);obtain⟨hc2,hf2⟩:=hcf2;have hz2:=hb2.size;(try simp at hz2);(try have hp2_0:=p0_ w w2);(try have hp2_1:=p1_ w w2);(try have hp2_2:=p2_ w w2);(try have hp2_3:=p3_ w w2)
 have hb12:Below w1.heap.size w1 w2:=hbs.trans (hb2.mono hbs.size);have hS2:Blk w2 w1.heap.size 27 #[.slice An1 ns.length cn1,.slice Al1 ls.length cl1]:=Blk.below (Blk.newAt rfl) hb2 sz_;have hA2:=hA1.below hb12 n1;have hR2:=hR1.below hb12 n2;have ho2:=ho1'.kept hb12;have hbw2:Below w.heap.size w w2:=hbw1.trans (hb12.mono hbw1.size);have n3:w1.heap.size<w2.heap.size:=hS2.lt;clear hb2 hc2 hf2 hbs hbws hb12 hA1 hR1 ho1' hbw1 a_0 a_1 hz2;obtain⟨a_0,a_1⟩:=hA2.c2
 go_wp2_with fail
 refine(qf _ _ ns ls _ (hn.below hbw2) (hl.below hbw2) h1 h2).mono ?_
 rintro e w3 ⟨An3,cn3,Al3,cl3,rfl,ho3,hb3⟩;have hz3:=hb3.size;have hlt3:=ho3.lt;have hR3:=hR2.below hb3 hR2.lt;have hS3:=hS2.below hb3 n3;have ho23:=ho2.kept hb3;have hbw3:Below w.heap.size w w3:=hbw2.trans (hb3.mono hbw2.size);clear hb3 hA2 hR2 hS2 ho2 hbw2 a_0 a_1
 go_wp2_with (at_builtin;refine zg rfl _ _ _ rfl w2.heap.size 108 j0 Tryz.underlying25 hj jz0 jz1 jz2 (.slice Al3 ls.length cl3) _ ls [(mn2 a b,mx2 a b)] rfl rfl ((ho3.2.1.alloc _).alloc _) (qR (by simp) rfl rfl rfl (by simp[maxLen])) (by simp;omega) (by simp;omega) ?_)
 intro A4 c4 w4 ho4 hg4 ha4;have hz4:=hg4.size;simp at hz4
 have hrow:∀k,(Value.slice Al3 ls.length cl3).ownBlock =some k→w2.heap.size≤k∧k<w3.heap.size:=fun k hk=>hlt3 k (.inr hk)
 have hR4:=((hR3.alloc (.cells #[.slice An3 ns.length cn3,.slice Al3 ls.length cl3] 27)).alloc _).grownR hg4 (fun k hk=>by have:=(hrow k hk).1;omega);have hS4:=((hS3.alloc (.cells #[.slice An3 ns.length cn3,.slice Al3 ls.length cl3] 27)).alloc _).grownR hg4 (fun k hk=>by have:=(hrow k hk).1;omega);have hT4:Blk w4 w3.heap.size 27 #[.slice An3 ns.length cn3,.slice Al3 ls.length cl3]:=((Blk.newAt rfl).alloc _).grownR hg4 (fun k hk=>by have:=(hrow k hk).2;omega);have ho24:=((ho23.alloc (.cells #[.slice An3 ns.length cn3,.slice Al3 ls.length cl3] 27)).alloc _).apart hg4 (fun k hk hk2=>by have:=(hrow k hk2).1;have:=(hlt1 k hk).2;omega);have hon4:=((ho3.1.alloc (.cells #[.slice An3 ns.length cn3,.slice Al3 ls.length cl3] 27)).alloc _).apart hg4 (fun k hk hk2=>ho3.2.2 k hk hk2)
 have hnew:∀k,(Value.slice A4 (ls.length+1) c4).ownBlock =some k→(w2.heap.size≤k∧k<w3.heap.size)∨k=w3.heap.size+1+1:=by
  intro k hk
  rcases y7 ha4 hk with h|h
  ·exact .inl (hrow k h)
  ·exact .inr (by simpa using h)
 have hap4:∀k,(Value.slice An3 ns.length cn3).ownBlock =some k→(Value.slice A4 (ls.length+1) c4).ownBlock =some k→False:=by
  intro k hk hk2
  rcases y7 ha4 hk2 with h|h
  ·exact ho3.2.2 k hk h
  ·have h':k=w3.heap.size+1+1:=by simpa using h
   have:=(hlt3 k (.inl hk)).2;omega
 have hoW4:OwnW w2.heap.size w4 (.slice An3 ns.length cn3) (.slice A4 (ls.length+1) c4) ns (ls++[(mn2 a b,mx2 a b)]):=⟨hon4,ho4,hap4⟩;have hbw4:Below w.heap.size w w4:=((hbw3.alloc (by omega) _).alloc sz_ _).grown hg4 sz_ (fun k hk=>by have:=(hrow k hk).1;omega);have hz4':w3.heap.size<w4.heap.size:=hT4.lt
 have hoW5:=hoW4.setFar (p:=⟨w3.heap.size,1,none⟩) (by
  rintro(h|h)
  ·have:=(hlt3 _ (.inl h)).2
   exact absurd this (Nat.lt_irrefl _)
  ·rcases hnew _ h with h'|h'
   ·exact absurd h'.2 (Nat.lt_irrefl _)
   ·have h'':w3.heap.size=w3.heap.size+1+1:=h'
    omega) (.slice A4 (ls.length+1) c4)
 have ho25:=ho24.setFar (p:=⟨w3.heap.size,1,none⟩) (by
  intro h;have:=(hlt1 _ h).2;have h':w3.heap.size<w1.heap.size:=this;omega) (.slice A4 (ls.length+1) c4)
 have hT5:Blk (w4.setCell ⟨w3.heap.size,1,none⟩ (.slice A4 (ls.length+1) c4)) w3.heap.size 27 #[.slice An3 ns.length cn3,.slice A4 (ls.length+1) c4]:=hT4.set_ 1 _;have hR5:=hR4.far (p:=⟨w3.heap.size,1,none⟩) (show ¬w.heap.size+1=w3.heap.size by omega) (.slice A4 (ls.length+1) c4);have hS5:=hS4.far (p:=⟨w3.heap.size,1,none⟩) (show ¬w1.heap.size=w3.heap.size by omega) (.slice A4 (ls.length+1) c4);have hbw5:Below w.heap.size w (w4.setCell ⟨w3.heap.size,1,none⟩ (.slice A4 (ls.length+1) c4)):=hbw4.setCell (p:=⟨w3.heap.size,1,none⟩) (show w.heap.size≤w3.heap.size by omega) _;obtain⟨t_0,t_1,t_f0,t_f1⟩:=hT4.b2;clear hg4 ha4 ho4 hon4 hap4 hnew hoW4 hbw4 ho24 hR4 hS4 hR3 hS3 ho23 ho3 hbw3;have hnl:=hT5.cell 0;have hnl1:=hT5.cell 1;simp only[List.getElem?_toArray,List.getElem?_cons_succ,List.getElem?_cons_zero] at hnl hnl1
 have hsz5:(w4.setCell ⟨w3.heap.size,1,none⟩ (.slice A4 (ls.length+1) c4)).heap.size =w4.heap.size:=by simp[World.setCell]
 have hlen:(ls++[(mn2 a b,mx2 a b)]).length =ls.length+1:=by simp
 generalize hL:ls++[(mn2 a b,mx2 a b)]=LL at*
 go_wp2_with fail
 refine(zP _ _ ns LL _ _ hoW5.1.reads hoW5.2.1.reads hE).mono ?_
 rintro e w6 ⟨rfl,hb6⟩;have hz6:=hb6.size;have hR6:=hR5.below hb6 hR5.lt;have hS6:=hS5.below hb6 hS5.lt;have hT6:=hT5.below hb6 hT5.lt;have hoW6:=hoW5.kept hb6;have ho26:=ho25.kept hb6;have hbw6:Below w.heap.size w w6:=hbw5.trans (hb6.mono hbw5.size);clear hb6 hoW5 ho25 hbw5 hR5 hS5 hT5 hnl hnl1 t_0 t_1 t_f0 t_f1 hT4;obtain⟨r_0,r_1,r_f0,r_f1⟩:=hR6.b2;obtain⟨s_0,s_1,s_f0,s_f1⟩:=hS6.b2;obtain⟨t_0,t_1,t_f0,t_f1⟩:=hT6.b2;have d1:¬w3.heap.size=w.heap.size+1:=by omega
 have d2:¬w1.heap.size=w.heap.size+1:=by omega
 rw[hsz5] at hz6;have hO:=Lib.hid (((hoW6.setLow (p:=⟨w.heap.size+1,0,none⟩) (show w.heap.size+1<w2.heap.size by omega) (.slice An3 ns.length cn3)).setLow (p:=⟨w.heap.size+1,1,none⟩) (show w.heap.size+1<w2.heap.size by omega) (.slice A4 (ls.length+1) c4)).mono (show w.heap.size≤_ by omega));have HB:=Lib.hid ((hbw6.setCell (p:=⟨w.heap.size+1,0,none⟩) sz_ (.slice An3 ns.length cn3)).setCell (p:=⟨w.heap.size+1,1,none⟩) sz_ (.slice A4 (ls.length+1) c4));clear hoW6 ho26 hbw6 hR6 hS6 hT6;generalize w1.heap.size=B1 at*;generalize w3.heap.size=B3 at*;go_wp2;exact bodyPost_ret (v:= .tuple #[.agg #[.slice An3 ns.length cn3,.slice A4 (ls.length+1) c4],.bool true]) (by simp[results,Tryz.results161,go_sem,r_0,r_1,t_0,t_1]) rfl (zC.mk rfl rfl hlen.symm hO.out HB.out)
theorem Zc (vn vl:Value) (ns ls:List Pr) (a b:Int) (w:World) (hn:RP w vn ns) (hl:RP w vl ls) (h1:ns.length≤1048576) (h2:ls.length≤1048576) (hw:winB ns ls=true) (hE:winB ns (ls++[(mn2 a b,mx2 a b)])=false):
  Calls Tryz.prog 161 #[.agg #[vn,vl],.int .i64 a,.int .i64 b] w (zC ns ls false w):=by
 obtain⟨j0,hj,jz0,jz1,jz2⟩:=info_parts qC
 go_enter Tryz.func161,Tryz.ntmps161
 go_wp2_with fail
 refine(qf _ _ ns ls _ (hn.below (by exact bel_)) (hl.below (by exact bel_)) h1 h2).mono ?_
 rintro e w1 ⟨An1,cn1,Al1,cl1,rfl,ho1,hb1⟩;have hz1:=hb1.size;simp at hz1
 have ho1':OwnW (w.heap.size+1+1) w1 (.slice An1 ns.length cn1) (.slice Al1 ls.length cl1) ns ls:=by simpa using ho1
 have hlt1:=ho1'.lt;have hA1:Blk w1 w.heap.size 27 #[vn,vl]:=Blk.below ((Blk.newAt rfl).alloc _) hb1 sz_;have hR1:Blk w1 (w.heap.size+1) 27 #[.slice none 0 0,.slice none 0 0]:=Blk.below (Blk.newAt (by simp)) hb1 sz_;have hbw1:Below w.heap.size w w1:=by exact bel_
 clear hb1 ho1;have n1:w.heap.size<w1.heap.size:=by omega
 have n2:w.heap.size+1<w1.heap.size:=by omega
 obtain⟨a_0,a_1⟩:=hA1.c2;have hbs:Below w1.heap.size w1 (w1.alloc (.cells #[.slice An1 ns.length cn1,.slice Al1 ls.length cl1] 27)):=by exact bel_
 have hbws:Below w.heap.size w (w1.alloc (.cells #[.slice An1 ns.length cn1,.slice Al1 ls.length cl1] 27)):=by exact bel_
 go_wp2_with fail
 refine(zP _ _ ns ls _ _ (hn.below hbws) (hl.below hbws) hw).mono ?_
 rintro e w2 ⟨rfl,hb2⟩;(first|(with_reducible have hcf2:=z8 hb2)|have hcf2:=bcell hb2);obtain⟨hc2,hf2⟩:=hcf2;have hz2:=hb2.size;(try simp at hz2);(try have hp2_0:=p0_ w w2);(try have hp2_1:=p1_ w w2);(try have hp2_2:=p2_ w w2);(try have hp2_3:=p3_ w w2)
 have hb12:Below w1.heap.size w1 w2:=hbs.trans (hb2.mono hbs.size);have hS2:Blk w2 w1.heap.size 27 #[.slice An1 ns.length cn1,.slice Al1 ls.length cl1]:=Blk.below (Blk.newAt rfl) hb2 sz_;have hA2:=hA1.below hb12 n1;have hR2:=hR1.below hb12 n2;have ho2:=ho1'.kept hb12;have hbw2:Below w.heap.size w w2:=hbw1.trans (hb12.mono hbw1.size);have n3:w1.heap.size<w2.heap.size:=hS2.lt;clear hb2 hc2 hf2 hbs hbws hb12 hA1 hR1 ho1' hbw1 a_0 a_1 hz2;obtain⟨a_0,a_1⟩:=hA2.c2
 go_wp2_with fail
 refine(qf _ _ ns ls _ (hn.below hbw2) (hl.below hbw2) h1 h2).mono ?_
 rintro e w3 ⟨An3,cn3,Al3,cl3,rfl,ho3,hb3⟩;have hz3:=hb3.size;have hlt3:=ho3.lt;have hR3:=hR2.below hb3 hR2.lt;have hS3:=hS2.below hb3 n3;have ho23:=ho2.kept hb3;have hbw3:Below w.heap.size w w3:=hbw2.trans (hb3.mono hbw2.size);clear hb3 hA2 hR2 hS2 ho2 hbw2 a_0 a_1
 go_wp2_with (at_builtin;refine zg rfl _ _ _ rfl w2.heap.size 108 j0 Tryz.underlying25 hj jz0 jz1 jz2 (.slice Al3 ls.length cl3) _ ls [(mn2 a b,mx2 a b)] rfl rfl ((ho3.2.1.alloc _).alloc _) (qR (by simp) rfl rfl rfl (by simp[maxLen])) (by simp;omega) (by simp;omega) ?_)
 intro A4 c4 w4 ho4 hg4 ha4;have hz4:=hg4.size;simp at hz4
 have hrow:∀k,(Value.slice Al3 ls.length cl3).ownBlock =some k→w2.heap.size≤k∧k<w3.heap.size:=fun k hk=>hlt3 k (.inr hk)
 have hR4:=((hR3.alloc (.cells #[.slice An3 ns.length cn3,.slice Al3 ls.length cl3] 27)).alloc _).grownR hg4 (fun k hk=>by have:=(hrow k hk).1;omega);have hS4:=((hS3.alloc (.cells #[.slice An3 ns.length cn3,.slice Al3 ls.length cl3] 27)).alloc _).grownR hg4 (fun k hk=>by have:=(hrow k hk).1;omega);have hT4:Blk w4 w3.heap.size 27 #[.slice An3 ns.length cn3,.slice Al3 ls.length cl3]:=((Blk.newAt rfl).alloc _).grownR hg4 (fun k hk=>by have:=(hrow k hk).2;omega);have ho24:=((ho23.alloc (.cells #[.slice An3 ns.length cn3,.slice Al3 ls.length cl3] 27)).alloc _).apart hg4 (fun k hk hk2=>by have:=(hrow k hk2).1;have:=(hlt1 k hk).2;omega);have hon4:=((ho3.1.alloc (.cells #[.slice An3 ns.length cn3,.slice Al3 ls.length cl3] 27)).alloc _).apart hg4 (fun k hk hk2=>ho3.2.2 k hk hk2)
 have hnew:∀k,(Value.slice A4 (ls.length+1) c4).ownBlock =some k→(w2.heap.size≤k∧k<w3.heap.size)∨k=w3.heap.size+1+1:=by
  intro k hk
  rcases y7 ha4 hk with h|h
  ·exact .inl (hrow k h)
  ·exact .inr (by simpa using h)
 have hap4:∀k,(Value.slice An3 ns.length cn3).ownBlock =some k→(Value.slice A4 (ls.length+1) c4).ownBlock =some k→False:=by
  intro k hk hk2
  rcases y7 ha4 hk2 with h|h
  ·exact ho3.2.2 k hk h
  ·have h':k=w3.heap.size+1+1:=by simpa using h
   have:=(hlt3 k (.inl hk)).2;omega
 have hoW4:OwnW w2.heap.size w4 (.slice An3 ns.length cn3) (.slice A4 (ls.length+1) c4) ns (ls++[(mn2 a b,mx2 a b)]):=⟨hon4,ho4,hap4⟩;have hbw4:Below w.heap.size w w4:=((hbw3.alloc (by omega) _).alloc sz_ _).grown hg4 sz_ (fun k hk=>by have:=(hrow k hk).1;omega);have hz4':w3.heap.size<w4.heap.size:=hT4.lt
 have hoW5:=hoW4.setFar (p:=⟨w3.heap.size,1,none⟩) (by
  rintro(h|h)
  ·have:=(hlt3 _ (.inl h)).2
   exact absurd this (Nat.lt_irrefl _)
  ·rcases hnew _ h with h'|h'
   ·exact absurd h'.2 (Nat.lt_irrefl _)
   ·have h'':w3.heap.size=w3.heap.size+1+1:=h'
    omega) (.slice A4 (ls.length+1) c4)
 have ho25:=ho24.setFar (p:=⟨w3.heap.size,1,none⟩) (by
  intro h;have:=(hlt1 _ h).2;have h':w3.heap.size<w1.heap.size:=this;omega) (.slice A4 (ls.length+1) c4)
 have hT5:Blk (w4.setCell ⟨w3.heap.size,1,none⟩ (.slice A4 (ls.length+1) c4)) w3.heap.size 27 #[.slice An3 ns.length cn3,.slice A4 (ls.length+1) c4]:=hT4.set_ 1 _;have hR5:=hR4.far (p:=⟨w3.heap.size,1,none⟩) (show ¬w.heap.size+1=w3.heap.size by omega) (.slice A4 (ls.length+1) c4);have hS5:=hS4.far (p:=⟨w3.heap.size,1,none⟩) (show ¬w1.heap.size=w3.heap.size by omega) (.slice A4 (ls.length+1) c4);have hbw5:Below w.heap.size w (w4.setCell ⟨w3.heap.size,1,none⟩ (.slice A4 (ls.length+1) c4)):=hbw4.setCell (p:=⟨w3.heap.size,1,none⟩) (show w.heap.size≤w3.heap.size by omega) _;obtain⟨t_0,t_1,t_f0,t_f1⟩:=hT4.b2;clear hg4 ha4 ho4 hon4 hap4 hnew hoW4 hbw4 ho24 hR4 hS4 hR3 hS3 ho23 ho3 hbw3;have hnl:=hT5.cell 0;have hnl1:=hT5.cell 1;simp only[List.getElem?_toArray,List.getElem?_cons_succ,List.getElem?_cons_zero] at hnl hnl1
 have hsz5:(w4.setCell ⟨w3.heap.size,1,none⟩ (.slice A4 (ls.length+1) c4)).heap.size =w4.heap.size:=by simp[World.setCell]
 have hlen:(ls++[(mn2 a b,mx2 a b)]).length =ls.length+1:=by simp
 generalize hL:ls++[(mn2 a b,mx2 a b)]=LL at*
 go_wp2_with fail
 refine(zP _ _ ns LL _ _ hoW5.1.reads hoW5.2.1.reads hE).mono ?_
 rintro e w6 ⟨rfl,hb6⟩;have hz6:=hb6.size;have hR6:=hR5.below hb6 hR5.lt;have hS6:=hS5.below hb6 hS5.lt;have hT6:=hT5.below hb6 hT5.lt;have hoW6:=hoW5.kept hb6;have ho26:=ho25.kept hb6;have hbw6:Below w.heap.size w w6:=hbw5.trans (hb6.mono hbw5.size);clear hb6 hoW5 ho25 hbw5 hR5 hS5 hT5 hnl hnl1 t_0 t_1 t_f0 t_f1 hT4;obtain⟨r_0,r_1,r_f0,r_f1⟩:=hR6.b2;obtain⟨s_0,s_1,s_f0,s_f1⟩:=hS6.b2;obtain⟨t_0,t_1,t_f0,t_f1⟩:=hT6.b2;have d1:¬w3.heap.size=w.heap.size+1:=by omega
 have d2:¬w1.heap.size=w.heap.size+1:=by omega
 rw[hsz5] at hz6;have hO:=Lib.hid (((ho26.setLow (p:=⟨w.heap.size+1,0,none⟩) (show w.heap.size+1<w.heap.size+1+1 by omega) (.slice An1 ns.length cn1)).setLow (p:=⟨w.heap.size+1,1,none⟩) (show w.heap.size+1<w.heap.size+1+1 by omega) (.slice Al1 ls.length cl1)).mono (show w.heap.size≤_ by omega));have HB:=Lib.hid ((hbw6.setCell (p:=⟨w.heap.size+1,0,none⟩) sz_ (.slice An1 ns.length cn1)).setCell (p:=⟨w.heap.size+1,1,none⟩) sz_ (.slice Al1 ls.length cl1));clear hoW6 ho26 hbw6 hR6 hS6 hT6;generalize w1.heap.size=B1 at*;generalize w3.heap.size=B3 at*;go_wp2;exact bodyPost_ret (v:= .tuple #[.agg #[.slice An1 ns.length cn1,.slice Al1 ls.length cl1],.bool false]) (by simp[results,Tryz.results161,go_sem,r_0,r_1,s_0,s_1]) rfl (zC.mk rfl rfl rfl hO.out HB.out)
end Go.Proofs.YtnjcpljhmhdhkaaGreat
