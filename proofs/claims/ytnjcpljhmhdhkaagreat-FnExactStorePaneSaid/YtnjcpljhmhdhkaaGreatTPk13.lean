/- part 13 -/
import Derived.Test.YtnjcpljhmhdhkaaGreatTPk12
set_option linter.unusedSimpArgs false
set_option linter.unusedVariables false
set_option maxRecDepth 100000
set_option maxHeartbeats 8000000
namespace Go.Proofs.YtnjcpljhmhdhkaaGreat
open Go.RowKit
attribute [local go_sem ↓] zu zw zY zZ
theorem JB (vn:Value) (ns ls T D:List Pr) (b off k:Nat) (w:World) (hn:RP w vn ns) (hl:RP w (.slice (some ⟨b,off,none⟩) ls.length (k+1)) ls) (h1:ns.length≤1048576) (h2:ls.length≤1048576) (hk:k<ls.length)
  (hw:winB ns ls=true) (hcl:ls.length≤k+1) (hT:RP w (.slice (some ⟨b,off,none⟩) k (k+1)) T) (hTl:Hid (T.length=k))
  (hD:RP w (.slice (some ⟨b,off,none⟩) 0 0) D) (hDl:Hid (D.length=0)):
  Calls Tryz.prog 108 #[.agg #[vn,.slice (some ⟨b,off,none⟩) ls.length (k+1)],.int .i64 k] w (zC ns (T++D) true w):=by
 obtain⟨j0,hj,jz0,jz1,jz2⟩:=info_parts qC;have i1:inB (k:Int) 0 ((ls.length:Int) -1)=true:=zt.2 (by omega)
 go_enter Tryz.func108,Tryz.ntmps108
 go_wp2_with fail
 refine(qg _ _ ns ls _ (hn.below (by exact bel_)) (hl.below (by exact bel_)) h1 h2).mono ?_
 rintro e w1 ⟨An1,cn1,Al1,cl1,rfl,ho1,hb1⟩;have hz1:=hb1.size;simp at hz1
 have ho1':OwnW (w.heap.size+1+1) w1 (.slice An1 ns.length cn1) (.slice Al1 ls.length cl1) ns ls:=by simpa using ho1
 have hlt1:=ho1'.1.lt;have hA1:Blk w1 w.heap.size 27 #[vn,.slice (some ⟨b,off,none⟩) ls.length (k+1)]:=Blk.below ((Blk.newAt rfl).alloc _) hb1 sz_;have hR1:Blk w1 (w.heap.size+1) 27 #[.slice none 0 0,.slice none 0 0]:=Blk.below (Blk.newAt (by simp)) hb1 sz_;have hbw1:Below w.heap.size w w1:=by exact bel_
 clear hb1 ho1;have n1:w.heap.size<w1.heap.size:=by omega
 have n2:w.heap.size+1<w1.heap.size:=by omega
 obtain⟨a_0,a_1⟩:=hA1.c2;have hbs:Below w1.heap.size w1 (w1.alloc (.cells #[.slice An1 ns.length cn1,.slice Al1 ls.length cl1] 27)):=by exact bel_
 have hbws:Below w.heap.size w (w1.alloc (.cells #[.slice An1 ns.length cn1,.slice Al1 ls.length cl1] 27)):=by exact bel_
 go_wp2_with fail
 refine(zE _ _ ns ls _ _ (hn.below hbws) (hl.below hbws) hw).mono ?_
 rintro e w2 ⟨rfl,hb2⟩;(first|(with_reducible have hcf2:=z8 hb2)|have hcf2:=bcell hb2);obtain⟨hc2,hf2⟩:=hcf2;have hz2:=hb2.size;(try simp at hz2);(try have hp2_0:=p0_ w w2);(try have hp2_1:=p1_ w w2);(try have hp2_2:=p2_ w w2);(try have hp2_3:=p3_ w w2)
 have hA2:=(hA1.alloc (.cells #[.slice An1 ns.length cn1,.slice Al1 ls.length cl1] 27)).below hb2 sz_;have hb12:Below w1.heap.size w1 w2:=hbs.trans (hb2.mono hbs.size);have hS2:Blk w2 w1.heap.size 27 #[.slice An1 ns.length cn1,.slice Al1 ls.length cl1]:=Blk.below (Blk.newAt rfl) hb2 sz_;have hR2:=hR1.below hb12 n2;have hon2:=ho1'.1.kept hb12;have hbw2:Below w.heap.size w w2:=hbw1.trans (hb12.mono hbw1.size);have n3:w1.heap.size<w2.heap.size:=hS2.lt;clear hb2 hc2 hf2 hbs hbws hb12 hA1 hR1 ho1' hbw1 a_0 a_1 hz2;obtain⟨a_0,a_1⟩:=hA2.c2
 go_wp2_with fail
 refine(zF _ _ _ _ _ i1).mono ?_
 rintro e w' ⟨rfl,rfl⟩;have c1:(k:Int)≤((k+1):Int):=by omega
 have c2:(0:Int)≤(k:Int):=by omega
 have c3:(k:Int)+1≤(ls.length:Int):=by omega
 have c4:(ls.length:Int)≤((k+1):Int):=by omega
 have c1':(k:Int)≤(k:Int)+1:=by omega
 have c4':(ls.length:Int)≤(k:Int)+1:=by omega
 have c5:(0:Int)≤(k:Int)+1:=by omega
 have c6:((k:Int)+1).toNat =k+1:=by omega
 have hwr:IntKind.i64.wrap ((k:Int)+1)=(k:Int)+1:=IntWalk.i64_in _ (by omega);have p0:w.heap.size<w2.heap.size:=by omega
 have p1:w.heap.size+1<w2.heap.size:=by omega
 have hT2:=hT.below hbw2;have hD2:=hD.below hbw2;have HT2:=Lib.hid hT2;have HD2:=Lib.hid hD2;clear hT hD hT2 hD2;obtain⟨s_0,s_1,s_f0,s_f1⟩:=hS2.b2;have d1:¬w1.heap.size=w.heap.size+1:=by omega
 have d2:¬w1.heap.size=w.heap.size:=by omega
 go_wp2_with fail
 go_region_held3 (fun w'=>w'.cell? ⟨w.heap.size,0,none⟩=some vn∧w'.cell? ⟨w.heap.size,1,none⟩=some (.slice (some ⟨b,off,none⟩) ls.length (k+1)))
  (go_keep)
  (first|(refine zi rfl _ _ _ rfl w2.heap.size 108 j0 Tryz.underlying25 hj jz0 jz1 jz2 (.slice (some ⟨w2.heap.size,0,none⟩) 0 0) (.slice (some ⟨b,off,none⟩) k (k+1)) [] T rfl rfl (OwnP.drew (OwnP.made rfl (Nat.le_refl _))) (RP.below HT2.out (by exact bel_)) (by simp;have:=hTl.out;omega) sz_ ?_;intro A3 c3' w3 ho3 hg3 ha3;(have hb3:=jj (B:=w2.heap.size) hg3 sz_ sz_);(have hc3:=fun (b o:Nat) (h:b<w2.heap.size)=>hb3.cell (p:=⟨b,o,none⟩) h);(have hf3:=fun (b o:Nat) (h:b<w2.heap.size)=>hb3.frozen (p:=⟨b,o,none⟩) h);(have hz3:=hb3.size);(try simp at hz3);(have hb23:Below w2.heap.size w2 w3:=by refine Below.trans ?_ hb3;exact bel_);(have p3:w.heap.size<w3.heap.size:=by omega);(have p3':w.heap.size+1<w3.heap.size:=by omega);(have p3'':w1.heap.size<w3.heap.size:=by omega);(have HO3:=Lib.hid ho3);clear hg3 ha3 ho3)|(refine zi rfl _ _ _ rfl w2.heap.size 108 j0 Tryz.underlying25 hj jz0 jz1 jz2 (.slice A3 T.length c3') (.slice (some ⟨b,off,none⟩) 0 0) T D rfl rfl HO3.out (RP.below HD2.out hb23) (by have:=hTl.out;have:=hDl.out;omega) sz_ ?_;intro A4 c4' w4 ho4 hg4 ha4;(have hb34:Below w2.heap.size w3 w4:=(Below.refl _ _).grown hg4 sz_ (fun k hk=>(HO3.out.lt k hk).1));(have hc4:=fun (b o:Nat) (h:b<w2.heap.size)=>hb34.cell (p:=⟨b,o,none⟩) h);(have hf4:=fun (b o:Nat) (h:b<w2.heap.size)=>hb34.frozen (p:=⟨b,o,none⟩) h);(have hz4:=hb34.size);(have p4:w.heap.size<w4.heap.size:=by omega);(have HO4:=Lib.hid ho4);clear hg4 ha4 ho4))
 have ho4:OwnP 108 w2.heap.size w4 (.slice A4 (T++D).length c4') (T++D):=HO4.out;rw[List.length_append] at ho4;have hb24:Below w2.heap.size w2 w4:=hb23.trans hb34;have hon4:=hon2.kept hb24;have hbw4:Below w.heap.size w w4:=hbw2.trans (hb24.mono hbw2.size);have hR4:=hR2.below hb24 hR2.lt;have hS4:=hS2.below hb24 hS2.lt
 have hoW4:OwnW (w.heap.size+1+1) w4 (.slice An1 ns.length cn1) (.slice A4 (T.length+D.length) c4') ns (T++D):=
  ⟨hon4,ho4.mono (by omega),fun k hk hk2=>by have:=(hlt1 k hk).2;have:=(ho4.lt k hk2).1;omega⟩
 have hoW5:=hoW4.setFar (p:=⟨w1.heap.size,1,none⟩) (by
  rintro(h|h)
  ·exact absurd (hlt1 _ h).2 (Nat.lt_irrefl _)
  ·have:=(ho4.lt _ h).1
   have h':w2.heap.size≤w1.heap.size:=this;omega) (.slice A4 (T.length+D.length) c4')
 have hbw5:=hbw4.setCell (p:=⟨w1.heap.size,1,none⟩) (show w.heap.size≤w1.heap.size by omega) (.slice A4 (T.length+D.length) c4');have hS5:Blk (w4.setCell ⟨w1.heap.size,1,none⟩ (.slice A4 (T.length+D.length) c4')) w1.heap.size 27 #[.slice An1 ns.length cn1,.slice A4 (T.length+D.length) c4']:=hS4.set_ 1 _;have hR5:=hR4.far (p:=⟨w1.heap.size,1,none⟩) (show ¬w.heap.size+1=w1.heap.size by omega) (.slice A4 (T.length+D.length) c4');have hO:=Lib.hid (((hoW5.setLow (p:=⟨w.heap.size+1,0,none⟩) (show w.heap.size+1<w.heap.size+1+1 by omega) (.slice An1 ns.length cn1)).setLow (p:=⟨w.heap.size+1,1,none⟩) (show w.heap.size+1<w.heap.size+1+1 by omega) (.slice A4 (T.length+D.length) c4')).mono (show w.heap.size≤_ by omega));have HB:=Lib.hid ((hbw5.setCell (p:=⟨w.heap.size+1,0,none⟩) sz_ (.slice An1 ns.length cn1)).setCell (p:=⟨w.heap.size+1,1,none⟩) sz_ (.slice A4 (T.length+D.length) c4'));have HLEN:=Lib.hid (show T.length+D.length=(T++D).length by simp);clear hoW4 hoW5 hbw4 hbw5 hon2 hon4 ho4 HO3 HO4 hS2 hS4 hR2 hR4 s_0 s_1 s_f0 s_f1 a_0 a_1 hc3 hf3 hc4 hf4 hb23 hb34 hb24 hb3 hA2;obtain⟨s_0,s_1,s_f0,s_f1⟩:=hS5.b2;obtain⟨r_0,r_1,r_f0,r_f1⟩:=hR5.b2;clear hS5 hR5;generalize w4.setCell ⟨w1.heap.size,1,none⟩ (.slice A4 (T.length+D.length) c4')=w5 at*;generalize w1.heap.size=B1 at*;go_wp2;exact bodyPost_ret (v:= .tuple #[.agg #[.slice An1 ns.length cn1,.slice A4 (T.length+D.length) c4'],.bool true]) (by simp[results,Tryz.results108,go_sem,r_0,r_1,s_0,s_1,d1]) rfl (zC.mk rfl rfl HLEN.out hO.out HB.out)
theorem Jw (vn:Value) (ns ls T D:List Pr) (b off cl k:Nat) (w:World) (hn:RP w vn ns) (hl:RP w (.slice (some ⟨b,off,none⟩) ls.length cl) ls) (h1:ns.length≤1048576) (h2:ls.length≤1048576) (hk:k<ls.length)
  (hw:winB ns ls=true) (hcl:ls.length≤cl) (hck:¬cl=k+1) (hT:RP w (.slice (some ⟨b,off,none⟩) k cl) T) (hTl:Hid (T.length=k))
  (hD:RP w (.slice (some ⟨b,off+(k+1)*2,none⟩) (ls.length -(k+1)) (cl -(k+1))) D) (hDl:Hid (D.length=ls.length -(k+1))):
  Calls Tryz.prog 108 #[.agg #[vn,.slice (some ⟨b,off,none⟩) ls.length cl],.int .i64 k] w (zC ns (T++D) true w):=by
 obtain⟨j0,hj,jz0,jz1,jz2⟩:=info_parts qC;have i1:inB (k:Int) 0 ((ls.length:Int) -1)=true:=zt.2 (by omega)
 go_enter Tryz.func108,Tryz.ntmps108
 go_wp2_with fail
 refine(qg _ _ ns ls _ (hn.below (by exact bel_)) (hl.below (by exact bel_)) h1 h2).mono ?_
 rintro e w1 ⟨An1,cn1,Al1,cl1,rfl,ho1,hb1⟩;have hz1:=hb1.size;simp at hz1
 have ho1':OwnW (w.heap.size+1+1) w1 (.slice An1 ns.length cn1) (.slice Al1 ls.length cl1) ns ls:=by simpa using ho1
 have hlt1:=ho1'.1.lt;have hA1:Blk w1 w.heap.size 27 #[vn,.slice (some ⟨b,off,none⟩) ls.length cl]:=Blk.below ((Blk.newAt rfl).alloc _) hb1 sz_;have hR1:Blk w1 (w.heap.size+1) 27 #[.slice none 0 0,.slice none 0 0]:=Blk.below (Blk.newAt (by simp)) hb1 sz_;have hbw1:Below w.heap.size w w1:=by exact bel_
 clear hb1 ho1;have n1:w.heap.size<w1.heap.size:=by omega
 have n2:w.heap.size+1<w1.heap.size:=by omega
 obtain⟨a_0,a_1⟩:=hA1.c2;have hbs:Below w1.heap.size w1 (w1.alloc (.cells #[.slice An1 ns.length cn1,.slice Al1 ls.length cl1] 27)):=by exact bel_
 have hbws:Below w.heap.size w (w1.alloc (.cells #[.slice An1 ns.length cn1,.slice Al1 ls.length cl1] 27)):=by exact bel_
 go_wp2_with fail
 refine(zE _ _ ns ls _ _ (hn.below hbws) (hl.below hbws) hw).mono ?_
 rintro e w2 ⟨rfl,hb2⟩;(first|(with_reducible have hcf2:=z8 hb2)|have hcf2:=bcell hb2);obtain⟨hc2,hf2⟩:=hcf2;have hz2:=hb2.size;(try simp at hz2);(try have hp2_0:=p0_ w w2);(try have hp2_1:=p1_ w w2);(try have hp2_2:=p2_ w w2);(try have hp2_3:=p3_ w w2)
 have hA2:=(hA1.alloc (.cells #[.slice An1 ns.length cn1,.slice Al1 ls.length cl1] 27)).below hb2 sz_;have hb12:Below w1.heap.size w1 w2:=hbs.trans (hb2.mono hbs.size);have hS2:Blk w2 w1.heap.size 27 #[.slice An1 ns.length cn1,.slice Al1 ls.length cl1]:=Blk.below (Blk.newAt rfl) hb2 sz_;have hR2:=hR1.below hb12 n2;have hon2:=ho1'.1.kept hb12;have hbw2:Below w.heap.size w w2:=hbw1.trans (hb12.mono hbw1.size);have n3:w1.heap.size<w2.heap.size:=hS2.lt;clear hb2 hc2 hf2 hbs hbws hb12 hA1 hR1 ho1' hbw1 a_0 a_1 hz2;obtain⟨a_0,a_1⟩:=hA2.c2
 go_wp2_with fail
 refine(zF _ _ _ _ _ i1).mono ?_
 rintro e w' ⟨rfl,rfl⟩;have c1:(k:Int)≤(cl:Int):=by omega
 have c2:(0:Int)≤(k:Int):=by omega
 have c3:(k:Int)+1≤(ls.length:Int):=by omega
 have c4:(ls.length:Int)≤(cl:Int):=by omega
 have c5:(0:Int)≤(k:Int)+1:=by omega
 have c6:((k:Int)+1).toNat =k+1:=by omega
 have hwr:IntKind.i64.wrap ((k:Int)+1)=(k:Int)+1:=IntWalk.i64_in _ (by omega);have p0:w.heap.size<w2.heap.size:=by omega
 have p1:w.heap.size+1<w2.heap.size:=by omega
 have hT2:=hT.below hbw2;have hD2:=hD.below hbw2;have HT2:=Lib.hid hT2;have HD2:=Lib.hid hD2;clear hT hD hT2 hD2;obtain⟨s_0,s_1,s_f0,s_f1⟩:=hS2.b2;have d1:¬w1.heap.size=w.heap.size+1:=by omega
 have d2:¬w1.heap.size=w.heap.size:=by omega
 go_wp2_with fail
 go_region_held3 (fun w'=>w'.cell? ⟨w.heap.size,0,none⟩=some vn∧w'.cell? ⟨w.heap.size,1,none⟩=some (.slice (some ⟨b,off,none⟩) ls.length (cl)))
  (go_keep)
  (first|(refine zi rfl _ _ _ rfl w2.heap.size 108 j0 Tryz.underlying25 hj jz0 jz1 jz2 (.slice (some ⟨w2.heap.size,0,none⟩) 0 0) (.slice (some ⟨b,off,none⟩) k (cl)) [] T rfl rfl (OwnP.drew (OwnP.made rfl (Nat.le_refl _))) (RP.below HT2.out (by exact bel_)) (by simp;have:=hTl.out;omega) sz_ ?_;intro A3 c3' w3 ho3 hg3 ha3;(have hb3:=jj (B:=w2.heap.size) hg3 sz_ sz_);(have hc3:=fun (b o:Nat) (h:b<w2.heap.size)=>hb3.cell (p:=⟨b,o,none⟩) h);(have hf3:=fun (b o:Nat) (h:b<w2.heap.size)=>hb3.frozen (p:=⟨b,o,none⟩) h);(have hz3:=hb3.size);(try simp at hz3);(have hb23:Below w2.heap.size w2 w3:=by refine Below.trans ?_ hb3;exact bel_);(have p3:w.heap.size<w3.heap.size:=by omega);(have p3':w.heap.size+1<w3.heap.size:=by omega);(have p3'':w1.heap.size<w3.heap.size:=by omega);(have HO3:=Lib.hid ho3);clear hg3 ha3 ho3)|(refine zi rfl _ _ _ rfl w2.heap.size 108 j0 Tryz.underlying25 hj jz0 jz1 jz2 (.slice A3 T.length c3') (.slice (some ⟨b,off+(k+1)*2,none⟩) (ls.length -(k+1)) (cl -(k+1))) T D rfl rfl HO3.out (RP.below HD2.out hb23) (by have:=hTl.out;have:=hDl.out;omega) sz_ ?_;intro A4 c4' w4 ho4 hg4 ha4;(have hb34:Below w2.heap.size w3 w4:=(Below.refl _ _).grown hg4 sz_ (fun k hk=>(HO3.out.lt k hk).1));(have hc4:=fun (b o:Nat) (h:b<w2.heap.size)=>hb34.cell (p:=⟨b,o,none⟩) h);(have hf4:=fun (b o:Nat) (h:b<w2.heap.size)=>hb34.frozen (p:=⟨b,o,none⟩) h);(have hz4:=hb34.size);(have p4:w.heap.size<w4.heap.size:=by omega);(have HO4:=Lib.hid ho4);clear hg4 ha4 ho4))
 have ho4:OwnP 108 w2.heap.size w4 (.slice A4 (T++D).length c4') (T++D):=HO4.out;rw[List.length_append] at ho4;have hb24:Below w2.heap.size w2 w4:=hb23.trans hb34;have hon4:=hon2.kept hb24;have hbw4:Below w.heap.size w w4:=hbw2.trans (hb24.mono hbw2.size);have hR4:=hR2.below hb24 hR2.lt;have hS4:=hS2.below hb24 hS2.lt
 have hoW4:OwnW (w.heap.size+1+1) w4 (.slice An1 ns.length cn1) (.slice A4 (T.length+D.length) c4') ns (T++D):=
  ⟨hon4,ho4.mono (by omega),fun k hk hk2=>by have:=(hlt1 k hk).2;have:=(ho4.lt k hk2).1;omega⟩
 have hoW5:=hoW4.setFar (p:=⟨w1.heap.size,1,none⟩) (by
  rintro(h|h)
  ·exact absurd (hlt1 _ h).2 (Nat.lt_irrefl _)
  ·have:=(ho4.lt _ h).1
   have h':w2.heap.size≤w1.heap.size:=this;omega) (.slice A4 (T.length+D.length) c4')
 have hbw5:=hbw4.setCell (p:=⟨w1.heap.size,1,none⟩) (show w.heap.size≤w1.heap.size by omega) (.slice A4 (T.length+D.length) c4');have hS5:Blk (w4.setCell ⟨w1.heap.size,1,none⟩ (.slice A4 (T.length+D.length) c4')) w1.heap.size 27 #[.slice An1 ns.length cn1,.slice A4 (T.length+D.length) c4']:=hS4.set_ 1 _;have hR5:=hR4.far (p:=⟨w1.heap.size,1,none⟩) (show ¬w.heap.size+1=w1.heap.size by omega) (.slice A4 (T.length+D.length) c4');have hO:=Lib.hid (((hoW5.setLow (p:=⟨w.heap.size+1,0,none⟩) (show w.heap.size+1<w.heap.size+1+1 by omega) (.slice An1 ns.length cn1)).setLow (p:=⟨w.heap.size+1,1,none⟩) (show w.heap.size+1<w.heap.size+1+1 by omega) (.slice A4 (T.length+D.length) c4')).mono (show w.heap.size≤_ by omega));have HB:=Lib.hid ((hbw5.setCell (p:=⟨w.heap.size+1,0,none⟩) sz_ (.slice An1 ns.length cn1)).setCell (p:=⟨w.heap.size+1,1,none⟩) sz_ (.slice A4 (T.length+D.length) c4'));have HLEN:=Lib.hid (show T.length+D.length=(T++D).length by simp);clear hoW4 hoW5 hbw4 hbw5 hon2 hon4 ho4 HO3 HO4 hS2 hS4 hR2 hR4 s_0 s_1 s_f0 s_f1 a_0 a_1 hc3 hf3 hc4 hf4 hb23 hb34 hb24 hb3 hA2;obtain⟨s_0,s_1,s_f0,s_f1⟩:=hS5.b2;obtain⟨r_0,r_1,r_f0,r_f1⟩:=hR5.b2;clear hS5 hR5;generalize w4.setCell ⟨w1.heap.size,1,none⟩ (.slice A4 (T.length+D.length) c4')=w5 at*;generalize w1.heap.size=B1 at*;go_wp2;exact bodyPost_ret (v:= .tuple #[.agg #[.slice An1 ns.length cn1,.slice A4 (T.length+D.length) c4'],.bool true]) (by simp[results,Tryz.results108,go_sem,r_0,r_1,s_0,s_1,d1]) rfl (zC.mk rfl rfl HLEN.out hO.out HB.out)
theorem z0w {ns ls:List Pr} {k:Int} (h:hasL ns ls k=true):winB ns ls=true∧∃m:Nat,k=(m:Int)∧m<ls.length:=by
 unfold hasL at h;rw[Bool.and_eq_true] at h;have:=zt.1 h.2;exact⟨h.1,k.toNat,by omega,by omega⟩
theorem z2Q (vn vl:Value) (ns ls:List Pr) (k:Int) (w:World) (hn:RP w vn ns) (hl:RP w vl ls) (h1:ns.length≤1048576) (h2:ls.length≤1048576):
  Calls Tryz.prog 162 #[.agg #[vn,vl],.int .i64 k] w (zC ns (jI ns ls k) (hasL ns ls k) w):=by
 unfold jI
 cases hw:hasL ns ls k
 ·exact z44 vn vl ns ls k w hn hl h1 h2 hw
 ·obtain⟨_,m,rfl,hm⟩:=z0w hw
  have:=z3B vn vl ns ls m w hn hl h1 h2 hm hw
  simpa using this
theorem z2W (vn vl:Value) (ns ls:List Pr) (k:Int) (w:World) (hn:RP w vn ns) (hl:RP w vl ls) (h1:ns.length≤1048576) (h2:ls.length≤1048576):
  Calls Tryz.prog 108 #[.agg #[vn,vl],.int .i64 k] w (zC ns (jI ns ls k) (hasL ns ls k) w):=by
 unfold jI
 cases hw:hasL ns ls k
 ·exact z4H vn vl ns ls k w hn hl h1 h2 hw
 ·obtain⟨hwin,m,rfl,hm⟩:=z0w hw
  obtain⟨Al,cl,rfl,hcl,_,hcell⟩:=hl.form;obtain⟨b,off,rfl,_⟩:=hcell (by omega);have e:ls.take (m:Int).toNat ++ls.drop ((m:Int).toNat +1)=ls.take m++ls.drop (m+1):=by simp
  rw[if_pos rfl,e];have hT:=RP.take hl m (by omega);have hD:=RP.drop hl (m+1) (by omega);have hTl:Hid ((ls.take m).length =m):=Lib.hid (by simp;omega)
  by_cases hck:cl=m+1
  ·subst hck
   rw[if_pos rfl] at hD;have e0:ls.length -(m+1)=0:=by omega
   rw[e0,Nat.sub_self] at hD;exact JB vn ns ls _ _ b off m w hn hl h1 h2 hm hwin hcl hT hTl hD (Lib.hid (by simp;omega))
  ·rw[if_neg hck] at hD
   exact Jw vn ns ls _ _ b off cl m w hn hl h1 h2 hm hwin hcl hck hT hTl hD (Lib.hid (by simp))
theorem X7 {a b:List Pr} {i:Nat} (h:i<a.length):ndI (a++b) (i:Int)=ndI a (i:Int):=by
 rw[zT _ _ (by simp;omega),zT _ _ h,List.getElem_append_left h]
theorem z2V {ns ls:List Pr} (h:q7 ns ls) {i k:Nat} (hi:i<ls.length) (hk:k<ls.length) (hne:i≠k):qs ns (ndI ls k) (ndI ls i)=false:=by
 rcases Nat.lt_or_gt_of_ne hne with h1|h1
 ·exact(h.2.2.2.2.2 k hk).2.1 i h1
 ·rw[kx];exact(h.2.2.2.2.2 i hi).2.1 k h1
theorem XX {ls:List Pr} {k:Nat} (hk:k<ls.length) (i:Nat) (hi:i<(ls.take k++ls.drop (k+1)).length):
  ndI (ls.take k++ls.drop (k+1)) (i:Nat)=ndI ls ((if i<k then i else i+1:Nat):Int):=by
 have hl:(ls.take k).length =k:=by simp;omega
 have hi':i<ls.length -1:=by simp at hi;omega
 by_cases h:i<k
 ·rw[if_pos h,X7 (by omega),zT _ _ (by omega),zT _ _ (by omega),List.getElem_take]
 ·rw[if_neg h,zT _ _ hi,zT _ _ (by omega),List.getElem_append_right (by omega),List.getElem_drop]
  congr 1
  omega
theorem z1D {ns:List Pr} {l:Pr} (h:zj ns l=true):qs ns l l=true:=by
 have e:∀p:Pr,qd p p=true:=fun p=>jG.2 rfl
 simp[qs,h,jf,e]
theorem z1J {ns ls:List Pr} (h:q7 ns ls) {i k:Nat} (hi:i<ls.length) (hk:k<ls.length) (hne:i≠k):ndI ls (i:Nat)≠ndI ls (k:Nat):=by
 intro e;have h1:=z2V h hi hk hne;rw[e,z1D ((h.2.2.2.2.2 k hk).1)] at h1
 cases h1
attribute [local go_sem ↓] zu xo zw xz
theorem QY (vn vl un ul:Value) (ns ls ns' ls':List (Int×Int)) (w:World) (hn:RP w vn ns) (hl:RP w vl ls) (hn':RP w un ns') (hl':RP w ul ls'):
  Calls Tryz.prog 19 #[.agg #[vn,vl],.agg #[un,ul]] w fun e w'=>e= .returned (.bool (qz ns ls ns' ls'))∧Below w.heap.size w w':=by
 obtain⟨A1,c1,rfl,hc1,hm1,hcell1⟩:=hn.form;obtain⟨A2,c2,rfl,hc2,hm2,hcell2⟩:=hl.form;obtain⟨A3,c3,rfl,hc3,hm3,hcell3⟩:=hn'.form;obtain⟨A4,c4,rfl,hc4,hm4,hcell4⟩:=hl'.form;unfold maxLen at hm1 hm2 hm3 hm4;clear hn hl hn' hl'
 by_cases h1:ns.length=ns'.length
 ·have e1:((ns.length:Int) != (ns'.length:Int))=false:=by simp[h1]
  by_cases h2:ls.length=ls'.length
  ·have e2:((ls.length:Int) != (ls'.length:Int))=false:=by simp[h2]
   have H1:=Lib.hid h1;have H2:=Lib.hid h2;clear h1 h2
   go_enter Tryz.func19,Tryz.ntmps19
   go_wp2;generalize hbw0:(w.alloc _).alloc _=w0;have hb0:Below w.heap.size w w0:=by rw[←hbw0];exact bel_
   have hv0:w0.cell? ⟨w.heap.size,0,none⟩=some (.slice A1 ns.length c1):=by rw[←hbw0];simp[go_sem]
   have hv1:w0.cell? ⟨w.heap.size,1,none⟩=some (.slice A2 ls.length c2):=by rw[←hbw0];simp[go_sem]
   have hu0:w0.cell? ⟨w.heap.size+1,0,none⟩=some (.slice A3 ns'.length c3):=by rw[←hbw0];simp[go_sem]
   have hu1:w0.cell? ⟨w.heap.size+1,1,none⟩=some (.slice A4 ls'.length c4):=by rw[←hbw0];simp[go_sem]
   have hs0:w0.heap.size=w.heap.size+1+1:=by rw[←hbw0];simp
   clear hbw0
   go_loopw [5] (fun i wr=>∃k:Nat,∃n:Nat,k≤ns.length∧i= .int .i64 k∧Hid (ns.take k=ns'.take k)∧wr=w0.drewN n) (fun i _=>ns.length -(intOf i).toNat)
   case atStart=>exact⟨0,0,Nat.zero_le _,rfl,Lib.hid (by simp),rfl⟩
   case round=>
    obtain⟨k,n,hk,rfl,HT,rfl⟩:=hrel
    by_cases hlt:k<ns.length
    ·obtain⟨b,off,rfl,hb,hcl⟩:=hcell1 (by omega)
     have hlt':k<ns'.length:=by rw[←H1.out];exact hlt
     obtain⟨b',off',rfl,hb',hcl'⟩:=hcell3 (by omega);obtain⟨k0,k1⟩:=hcl k hlt;obtain⟨j0,j1⟩:=hcl' k hlt';have q0:=(hb0.cell (p:=⟨b,off+k*2,none⟩) hb).trans k0;have q1:=(hb0.cell (p:=⟨b,off+k*2+1,none⟩) hb).trans k1;have p0:=(hb0.cell (p:=⟨b',off'+k*2,none⟩) hb').trans j0;have p1:=(hb0.cell (p:=⟨b',off'+k*2+1,none⟩) hb').trans j1;have hi1:(0:Int)≤(k:Int):=by omega
     have hi2:(k:Int)<(ns.length:Int):=by omega
     have hi3:(k:Int)<(ns'.length:Int):=by omega
     clear hcl hcell1 hcl' hcell3 hcell2 hcell4 k0 k1 j0 j1
     cases hxy:prB ns[k].1 ns[k].2 ns'[k].1 ns'[k].2
     ·have HF:Hid (qz ns ls ns' ls'=false):=Lib.hid (by
       unfold qz;rw[Bool.and_eq_false_iff];left
       rw[decide_eq_false_iff_not];intro h;have:ns[k]=ns'[k]:=by simp[h]
       rw[this,kh] at hxy;cases hxy)
      go_wp2
      go_quiet (fail)
      go_wp2;go_ret
      exact⟨za HF.out.symm,by exact bel_⟩
     ·have HE:Hid (ns[k]=ns'[k]):=Lib.hid (yP.1 hxy)
      go_wp2
      go_quiet (fail)
      go_wp2;go_roundw
      case rel=>exact⟨k+1,_,by omega,by go_num,Lib.hid (jN HT.out hlt hlt' HE.out),rfl⟩
      case measure=>simp[intOf];omega
    ·have hkk:ns.length≤k:=by omega
     have hke:ns=ns':=by
      have h:=HT.out;rw[List.take_of_length_le hkk,List.take_of_length_le (by rw[←H1.out];exact hkk)] at h;exact h
     have HE:=Lib.hid hke;clear hke hcell1 hcell3;go_wp2
     go_loopw [6] (fun i wr=>∃k:Nat,∃n:Nat,k≤ls.length∧i= .int .i64 k∧Hid (ls.take k=ls'.take k)∧wr=w0.drewN n) (fun i _=>ls.length -(intOf i).toNat)
     case atStart=>exact⟨0,_,Nat.zero_le _,rfl,Lib.hid (by simp),rfl⟩
     case round=>
      obtain⟨k,n,hk,rfl,HT,rfl⟩:=hrel
      by_cases hlt:k<ls.length
      ·obtain⟨b,off,rfl,hb,hcl⟩:=hcell2 (by omega)
       have hlt':k<ls'.length:=by rw[←H2.out];exact hlt
       obtain⟨b',off',rfl,hb',hcl'⟩:=hcell4 (by omega);obtain⟨k0,k1⟩:=hcl k hlt;obtain⟨j0,j1⟩:=hcl' k hlt';have q0:=(hb0.cell (p:=⟨b,off+k*2,none⟩) hb).trans k0;have q1:=(hb0.cell (p:=⟨b,off+k*2+1,none⟩) hb).trans k1;have p0:=(hb0.cell (p:=⟨b',off'+k*2,none⟩) hb').trans j0;have p1:=(hb0.cell (p:=⟨b',off'+k*2+1,none⟩) hb').trans j1;have hi1:(0:Int)≤(k:Int):=by omega
       have hi2:(k:Int)<(ls.length:Int):=by omega
       have hi3:(k:Int)<(ls'.length:Int):=by omega
       clear hcl hcl' hcell2 hcell4 k0 k1 j0 j1
       cases hxy:prB ls[k].1 ls[k].2 ls'[k].1 ls'[k].2
       ·have HF:Hid (qz ns ls ns' ls'=false):=Lib.hid (by
         unfold qz;rw[Bool.and_eq_false_iff];right
         rw[decide_eq_false_iff_not];intro h;have:ls[k]=ls'[k]:=by simp[h]
         rw[this,kh] at hxy;cases hxy)
        go_wp2
        go_quiet (fail)
        go_wp2;go_ret
        exact⟨za HF.out.symm,by exact bel_⟩
       ·have HE:Hid (ls[k]=ls'[k]):=Lib.hid (yP.1 hxy)
        go_wp2
        go_quiet (fail)
        go_wp2;go_roundw
        case rel=>exact⟨k+1,_,by omega,by go_num,Lib.hid (jN HT.out hlt hlt' HE.out),rfl⟩
        case measure=>simp[intOf];omega
      ·have hkk:ls.length≤k:=by omega
       have hke:ls=ls':=by
        have h:=HT.out;rw[List.take_of_length_le hkk,List.take_of_length_le (by rw[←H2.out];exact hkk)] at h;exact h
       have HF:Hid (qz ns ls ns' ls'=true):=Lib.hid (by simp[qz,HE.out,hke]);clear hke hcell2 hcell4;go_wp2;go_ret
       exact⟨za HF.out.symm,by exact bel_⟩
  ·have e2:((ls.length:Int) != (ls'.length:Int))=true:=by simp;omega
   have HF:Hid (qz ns ls ns' ls'=false):=Lib.hid (by
    unfold qz;rw[Bool.and_eq_false_iff];right
    rw[decide_eq_false_iff_not];intro h;exact h2 (by rw[h]))
   have H1:=Lib.hid h1;clear h1 hcell1 hcell2 hcell3 hcell4
   go_enter Tryz.func19,Tryz.ntmps19
   go_wp2;go_ret
   exact⟨za HF.out.symm,by exact bel_⟩
 ·have e1:((ns.length:Int) != (ns'.length:Int))=true:=by simp;omega
  have HF:Hid (qz ns ls ns' ls'=false):=Lib.hid (by
   unfold qz;rw[Bool.and_eq_false_iff];left
   rw[decide_eq_false_iff_not];intro h;exact h1 (by rw[h]))
  clear hcell1 hcell2 hcell3 hcell4
  go_enter Tryz.func19,Tryz.ntmps19
  go_wp2;go_ret
  exact⟨za HF.out.symm,by exact bel_⟩
theorem qD (vn vl:Value) (ns ls:List (Int×Int)) (n x:Int) (w:World) (hn:RP w vn ns) (hl:RP w vl ls) (h0:0≤n) (h1:n≤1000000000) (hx:Hid (szW n ns.length ls.length=x)):
  Calls Tryz.prog 164 #[.agg #[vn,vl],.int .i64 n] w fun e w'=>e= .returned (.int .i64 x)∧Below w.heap.size w w':=
 (VG vn vl ns ls n w hn hl h0 h1).mono fun e w' ⟨he,hw⟩=>⟨he.trans (ze hx.out),hw⟩
theorem ks (vn vl un ul:Value) (ns ls ns' ls':List (Int×Int)) (b:Bool) (w:World) (hn:RP w vn ns) (hl:RP w vl ls) (hn':RP w un ns') (hl':RP w ul ls') (hx:Hid (qz ns ls ns' ls'=b)):
  Calls Tryz.prog 19 #[.agg #[vn,vl],.agg #[un,ul]] w fun e w'=>e= .returned (.bool b)∧Below w.heap.size w w':=
 (QY vn vl un ul ns ls ns' ls' w hn hl hn' hl').mono fun e w' ⟨he,hw⟩=>⟨he.trans (za hx.out),hw⟩
theorem kw (vn vl un ul:Value) (ns ls ns' ls':List (Int×Int)) (b:Bool) (w:World) (hn:RP w vn ns) (hl:RP w vl ls) (hn':RP w un ns') (hl':RP w ul ls') (hx:Hid (qz ns ls ns' ls'=b)):
  Calls Tryz.prog 88 #[.agg #[vn,vl],.agg #[un,ul]] w fun e w'=>e= .returned (.bool b)∧Below w.heap.size w w':=
 (QX vn vl un ul ns ls ns' ls' w hn hl hn' hl').mono fun e w' ⟨he,hw⟩=>⟨he.trans (za hx.out),hw⟩
end Go.Proofs.YtnjcpljhmhdhkaaGreat
