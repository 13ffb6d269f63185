/- part 20 -/
import Derived.Test.YtnjcpljhmhdhkaaGreatTPk19
import Derived.Deep.RegionHeld3
set_option linter.unusedSimpArgs false
set_option linter.unusedVariables false
set_option maxRecDepth 100000
set_option maxHeartbeats 4000000
namespace Go.Proofs.YtnjcpljhmhdhkaaGreat
open Go.RowKit
noncomputable def kr (ns ls:List Pr) (k a b:Int):Bool:=if k=1 then addB ns ls a b else if k=2 then hasL ns ls a else if k=3 then qK ns ls a else false
noncomputable def vo (ns ls:List Pr) (k a b:Int):List Pr:=if k=3 then qa ns ls a else ns
noncomputable def vm (ns ls:List Pr) (k a b:Int):List Pr:=if k=1 then addL ns ls a b else if k=2 then jF ns ls a else if k=3 then q9 ns ls a else ls
theorem z5u (vn vl:Value) (ns ls:List Pr) (a b:Int) (w:World) (hn:RP w vn ns) (hl:RP w vl ls) (h1:ns.length≤1048576) (h2:ls.length≤1048576):
  Calls Tryz.prog 89 #[.agg #[vn,vl],.int .i64 1,.int .i64 a,.int .i64 b] w (zC ns (addL ns ls a b) (addB ns ls a b) w):=by
 go_enter Tryz.func89,Tryz.ntmps89
 go_wp2_with fail
 refine(z4s _ _ ns ls a b _ (hn.below (by exact bel_)) (hl.below (by exact bel_)) h1 h2).mono ?_
 rintro e w1 ⟨An,cn,Al,cl,rfl,ho1,hb1⟩;have hz1:=hb1.size;simp at hz1
 have hR1:Blk w1 (w.heap.size+1) 27 #[.slice none 0 0,.slice none 0 0]:=Blk.below (Blk.newAt (by simp)) hb1 sz_;have ho1':OwnW (w.heap.size+1+1) w1 (.slice An (ns).length cn) (.slice Al ((addL ns ls a b)).length cl) ns (addL ns ls a b):=by simpa using ho1
 have hbw1:Below w.heap.size w w1:=by exact bel_
 have n2:w.heap.size+1<w1.heap.size:=by omega
 clear hb1 ho1;have hOO:=Lib.hid (((ho1'.setLow (p:=⟨w.heap.size+1,0,none⟩) (show w.heap.size+1<w.heap.size+1+1 by omega) (.slice An (ns).length cn)).setLow (p:=⟨w.heap.size+1,1,none⟩) (show w.heap.size+1<w.heap.size+1+1 by omega) (.slice Al ((addL ns ls a b)).length cl)).mono (show w.heap.size≤_ by omega));have HB:=Lib.hid ((hbw1.setCell (p:=⟨w.heap.size+1,0,none⟩) sz_ (.slice An (ns).length cn)).setCell (p:=⟨w.heap.size+1,1,none⟩) sz_ (.slice Al ((addL ns ls a b)).length cl));clear ho1' hbw1;obtain⟨r_0,r_1,r_f0,r_f1⟩:=hR1.b2;go_wp2;exact bodyPost_ret (v:= .tuple #[.agg #[.slice An (ns).length cn,.slice Al ((addL ns ls a b)).length cl],.bool (addB ns ls a b)]) (by simp[results,Tryz.results89,go_sem,r_0,r_1,n2]) rfl (zC.mk rfl rfl rfl hOO.out HB.out)
theorem z5w (vn vl:Value) (ns ls:List Pr) (a b:Int) (w:World) (hn:RP w vn ns) (hl:RP w vl ls) (h1:ns.length≤1048576) (h2:ls.length≤1048576):
  Calls Tryz.prog 89 #[.agg #[vn,vl],.int .i64 2,.int .i64 a,.int .i64 b] w (zC ns (jF ns ls a) (hasL ns ls a) w):=by
 go_enter Tryz.func89,Tryz.ntmps89
 go_wp2_with fail
 refine(z38 _ _ ns ls a _ (hn.below (by exact bel_)) (hl.below (by exact bel_)) h1 h2).mono ?_
 rintro e w1 ⟨An,cn,Al,cl,rfl,ho1,hb1⟩;have hz1:=hb1.size;simp at hz1
 have hR1:Blk w1 (w.heap.size+1) 27 #[.slice none 0 0,.slice none 0 0]:=Blk.below (Blk.newAt (by simp)) hb1 sz_;have ho1':OwnW (w.heap.size+1+1) w1 (.slice An (ns).length cn) (.slice Al ((jF ns ls a)).length cl) ns (jF ns ls a):=by simpa using ho1
 have hbw1:Below w.heap.size w w1:=by exact bel_
 have n2:w.heap.size+1<w1.heap.size:=by omega
 clear hb1 ho1;have hOO:=Lib.hid (((ho1'.setLow (p:=⟨w.heap.size+1,0,none⟩) (show w.heap.size+1<w.heap.size+1+1 by omega) (.slice An (ns).length cn)).setLow (p:=⟨w.heap.size+1,1,none⟩) (show w.heap.size+1<w.heap.size+1+1 by omega) (.slice Al ((jF ns ls a)).length cl)).mono (show w.heap.size≤_ by omega));have HB:=Lib.hid ((hbw1.setCell (p:=⟨w.heap.size+1,0,none⟩) sz_ (.slice An (ns).length cn)).setCell (p:=⟨w.heap.size+1,1,none⟩) sz_ (.slice Al ((jF ns ls a)).length cl));clear ho1' hbw1;obtain⟨r_0,r_1,r_f0,r_f1⟩:=hR1.b2;go_wp2;exact bodyPost_ret (v:= .tuple #[.agg #[.slice An (ns).length cn,.slice Al ((jF ns ls a)).length cl],.bool (hasL ns ls a)]) (by simp[results,Tryz.results89,go_sem,r_0,r_1,n2]) rfl (zC.mk rfl rfl rfl hOO.out HB.out)
theorem z4T (vn vl:Value) (ns ls:List Pr) (a b:Int) (w:World) (hn:RP w vn ns) (hl:RP w vl ls) (h1:ns.length≤1048576) (h2:ls.length≤1048576):
  Calls Tryz.prog 89 #[.agg #[vn,vl],.int .i64 3,.int .i64 a,.int .i64 b] w (zC (qa ns ls a) (q9 ns ls a) (qK ns ls a) w):=by
 go_enter Tryz.func89,Tryz.ntmps89
 go_wp2_with fail
 refine(z2Q _ _ ns ls a _ (hn.below (by exact bel_)) (hl.below (by exact bel_)) h1 h2).mono ?_
 rintro e w1 ⟨An,cn,Al,cl,rfl,ho1,hb1⟩;have hz1:=hb1.size;simp at hz1
 have hR1:Blk w1 (w.heap.size+1) 27 #[.slice none 0 0,.slice none 0 0]:=Blk.below (Blk.newAt (by simp)) hb1 sz_;have ho1':OwnW (w.heap.size+1+1) w1 (.slice An ((qa ns ls a)).length cn) (.slice Al ((q9 ns ls a)).length cl) (qa ns ls a) (q9 ns ls a):=by simpa using ho1
 have hbw1:Below w.heap.size w w1:=by exact bel_
 have n2:w.heap.size+1<w1.heap.size:=by omega
 clear hb1 ho1;have hOO:=Lib.hid (((ho1'.setLow (p:=⟨w.heap.size+1,0,none⟩) (show w.heap.size+1<w.heap.size+1+1 by omega) (.slice An ((qa ns ls a)).length cn)).setLow (p:=⟨w.heap.size+1,1,none⟩) (show w.heap.size+1<w.heap.size+1+1 by omega) (.slice Al ((q9 ns ls a)).length cl)).mono (show w.heap.size≤_ by omega));have HB:=Lib.hid ((hbw1.setCell (p:=⟨w.heap.size+1,0,none⟩) sz_ (.slice An ((qa ns ls a)).length cn)).setCell (p:=⟨w.heap.size+1,1,none⟩) sz_ (.slice Al ((q9 ns ls a)).length cl));clear ho1' hbw1;obtain⟨r_0,r_1,r_f0,r_f1⟩:=hR1.b2;go_wp2;exact bodyPost_ret (v:= .tuple #[.agg #[.slice An ((qa ns ls a)).length cn,.slice Al ((q9 ns ls a)).length cl],.bool (qK ns ls a)]) (by simp[results,Tryz.results89,go_sem,r_0,r_1,n2]) rfl (zC.mk rfl rfl rfl hOO.out HB.out)
theorem z5j (vn vl:Value) (ns ls:List Pr) (k:Int) (a b:Int) (w:World) (hn:RP w vn ns) (hl:RP w vl ls) (h1:ns.length≤1048576) (h2:ls.length≤1048576) (hk1:(k==1)=false) (hk2:(k==2)=false) (hk3:(k==3)=false):
  Calls Tryz.prog 89 #[.agg #[vn,vl],.int .i64 k,.int .i64 a,.int .i64 b] w (zC ns ls false w):=by
 go_enter Tryz.func89,Tryz.ntmps89
 go_wp2_with fail
 refine(qf _ _ ns ls _ (hn.below (by exact bel_)) (hl.below (by exact bel_)) h1 h2).mono ?_
 rintro e w1 ⟨An,cn,Al,cl,rfl,ho1,hb1⟩;have hz1:=hb1.size;simp at hz1
 have hR1:Blk w1 (w.heap.size+1) 27 #[.slice none 0 0,.slice none 0 0]:=Blk.below (Blk.newAt (by simp)) hb1 sz_;have ho1':OwnW (w.heap.size+1+1) w1 (.slice An (ns).length cn) (.slice Al (ls).length cl) ns ls:=by simpa using ho1
 have hbw1:Below w.heap.size w w1:=by exact bel_
 have n2:w.heap.size+1<w1.heap.size:=by omega
 clear hb1 ho1;have hOO:=Lib.hid (((ho1'.setLow (p:=⟨w.heap.size+1,0,none⟩) (show w.heap.size+1<w.heap.size+1+1 by omega) (.slice An (ns).length cn)).setLow (p:=⟨w.heap.size+1,1,none⟩) (show w.heap.size+1<w.heap.size+1+1 by omega) (.slice Al (ls).length cl)).mono (show w.heap.size≤_ by omega));have HB:=Lib.hid ((hbw1.setCell (p:=⟨w.heap.size+1,0,none⟩) sz_ (.slice An (ns).length cn)).setCell (p:=⟨w.heap.size+1,1,none⟩) sz_ (.slice Al (ls).length cl));clear ho1' hbw1;obtain⟨r_0,r_1,r_f0,r_f1⟩:=hR1.b2;go_wp2;exact bodyPost_ret (v:= .tuple #[.agg #[.slice An (ns).length cn,.slice Al (ls).length cl],.bool false]) (by simp[results,Tryz.results89,go_sem,r_0,r_1,n2]) rfl (zC.mk rfl rfl rfl hOO.out HB.out)
theorem z3c (vn vl:Value) (ns ls:List Pr) (k a b:Int) (w:World) (hn:RP w vn ns) (hl:RP w vl ls) (h1:ns.length≤1048576) (h2:ls.length≤1048576):
  Calls Tryz.prog 89 #[.agg #[vn,vl],.int .i64 k,.int .i64 a,.int .i64 b] w (zC (vo ns ls k a b) (vm ns ls k a b) (kr ns ls k a b) w):=by
 unfold vo vm kr
 by_cases e1:k=1
 ·subst e1;simpa using z5u vn vl ns ls a b w hn hl h1 h2
 ·by_cases e2:k=2
  ·subst e2;simpa using z5w vn vl ns ls a b w hn hl h1 h2
  ·by_cases e3:k=3
   ·subst e3;simpa using z4T vn vl ns ls a b w hn hl h1 h2
   ·rw[if_neg e3,if_neg e1,if_neg e2,if_neg e3,if_neg e1,if_neg e2,if_neg e3]
    exact z5j vn vl ns ls k a b w hn hl h1 h2 (by simp[e1]) (by simp[e2]) (by simp[e3])
theorem z5p (vn vl:Value) (ns ls:List Pr) (a b:Int) (w:World) (hn:RP w vn ns) (hl:RP w vl ls) (h1:ns.length≤1048576) (h2:ls.length≤1048576):
  Calls Tryz.prog 38 #[.agg #[vn,vl],.int .i64 1,.int .i64 a,.int .i64 b] w (zC ns (addL ns ls a b) (addB ns ls a b) w):=by
 go_enter Tryz.func38,Tryz.ntmps38
 go_wp2_with fail
 refine(z3V _ _ ns ls a b _ (hn.below (by exact bel_)) (hl.below (by exact bel_)) h1 h2).mono ?_
 rintro e w1 ⟨An,cn,Al,cl,rfl,ho1,hb1⟩;have hz1:=hb1.size;simp at hz1
 have hR1:Blk w1 (w.heap.size+1) 27 #[.slice none 0 0,.slice none 0 0]:=Blk.below (Blk.newAt (by simp)) hb1 sz_;have ho1':OwnW (w.heap.size+1+1) w1 (.slice An (ns).length cn) (.slice Al ((addL ns ls a b)).length cl) ns (addL ns ls a b):=by simpa using ho1
 have hbw1:Below w.heap.size w w1:=by exact bel_
 have n2:w.heap.size+1<w1.heap.size:=by omega
 clear hb1 ho1;have d1:¬w1.heap.size=w.heap.size+1:=by omega
 have hOO:=Lib.hid ((((ho1'.setLow (p:=⟨w.heap.size+1,0,none⟩) (show w.heap.size+1<w.heap.size+1+1 by omega) (.slice An (ns).length cn)).setLow (p:=⟨w.heap.size+1,1,none⟩) (show w.heap.size+1<w.heap.size+1+1 by omega) (.slice Al ((addL ns ls a b)).length cl)).alloc (.cells #[.slice An (ns).length cn,.slice Al ((addL ns ls a b)).length cl] 27)).mono (show w.heap.size≤_ by omega));have HB:=Lib.hid (((hbw1.setCell (p:=⟨w.heap.size+1,0,none⟩) sz_ (.slice An (ns).length cn)).setCell (p:=⟨w.heap.size+1,1,none⟩) sz_ (.slice Al ((addL ns ls a b)).length cl)).alloc (by simp;omega) (.cells #[.slice An (ns).length cn,.slice Al ((addL ns ls a b)).length cl] 27));clear ho1' hbw1;obtain⟨r_0,r_1,r_f0,r_f1⟩:=hR1.b2;go_wp2;exact bodyPost_ret (v:= .tuple #[.agg #[.slice An (ns).length cn,.slice Al ((addL ns ls a b)).length cl],.bool (addB ns ls a b)]) (by simp[results,Tryz.results38,go_sem,r_0,r_1,n2]) rfl (zC.mk rfl rfl rfl hOO.out HB.out)
theorem z5x (vn vl:Value) (ns ls:List Pr) (a b:Int) (w:World) (hn:RP w vn ns) (hl:RP w vl ls) (h1:ns.length≤1048576) (h2:ls.length≤1048576):
  Calls Tryz.prog 38 #[.agg #[vn,vl],.int .i64 2,.int .i64 a,.int .i64 b] w (zC ns (jF ns ls a) (hasL ns ls a) w):=by
 go_enter Tryz.func38,Tryz.ntmps38
 go_wp2_with fail
 refine(z2U _ _ ns ls a _ (hn.below (by exact bel_)) (hl.below (by exact bel_)) h1 h2).mono ?_
 rintro e w1 ⟨An,cn,Al,cl,rfl,ho1,hb1⟩;have hz1:=hb1.size;simp at hz1
 have hR1:Blk w1 (w.heap.size+1) 27 #[.slice none 0 0,.slice none 0 0]:=Blk.below (Blk.newAt (by simp)) hb1 sz_;have ho1':OwnW (w.heap.size+1+1) w1 (.slice An (ns).length cn) (.slice Al ((jF ns ls a)).length cl) ns (jF ns ls a):=by simpa using ho1
 have hbw1:Below w.heap.size w w1:=by exact bel_
 have n2:w.heap.size+1<w1.heap.size:=by omega
 clear hb1 ho1;have d1:¬w1.heap.size=w.heap.size+1:=by omega
 have hOO:=Lib.hid ((((ho1'.setLow (p:=⟨w.heap.size+1,0,none⟩) (show w.heap.size+1<w.heap.size+1+1 by omega) (.slice An (ns).length cn)).setLow (p:=⟨w.heap.size+1,1,none⟩) (show w.heap.size+1<w.heap.size+1+1 by omega) (.slice Al ((jF ns ls a)).length cl)).alloc (.cells #[.slice An (ns).length cn,.slice Al ((jF ns ls a)).length cl] 27)).mono (show w.heap.size≤_ by omega));have HB:=Lib.hid (((hbw1.setCell (p:=⟨w.heap.size+1,0,none⟩) sz_ (.slice An (ns).length cn)).setCell (p:=⟨w.heap.size+1,1,none⟩) sz_ (.slice Al ((jF ns ls a)).length cl)).alloc (by simp;omega) (.cells #[.slice An (ns).length cn,.slice Al ((jF ns ls a)).length cl] 27));clear ho1' hbw1;obtain⟨r_0,r_1,r_f0,r_f1⟩:=hR1.b2;go_wp2;exact bodyPost_ret (v:= .tuple #[.agg #[.slice An (ns).length cn,.slice Al ((jF ns ls a)).length cl],.bool (hasL ns ls a)]) (by simp[results,Tryz.results38,go_sem,r_0,r_1,n2]) rfl (zC.mk rfl rfl rfl hOO.out HB.out)
theorem z4P (vn vl:Value) (ns ls:List Pr) (a b:Int) (w:World) (hn:RP w vn ns) (hl:RP w vl ls) (h1:ns.length≤1048576) (h2:ls.length≤1048576):
  Calls Tryz.prog 38 #[.agg #[vn,vl],.int .i64 3,.int .i64 a,.int .i64 b] w (zC (qa ns ls a) (q9 ns ls a) (qK ns ls a) w):=by
 go_enter Tryz.func38,Tryz.ntmps38
 go_wp2_with fail
 refine(z2V _ _ ns ls a _ (hn.below (by exact bel_)) (hl.below (by exact bel_)) h1 h2).mono ?_
 rintro e w1 ⟨An,cn,Al,cl,rfl,ho1,hb1⟩;have hz1:=hb1.size;simp at hz1
 have hR1:Blk w1 (w.heap.size+1) 27 #[.slice none 0 0,.slice none 0 0]:=Blk.below (Blk.newAt (by simp)) hb1 sz_;have ho1':OwnW (w.heap.size+1+1) w1 (.slice An ((qa ns ls a)).length cn) (.slice Al ((q9 ns ls a)).length cl) (qa ns ls a) (q9 ns ls a):=by simpa using ho1
 have hbw1:Below w.heap.size w w1:=by exact bel_
 have n2:w.heap.size+1<w1.heap.size:=by omega
 clear hb1 ho1;have d1:¬w1.heap.size=w.heap.size+1:=by omega
 have hOO:=Lib.hid ((((ho1'.setLow (p:=⟨w.heap.size+1,0,none⟩) (show w.heap.size+1<w.heap.size+1+1 by omega) (.slice An ((qa ns ls a)).length cn)).setLow (p:=⟨w.heap.size+1,1,none⟩) (show w.heap.size+1<w.heap.size+1+1 by omega) (.slice Al ((q9 ns ls a)).length cl)).alloc (.cells #[.slice An ((qa ns ls a)).length cn,.slice Al ((q9 ns ls a)).length cl] 27)).mono (show w.heap.size≤_ by omega));have HB:=Lib.hid (((hbw1.setCell (p:=⟨w.heap.size+1,0,none⟩) sz_ (.slice An ((qa ns ls a)).length cn)).setCell (p:=⟨w.heap.size+1,1,none⟩) sz_ (.slice Al ((q9 ns ls a)).length cl)).alloc (by simp;omega) (.cells #[.slice An ((qa ns ls a)).length cn,.slice Al ((q9 ns ls a)).length cl] 27));clear ho1' hbw1;obtain⟨r_0,r_1,r_f0,r_f1⟩:=hR1.b2;go_wp2;exact bodyPost_ret (v:= .tuple #[.agg #[.slice An ((qa ns ls a)).length cn,.slice Al ((q9 ns ls a)).length cl],.bool (qK ns ls a)]) (by simp[results,Tryz.results38,go_sem,r_0,r_1,n2]) rfl (zC.mk rfl rfl rfl hOO.out HB.out)
theorem z4O (vn vl:Value) (ns ls:List Pr) (k:Int) (a b:Int) (w:World) (hn:RP w vn ns) (hl:RP w vl ls) (h1:ns.length≤1048576) (h2:ls.length≤1048576) (hk1:(k==1)=false) (hk2:(k==2)=false) (hk3:(k==3)=false):
  Calls Tryz.prog 38 #[.agg #[vn,vl],.int .i64 k,.int .i64 a,.int .i64 b] w (zC ns ls false w):=by
 go_enter Tryz.func38,Tryz.ntmps38
 go_wp2_with fail
 refine(qe _ _ ns ls _ (hn.below (by exact bel_)) (hl.below (by exact bel_)) h1 h2).mono ?_
 rintro e w1 ⟨An,cn,Al,cl,rfl,ho1,hb1⟩;have hz1:=hb1.size;simp at hz1
 have hR1:Blk w1 (w.heap.size+1) 27 #[.slice none 0 0,.slice none 0 0]:=Blk.below (Blk.newAt (by simp)) hb1 sz_;have ho1':OwnW (w.heap.size+1+1) w1 (.slice An (ns).length cn) (.slice Al (ls).length cl) ns ls:=by simpa using ho1
 have hbw1:Below w.heap.size w w1:=by exact bel_
 have n2:w.heap.size+1<w1.heap.size:=by omega
 clear hb1 ho1;have hOO:=Lib.hid (((ho1'.setLow (p:=⟨w.heap.size+1,0,none⟩) (show w.heap.size+1<w.heap.size+1+1 by omega) (.slice An (ns).length cn)).setLow (p:=⟨w.heap.size+1,1,none⟩) (show w.heap.size+1<w.heap.size+1+1 by omega) (.slice Al (ls).length cl)).mono (show w.heap.size≤_ by omega));have HB:=Lib.hid ((hbw1.setCell (p:=⟨w.heap.size+1,0,none⟩) sz_ (.slice An (ns).length cn)).setCell (p:=⟨w.heap.size+1,1,none⟩) sz_ (.slice Al (ls).length cl));clear ho1' hbw1;obtain⟨r_0,r_1,r_f0,r_f1⟩:=hR1.b2;go_wp2;exact bodyPost_ret (v:= .tuple #[.agg #[.slice An (ns).length cn,.slice Al (ls).length cl],.bool false]) (by simp[results,Tryz.results38,go_sem,r_0,r_1,n2]) rfl (zC.mk rfl rfl rfl hOO.out HB.out)
theorem z3C (vn vl:Value) (ns ls:List Pr) (k a b:Int) (w:World) (hn:RP w vn ns) (hl:RP w vl ls) (h1:ns.length≤1048576) (h2:ls.length≤1048576):
  Calls Tryz.prog 38 #[.agg #[vn,vl],.int .i64 k,.int .i64 a,.int .i64 b] w (zC (vo ns ls k a b) (vm ns ls k a b) (kr ns ls k a b) w):=by
 unfold vo vm kr
 by_cases e1:k=1
 ·subst e1;simpa using z5p vn vl ns ls a b w hn hl h1 h2
 ·by_cases e2:k=2
  ·subst e2;simpa using z5x vn vl ns ls a b w hn hl h1 h2
  ·by_cases e3:k=3
   ·subst e3;simpa using z4P vn vl ns ls a b w hn hl h1 h2
   ·rw[if_neg e3,if_neg e1,if_neg e2,if_neg e3,if_neg e1,if_neg e2,if_neg e3]
    exact z4O vn vl ns ls k a b w hn hl h1 h2 (by simp[e1]) (by simp[e2]) (by simp[e3])
theorem z3w (ns ls:List Pr) (k:Int):(qa ns ls k).length ≤ns.length∧(q9 ns ls k).length ≤ls.length:=by
 constructor
 ·unfold qa kq
  split
  ·exact Xb ns k _
  ·exact Nat.le_refl _
 ·unfold q9
  split
  ·rename_i h
   have hs:zI ns ls k=true:=by unfold qK at h;rw[Bool.and_eq_true] at h;exact h.1
   obtain⟨m,p,q,t,u,rfl,hk,hj⟩:=z1k hs;rw[hj.cl];exact X8 _ _ _ _ _ _
  ·exact Nat.le_refl _
theorem Xv (ns ls:List Pr) (k a b:Int):(vo ns ls k a b).length ≤ns.length∧(vm ns ls k a b).length ≤ls.length+1:=by
 have h:=z3w ns ls a;unfold vo vm
 constructor
 ·split
  ·exact h.1
  ·exact Nat.le_refl _
 ·split
  ·unfold addL;split<;>simp
  ·split
   ·unfold jF
    split
    ·simp;omega
    ·omega
   ·split
    ·omega
    ·omega
theorem z4m (vn vl:Value) (ns ls N L:List Pr) (k a b:Int) (bb:Bool) (w:World) (hn:RP w vn ns) (hl:RP w vl ls) (h1:ns.length≤1048576) (h2:ls.length≤1048576) (hN:Hid (vo ns ls k a b=N)) (hL:Hid (vm ns ls k a b=L)) (hB:Hid (kr ns ls k a b=bb)):
  Calls Tryz.prog 89 #[.agg #[vn,vl],.int .i64 k,.int .i64 a,.int .i64 b] w (zC N L bb w):=by
 rw[←hN.out,←hL.out,←hB.out];exact z3c vn vl ns ls k a b w hn hl h1 h2
theorem z3U (vn vl:Value) (ns ls N L:List Pr) (k a b:Int) (bb:Bool) (w:World) (hn:RP w vn ns) (hl:RP w vl ls) (h1:ns.length≤1048576) (h2:ls.length≤1048576) (hN:Hid (vo ns ls k a b=N)) (hL:Hid (vm ns ls k a b=L)) (hB:Hid (kr ns ls k a b=bb)):
  Calls Tryz.prog 38 #[.agg #[vn,vl],.int .i64 k,.int .i64 a,.int .i64 b] w (zC N L bb w):=by
 rw[←hN.out,←hL.out,←hB.out];exact z3C vn vl ns ls k a b w hn hl h1 h2
end Go.Proofs.YtnjcpljhmhdhkaaGreat
