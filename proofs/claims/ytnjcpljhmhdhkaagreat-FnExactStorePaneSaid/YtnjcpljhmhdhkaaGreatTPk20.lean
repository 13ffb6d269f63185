/- part 20 -/
import Derived.Test.YtnjcpljhmhdhkaaGreatTPk19
import Derived.Deep.RegionHeld3
set_option linter.unusedSimpArgs false
set_option linter.unusedVariables false
set_option maxRecDepth 100000
set_option maxHeartbeats 4000000
namespace Go.Proofs.YtnjcpljhmhdhkaaGreat
open Go.RowKit
noncomputable def km (ns ls:List Pr) (k a b:Int):Bool:=if k=1 then addB ns ls a b else if k=2 then hasL ns ls a else if k=3 then qK ns ls a else false
noncomputable def vv (ns ls:List Pr) (k a b:Int):List Pr:=if k=3 then q9 ns ls a else ns
noncomputable def vq (ns ls:List Pr) (k a b:Int):List Pr:=if k=1 then addL ns ls a b else if k=2 then jI ns ls a else if k=3 then qa ns ls a else ls
theorem z53 (vn vl:Value) (ns ls:List Pr) (a b:Int) (w:World) (hn:RP w vn ns) (hl:RP w vl ls) (h1:ns.length≤1048576) (h2:ls.length≤1048576):
  Calls Tryz.prog 89 #[.agg #[vn,vl],.int .i64 1,.int .i64 a,.int .i64 b] w (zC ns (addL ns ls a b) (addB ns ls a b) w):=by
 go_enter Tryz.func89,Tryz.ntmps89
 go_wp2_with fail
 refine(z4f _ _ ns ls a b _ (hn.below (by exact bel_)) (hl.below (by exact bel_)) h1 h2).mono ?_
 rintro e w1 ⟨An,cn,Al,cl,rfl,ho1,hb1⟩;have hz1:=hb1.size;simp at hz1
 have hR1:Blk w1 (w.heap.size+1) 27 #[.slice none 0 0,.slice none 0 0]:=Blk.below (Blk.newAt (by simp)) hb1 sz_;have ho1':OwnW (w.heap.size+1+1) w1 (.slice An (ns).length cn) (.slice Al ((addL ns ls a b)).length cl) ns (addL ns ls a b):=by simpa using ho1
 have hbw1:Below w.heap.size w w1:=by exact bel_
 have n2:w.heap.size+1<w1.heap.size:=by omega
 clear hb1 ho1;have hOO:=Lib.hid (((ho1'.setLow (p:=⟨w.heap.size+1,0,none⟩) (show w.heap.size+1<w.heap.size+1+1 by omega) (.slice An (ns).length cn)).setLow (p:=⟨w.heap.size+1,1,none⟩) (show w.heap.size+1<w.heap.size+1+1 by omega) (.slice Al ((addL ns ls a b)).length cl)).mono (show w.heap.size≤_ by omega));have HB:=Lib.hid ((hbw1.setCell (p:=⟨w.heap.size+1,0,none⟩) sz_ (.slice An (ns).length cn)).setCell (p:=⟨w.heap.size+1,1,none⟩) sz_ (.slice Al ((addL ns ls a b)).length cl));clear ho1' hbw1;obtain⟨r_0,r_1,r_f0,r_f1⟩:=hR1.b2;go_wp2;exact bodyPost_ret (v:= .tuple #[.agg #[.slice An (ns).length cn,.slice Al ((addL ns ls a b)).length cl],.bool (addB ns ls a b)]) (by simp[results,Tryz.results89,go_sem,r_0,r_1,n2]) rfl (zC.mk rfl rfl rfl hOO.out HB.out)
theorem z5x (vn vl:Value) (ns ls:List Pr) (a b:Int) (w:World) (hn:RP w vn ns) (hl:RP w vl ls) (h1:ns.length≤1048576) (h2:ls.length≤1048576):
  Calls Tryz.prog 89 #[.agg #[vn,vl],.int .i64 2,.int .i64 a,.int .i64 b] w (zC ns (jI ns ls a) (hasL ns ls a) w):=by
 go_enter Tryz.func89,Tryz.ntmps89
 go_wp2_with fail
 refine(z2Q _ _ ns ls a _ (hn.below (by exact bel_)) (hl.below (by exact bel_)) h1 h2).mono ?_
 rintro e w1 ⟨An,cn,Al,cl,rfl,ho1,hb1⟩;have hz1:=hb1.size;simp at hz1
 have hR1:Blk w1 (w.heap.size+1) 27 #[.slice none 0 0,.slice none 0 0]:=Blk.below (Blk.newAt (by simp)) hb1 sz_;have ho1':OwnW (w.heap.size+1+1) w1 (.slice An (ns).length cn) (.slice Al ((jI ns ls a)).length cl) ns (jI ns ls a):=by simpa using ho1
 have hbw1:Below w.heap.size w w1:=by exact bel_
 have n2:w.heap.size+1<w1.heap.size:=by omega
 clear hb1 ho1;have hOO:=Lib.hid (((ho1'.setLow (p:=⟨w.heap.size+1,0,none⟩) (show w.heap.size+1<w.heap.size+1+1 by omega) (.slice An (ns).length cn)).setLow (p:=⟨w.heap.size+1,1,none⟩) (show w.heap.size+1<w.heap.size+1+1 by omega) (.slice Al ((jI ns ls a)).length cl)).mono (show w.heap.size≤_ by omega));have HB:=Lib.hid ((hbw1.setCell (p:=⟨w.heap.size+1,0,none⟩) sz_ (.slice An (ns).length cn)).setCell (p:=⟨w.heap.size+1,1,none⟩) sz_ (.slice Al ((jI ns ls a)).length cl));clear ho1' hbw1;obtain⟨r_0,r_1,r_f0,r_f1⟩:=hR1.b2;go_wp2;exact bodyPost_ret (v:= .tuple #[.agg #[.slice An (ns).length cn,.slice Al ((jI ns ls a)).length cl],.bool (hasL ns ls a)]) (by simp[results,Tryz.results89,go_sem,r_0,r_1,n2]) rfl (zC.mk rfl rfl rfl hOO.out HB.out)
theorem z57 (vn vl:Value) (ns ls:List Pr) (a b:Int) (w:World) (hn:RP w vn ns) (hl:RP w vl ls) (h1:ns.length≤1048576) (h2:ls.length≤1048576):
  Calls Tryz.prog 89 #[.agg #[vn,vl],.int .i64 3,.int .i64 a,.int .i64 b] w (zC (q9 ns ls a) (qa ns ls a) (qK ns ls a) w):=by
 go_enter Tryz.func89,Tryz.ntmps89
 go_wp2_with fail
 refine(z3y _ _ ns ls a _ (hn.below (by exact bel_)) (hl.below (by exact bel_)) h1 h2).mono ?_
 rintro e w1 ⟨An,cn,Al,cl,rfl,ho1,hb1⟩;have hz1:=hb1.size;simp at hz1
 have hR1:Blk w1 (w.heap.size+1) 27 #[.slice none 0 0,.slice none 0 0]:=Blk.below (Blk.newAt (by simp)) hb1 sz_;have ho1':OwnW (w.heap.size+1+1) w1 (.slice An ((q9 ns ls a)).length cn) (.slice Al ((qa ns ls a)).length cl) (q9 ns ls a) (qa ns ls a):=by simpa using ho1
 have hbw1:Below w.heap.size w w1:=by exact bel_
 have n2:w.heap.size+1<w1.heap.size:=by omega
 clear hb1 ho1;have hOO:=Lib.hid (((ho1'.setLow (p:=⟨w.heap.size+1,0,none⟩) (show w.heap.size+1<w.heap.size+1+1 by omega) (.slice An ((q9 ns ls a)).length cn)).setLow (p:=⟨w.heap.size+1,1,none⟩) (show w.heap.size+1<w.heap.size+1+1 by omega) (.slice Al ((qa ns ls a)).length cl)).mono (show w.heap.size≤_ by omega));have HB:=Lib.hid ((hbw1.setCell (p:=⟨w.heap.size+1,0,none⟩) sz_ (.slice An ((q9 ns ls a)).length cn)).setCell (p:=⟨w.heap.size+1,1,none⟩) sz_ (.slice Al ((qa ns ls a)).length cl));clear ho1' hbw1;obtain⟨r_0,r_1,r_f0,r_f1⟩:=hR1.b2;go_wp2;exact bodyPost_ret (v:= .tuple #[.agg #[.slice An ((q9 ns ls a)).length cn,.slice Al ((qa ns ls a)).length cl],.bool (qK ns ls a)]) (by simp[results,Tryz.results89,go_sem,r_0,r_1,n2]) rfl (zC.mk rfl rfl rfl hOO.out HB.out)
theorem z5l (vn vl:Value) (ns ls:List Pr) (k:Int) (a b:Int) (w:World) (hn:RP w vn ns) (hl:RP w vl ls) (h1:ns.length≤1048576) (h2:ls.length≤1048576) (hk1:(k==1)=false) (hk2:(k==2)=false) (hk3:(k==3)=false):
  Calls Tryz.prog 89 #[.agg #[vn,vl],.int .i64 k,.int .i64 a,.int .i64 b] w (zC ns ls false w):=by
 go_enter Tryz.func89,Tryz.ntmps89
 go_wp2_with fail
 refine(qf _ _ ns ls _ (hn.below (by exact bel_)) (hl.below (by exact bel_)) h1 h2).mono ?_
 rintro e w1 ⟨An,cn,Al,cl,rfl,ho1,hb1⟩;have hz1:=hb1.size;simp at hz1
 have hR1:Blk w1 (w.heap.size+1) 27 #[.slice none 0 0,.slice none 0 0]:=Blk.below (Blk.newAt (by simp)) hb1 sz_;have ho1':OwnW (w.heap.size+1+1) w1 (.slice An (ns).length cn) (.slice Al (ls).length cl) ns ls:=by simpa using ho1
 have hbw1:Below w.heap.size w w1:=by exact bel_
 have n2:w.heap.size+1<w1.heap.size:=by omega
 clear hb1 ho1;have hOO:=Lib.hid (((ho1'.setLow (p:=⟨w.heap.size+1,0,none⟩) (show w.heap.size+1<w.heap.size+1+1 by omega) (.slice An (ns).length cn)).setLow (p:=⟨w.heap.size+1,1,none⟩) (show w.heap.size+1<w.heap.size+1+1 by omega) (.slice Al (ls).length cl)).mono (show w.heap.size≤_ by omega));have HB:=Lib.hid ((hbw1.setCell (p:=⟨w.heap.size+1,0,none⟩) sz_ (.slice An (ns).length cn)).setCell (p:=⟨w.heap.size+1,1,none⟩) sz_ (.slice Al (ls).length cl));clear ho1' hbw1;obtain⟨r_0,r_1,r_f0,r_f1⟩:=hR1.b2;go_wp2;exact bodyPost_ret (v:= .tuple #[.agg #[.slice An (ns).length cn,.slice Al (ls).length cl],.bool false]) (by simp[results,Tryz.results89,go_sem,r_0,r_1,n2]) rfl (zC.mk rfl rfl rfl hOO.out HB.out)
theorem z3f (vn vl:Value) (ns ls:List Pr) (k a b:Int) (w:World) (hn:RP w vn ns) (hl:RP w vl ls) (h1:ns.length≤1048576) (h2:ls.length≤1048576):
  Calls Tryz.prog 89 #[.agg #[vn,vl],.int .i64 k,.int .i64 a,.int .i64 b] w (zC (vv ns ls k a b) (vq ns ls k a b) (km ns ls k a b) w):=by
 unfold vv vq km
 by_cases e1:k=1
 ·subst e1;simpa using z53 vn vl ns ls a b w hn hl h1 h2
 ·by_cases e2:k=2
  ·subst e2;simpa using z5x vn vl ns ls a b w hn hl h1 h2
  ·by_cases e3:k=3
   ·subst e3;simpa using z57 vn vl ns ls a b w hn hl h1 h2
   ·rw[if_neg e3,if_neg e1,if_neg e2,if_neg e3,if_neg e1,if_neg e2,if_neg e3]
    exact z5l vn vl ns ls k a b w hn hl h1 h2 (by simp[e1]) (by simp[e2]) (by simp[e3])
theorem z4Y (vn vl:Value) (ns ls:List Pr) (a b:Int) (w:World) (hn:RP w vn ns) (hl:RP w vl ls) (h1:ns.length≤1048576) (h2:ls.length≤1048576):
  Calls Tryz.prog 38 #[.agg #[vn,vl],.int .i64 1,.int .i64 a,.int .i64 b] w (zC ns (addL ns ls a b) (addB ns ls a b) w):=by
 go_enter Tryz.func38,Tryz.ntmps38
 go_wp2_with fail
 refine(z4k _ _ ns ls a b _ (hn.below (by exact bel_)) (hl.below (by exact bel_)) h1 h2).mono ?_
 rintro e w1 ⟨An,cn,Al,cl,rfl,ho1,hb1⟩;have hz1:=hb1.size;simp at hz1
 have hR1:Blk w1 (w.heap.size+1) 27 #[.slice none 0 0,.slice none 0 0]:=Blk.below (Blk.newAt (by simp)) hb1 sz_;have ho1':OwnW (w.heap.size+1+1) w1 (.slice An (ns).length cn) (.slice Al ((addL ns ls a b)).length cl) ns (addL ns ls a b):=by simpa using ho1
 have hbw1:Below w.heap.size w w1:=by exact bel_
 have n2:w.heap.size+1<w1.heap.size:=by omega
 clear hb1 ho1;have d1:¬w1.heap.size=w.heap.size+1:=by omega
 have hOO:=Lib.hid ((((ho1'.setLow (p:=⟨w.heap.size+1,0,none⟩) (show w.heap.size+1<w.heap.size+1+1 by omega) (.slice An (ns).length cn)).setLow (p:=⟨w.heap.size+1,1,none⟩) (show w.heap.size+1<w.heap.size+1+1 by omega) (.slice Al ((addL ns ls a b)).length cl)).alloc (.cells #[.slice An (ns).length cn,.slice Al ((addL ns ls a b)).length cl] 27)).mono (show w.heap.size≤_ by omega));have HB:=Lib.hid (((hbw1.setCell (p:=⟨w.heap.size+1,0,none⟩) sz_ (.slice An (ns).length cn)).setCell (p:=⟨w.heap.size+1,1,none⟩) sz_ (.slice Al ((addL ns ls a b)).length cl)).alloc (by simp;omega) (.cells #[.slice An (ns).length cn,.slice Al ((addL ns ls a b)).length cl] 27));clear ho1' hbw1;obtain⟨r_0,r_1,r_f0,r_f1⟩:=hR1.b2;go_wp2;exact bodyPost_ret (v:= .tuple #[.agg #[.slice An (ns).length cn,.slice Al ((addL ns ls a b)).length cl],.bool (addB ns ls a b)]) (by simp[results,Tryz.results38,go_sem,r_0,r_1,n2]) rfl (zC.mk rfl rfl rfl hOO.out HB.out)
theorem z5h (vn vl:Value) (ns ls:List Pr) (a b:Int) (w:World) (hn:RP w vn ns) (hl:RP w vl ls) (h1:ns.length≤1048576) (h2:ls.length≤1048576):
  Calls Tryz.prog 38 #[.agg #[vn,vl],.int .i64 2,.int .i64 a,.int .i64 b] w (zC ns (jI ns ls a) (hasL ns ls a) w):=by
 go_enter Tryz.func38,Tryz.ntmps38
 go_wp2_with fail
 refine(z2W _ _ ns ls a _ (hn.below (by exact bel_)) (hl.below (by exact bel_)) h1 h2).mono ?_
 rintro e w1 ⟨An,cn,Al,cl,rfl,ho1,hb1⟩;have hz1:=hb1.size;simp at hz1
 have hR1:Blk w1 (w.heap.size+1) 27 #[.slice none 0 0,.slice none 0 0]:=Blk.below (Blk.newAt (by simp)) hb1 sz_;have ho1':OwnW (w.heap.size+1+1) w1 (.slice An (ns).length cn) (.slice Al ((jI ns ls a)).length cl) ns (jI ns ls a):=by simpa using ho1
 have hbw1:Below w.heap.size w w1:=by exact bel_
 have n2:w.heap.size+1<w1.heap.size:=by omega
 clear hb1 ho1;have d1:¬w1.heap.size=w.heap.size+1:=by omega
 have hOO:=Lib.hid ((((ho1'.setLow (p:=⟨w.heap.size+1,0,none⟩) (show w.heap.size+1<w.heap.size+1+1 by omega) (.slice An (ns).length cn)).setLow (p:=⟨w.heap.size+1,1,none⟩) (show w.heap.size+1<w.heap.size+1+1 by omega) (.slice Al ((jI ns ls a)).length cl)).alloc (.cells #[.slice An (ns).length cn,.slice Al ((jI ns ls a)).length cl] 27)).mono (show w.heap.size≤_ by omega));have HB:=Lib.hid (((hbw1.setCell (p:=⟨w.heap.size+1,0,none⟩) sz_ (.slice An (ns).length cn)).setCell (p:=⟨w.heap.size+1,1,none⟩) sz_ (.slice Al ((jI ns ls a)).length cl)).alloc (by simp;omega) (.cells #[.slice An (ns).length cn,.slice Al ((jI ns ls a)).length cl] 27));clear ho1' hbw1;obtain⟨r_0,r_1,r_f0,r_f1⟩:=hR1.b2;go_wp2;exact bodyPost_ret (v:= .tuple #[.agg #[.slice An (ns).length cn,.slice Al ((jI ns ls a)).length cl],.bool (hasL ns ls a)]) (by simp[results,Tryz.results38,go_sem,r_0,r_1,n2]) rfl (zC.mk rfl rfl rfl hOO.out HB.out)
theorem z4R (vn vl:Value) (ns ls:List Pr) (a b:Int) (w:World) (hn:RP w vn ns) (hl:RP w vl ls) (h1:ns.length≤1048576) (h2:ls.length≤1048576):
  Calls Tryz.prog 38 #[.agg #[vn,vl],.int .i64 3,.int .i64 a,.int .i64 b] w (zC (q9 ns ls a) (qa ns ls a) (qK ns ls a) w):=by
 go_enter Tryz.func38,Tryz.ntmps38
 go_wp2_with fail
 refine(z3r _ _ ns ls a _ (hn.below (by exact bel_)) (hl.below (by exact bel_)) h1 h2).mono ?_
 rintro e w1 ⟨An,cn,Al,cl,rfl,ho1,hb1⟩;have hz1:=hb1.size;simp at hz1
 have hR1:Blk w1 (w.heap.size+1) 27 #[.slice none 0 0,.slice none 0 0]:=Blk.below (Blk.newAt (by simp)) hb1 sz_;have ho1':OwnW (w.heap.size+1+1) w1 (.slice An ((q9 ns ls a)).length cn) (.slice Al ((qa ns ls a)).length cl) (q9 ns ls a) (qa ns ls a):=by simpa using ho1
 have hbw1:Below w.heap.size w w1:=by exact bel_
 have n2:w.heap.size+1<w1.heap.size:=by omega
 clear hb1 ho1;have d1:¬w1.heap.size=w.heap.size+1:=by omega
 have hOO:=Lib.hid ((((ho1'.setLow (p:=⟨w.heap.size+1,0,none⟩) (show w.heap.size+1<w.heap.size+1+1 by omega) (.slice An ((q9 ns ls a)).length cn)).setLow (p:=⟨w.heap.size+1,1,none⟩) (show w.heap.size+1<w.heap.size+1+1 by omega) (.slice Al ((qa ns ls a)).length cl)).alloc (.cells #[.slice An ((q9 ns ls a)).length cn,.slice Al ((qa ns ls a)).length cl] 27)).mono (show w.heap.size≤_ by omega));have HB:=Lib.hid (((hbw1.setCell (p:=⟨w.heap.size+1,0,none⟩) sz_ (.slice An ((q9 ns ls a)).length cn)).setCell (p:=⟨w.heap.size+1,1,none⟩) sz_ (.slice Al ((qa ns ls a)).length cl)).alloc (by simp;omega) (.cells #[.slice An ((q9 ns ls a)).length cn,.slice Al ((qa ns ls a)).length cl] 27));clear ho1' hbw1;obtain⟨r_0,r_1,r_f0,r_f1⟩:=hR1.b2;go_wp2;exact bodyPost_ret (v:= .tuple #[.agg #[.slice An ((q9 ns ls a)).length cn,.slice Al ((qa ns ls a)).length cl],.bool (qK ns ls a)]) (by simp[results,Tryz.results38,go_sem,r_0,r_1,n2]) rfl (zC.mk rfl rfl rfl hOO.out HB.out)
theorem z4T (vn vl:Value) (ns ls:List Pr) (k:Int) (a b:Int) (w:World) (hn:RP w vn ns) (hl:RP w vl ls) (h1:ns.length≤1048576) (h2:ls.length≤1048576) (hk1:(k==1)=false) (hk2:(k==2)=false) (hk3:(k==3)=false):
  Calls Tryz.prog 38 #[.agg #[vn,vl],.int .i64 k,.int .i64 a,.int .i64 b] w (zC ns ls false w):=by
 go_enter Tryz.func38,Tryz.ntmps38
 go_wp2_with fail
 refine(qg _ _ ns ls _ (hn.below (by exact bel_)) (hl.below (by exact bel_)) h1 h2).mono ?_
 rintro e w1 ⟨An,cn,Al,cl,rfl,ho1,hb1⟩;have hz1:=hb1.size;simp at hz1
 have hR1:Blk w1 (w.heap.size+1) 27 #[.slice none 0 0,.slice none 0 0]:=Blk.below (Blk.newAt (by simp)) hb1 sz_;have ho1':OwnW (w.heap.size+1+1) w1 (.slice An (ns).length cn) (.slice Al (ls).length cl) ns ls:=by simpa using ho1
 have hbw1:Below w.heap.size w w1:=by exact bel_
 have n2:w.heap.size+1<w1.heap.size:=by omega
 clear hb1 ho1;have hOO:=Lib.hid (((ho1'.setLow (p:=⟨w.heap.size+1,0,none⟩) (show w.heap.size+1<w.heap.size+1+1 by omega) (.slice An (ns).length cn)).setLow (p:=⟨w.heap.size+1,1,none⟩) (show w.heap.size+1<w.heap.size+1+1 by omega) (.slice Al (ls).length cl)).mono (show w.heap.size≤_ by omega));have HB:=Lib.hid ((hbw1.setCell (p:=⟨w.heap.size+1,0,none⟩) sz_ (.slice An (ns).length cn)).setCell (p:=⟨w.heap.size+1,1,none⟩) sz_ (.slice Al (ls).length cl));clear ho1' hbw1;obtain⟨r_0,r_1,r_f0,r_f1⟩:=hR1.b2;go_wp2;exact bodyPost_ret (v:= .tuple #[.agg #[.slice An (ns).length cn,.slice Al (ls).length cl],.bool false]) (by simp[results,Tryz.results38,go_sem,r_0,r_1,n2]) rfl (zC.mk rfl rfl rfl hOO.out HB.out)
theorem z3j (vn vl:Value) (ns ls:List Pr) (k a b:Int) (w:World) (hn:RP w vn ns) (hl:RP w vl ls) (h1:ns.length≤1048576) (h2:ls.length≤1048576):
  Calls Tryz.prog 38 #[.agg #[vn,vl],.int .i64 k,.int .i64 a,.int .i64 b] w (zC (vv ns ls k a b) (vq ns ls k a b) (km ns ls k a b) w):=by
 unfold vv vq km
 by_cases e1:k=1
 ·subst e1;simpa using z4Y vn vl ns ls a b w hn hl h1 h2
 ·by_cases e2:k=2
  ·subst e2;simpa using z5h vn vl ns ls a b w hn hl h1 h2
  ·by_cases e3:k=3
   ·subst e3;simpa using z4R vn vl ns ls a b w hn hl h1 h2
   ·rw[if_neg e3,if_neg e1,if_neg e2,if_neg e3,if_neg e1,if_neg e2,if_neg e3]
    exact z4T vn vl ns ls k a b w hn hl h1 h2 (by simp[e1]) (by simp[e2]) (by simp[e3])
theorem z3t (ns ls:List Pr) (k:Int):(q9 ns ls k).length ≤ns.length∧(qa ns ls k).length ≤ls.length:=by
 constructor
 ·unfold q9 kc
  split
  ·exact Vv ns k _
  ·exact Nat.le_refl _
 ·unfold qa
  split
  ·rename_i h
   have hs:zJ ns ls k=true:=by unfold qK at h;rw[Bool.and_eq_true] at h;exact h.1
   obtain⟨m,p,q,t,u,rfl,hk,hj⟩:=z1Q hs;rw[hj.cl];exact VT _ _ _ _ _ _
  ·exact Nat.le_refl _
theorem z0G (ns ls:List Pr) (k a b:Int):(vv ns ls k a b).length ≤ns.length∧(vq ns ls k a b).length ≤ls.length+1:=by
 have h:=z3t ns ls a;unfold vv vq
 constructor
 ·split
  ·exact h.1
  ·exact Nat.le_refl _
 ·split
  ·unfold addL;split<;>simp
  ·split
   ·unfold jI
    split
    ·simp;omega
    ·omega
   ·split
    ·omega
    ·omega
theorem z4F (vn vl:Value) (ns ls N L:List Pr) (k a b:Int) (bb:Bool) (w:World) (hn:RP w vn ns) (hl:RP w vl ls) (h1:ns.length≤1048576) (h2:ls.length≤1048576) (hN:Hid (vv ns ls k a b=N)) (hL:Hid (vq ns ls k a b=L)) (hB:Hid (km ns ls k a b=bb)):
  Calls Tryz.prog 89 #[.agg #[vn,vl],.int .i64 k,.int .i64 a,.int .i64 b] w (zC N L bb w):=by
 rw[←hN.out,←hL.out,←hB.out];exact z3f vn vl ns ls k a b w hn hl h1 h2
theorem z3R (vn vl:Value) (ns ls N L:List Pr) (k a b:Int) (bb:Bool) (w:World) (hn:RP w vn ns) (hl:RP w vl ls) (h1:ns.length≤1048576) (h2:ls.length≤1048576) (hN:Hid (vv ns ls k a b=N)) (hL:Hid (vq ns ls k a b=L)) (hB:Hid (km ns ls k a b=bb)):
  Calls Tryz.prog 38 #[.agg #[vn,vl],.int .i64 k,.int .i64 a,.int .i64 b] w (zC N L bb w):=by
 rw[←hN.out,←hL.out,←hB.out];exact z3j vn vl ns ls k a b w hn hl h1 h2
end Go.Proofs.YtnjcpljhmhdhkaaGreat
