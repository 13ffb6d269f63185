/- part 15 -/
import Derived.Test.YtnjcpljhmhdhkaaGreatUPk13
import Derived.Test.YtnjcpljhmhdhkaaGreatUPk14
import Derived.Deep.RegionHeld3
set_option linter.unusedSimpArgs false
set_option linter.unusedVariables false
set_option maxRecDepth 100000
set_option maxHeartbeats 8000000
namespace Go.Proofs.YtnjcpljhmhdhkaaGreat
open Go.RowKit
noncomputable def vx (ns ls:List Pr) (k a b:Int):Bool:=if k=1 then addB ns ls a b else if k=2 then hasL ns ls a else if k=3 then qY ns ls a else false
noncomputable def yh (ns ls:List Pr) (k a b:Int):List Pr:=if k=3 then qr ns ls a else ns
noncomputable def yd (ns ls:List Pr) (k a b:Int):List Pr:=if k=1 then addL ns ls a b else if k=2 then y8 ns ls a else if k=3 then qp ns ls a else ls
theorem zak (vn vl:Value) (ns ls:List Pr) (a b:Int) (w:World) (hn:RP w vn ns) (hl:RP w vl ls) (h1:ns.length<=1048576) (h2:ls.length<=1048576):
  Calls Tryz.prog 89 #[.agg #[vn,vl],.int .i64 1,.int .i64 a,.int .i64 b] w (zC ns (addL ns ls a b) (addB ns ls a b) w):=by
 go_enter Tryz.func89,Tryz.ntmps89
 go_wp2_with fail
 refine(z8f _ _ ns ls a b _ (hn.below bel_) (hl.below bel_) h1 h2).mono ?_
 rintro e w1 ⟨An,cn,Al,cl,rfl,Hj,h9⟩;have H8:=h9.size;simp at H8
 have gu:Blk w1 (w.heap.size+1) 27 #[.slice none 0 0,.slice none 0 0]:=Blk.below (Blk.newAt (by simp)) h9 sz_;have go:OwnW (w.heap.size+1+1) w1 (.slice An (ns).length cn) (.slice Al ((addL ns ls a b)).length cl) ns (addL ns ls a b):=by simpa using Hj
 have h8:Below w.heap.size w w1:=bel_
 have n2:w.heap.size+1<w1.heap.size:=o_
 have Cy:=h_ (((go.setLow (p:=⟨w.heap.size+1,0,none⟩) (show w.heap.size+1<w.heap.size+1+1 by omega) (.slice An (ns).length cn)).setLow (p:=⟨w.heap.size+1,1,none⟩) (show w.heap.size+1<w.heap.size+1+1 by omega) (.slice Al ((addL ns ls a b)).length cl)).mono (show w.heap.size<=_ by omega));have HB:=h_ ((h8.setCell (p:=⟨w.heap.size+1,0,none⟩) sz_ (.slice An (ns).length cn)).setCell (p:=⟨w.heap.size+1,1,none⟩) sz_ (.slice Al ((addL ns ls a b)).length cl));obtain⟨r_0,r_1,r_f0,r_f1⟩:=gu.b2;go_wp2;exact bodyPost_ret (v:= .tuple #[.agg #[.slice An (ns).length cn,.slice Al ((addL ns ls a b)).length cl],.bool (addB ns ls a b)]) (by simp[results,Tryz.results89,go_sem,r_0,r_1,n2]) rfl (zC.mk rfl rfl rfl Cy.out HB.out)
theorem zag (vn vl:Value) (ns ls:List Pr) (a b:Int) (w:World) (hn:RP w vn ns) (hl:RP w vl ls) (h1:ns.length<=1048576) (h2:ls.length<=1048576):
  Calls Tryz.prog 89 #[.agg #[vn,vl],.int .i64 2,.int .i64 a,.int .i64 b] w (zC ns (y8 ns ls a) (hasL ns ls a) w):=by
 go_enter Tryz.func89,Tryz.ntmps89
 go_wp2_with fail
 refine(z6Y _ _ ns ls a _ (hn.below bel_) (hl.below bel_) h1 h2).mono ?_
 rintro e w1 ⟨An,cn,Al,cl,rfl,Hj,h9⟩;have H8:=h9.size;simp at H8
 have gu:Blk w1 (w.heap.size+1) 27 #[.slice none 0 0,.slice none 0 0]:=Blk.below (Blk.newAt (by simp)) h9 sz_;have go:OwnW (w.heap.size+1+1) w1 (.slice An (ns).length cn) (.slice Al ((y8 ns ls a)).length cl) ns (y8 ns ls a):=by simpa using Hj
 have h8:Below w.heap.size w w1:=bel_
 have n2:w.heap.size+1<w1.heap.size:=o_
 have Cy:=h_ (((go.setLow (p:=⟨w.heap.size+1,0,none⟩) (show w.heap.size+1<w.heap.size+1+1 by omega) (.slice An (ns).length cn)).setLow (p:=⟨w.heap.size+1,1,none⟩) (show w.heap.size+1<w.heap.size+1+1 by omega) (.slice Al ((y8 ns ls a)).length cl)).mono (show w.heap.size<=_ by omega));have HB:=h_ ((h8.setCell (p:=⟨w.heap.size+1,0,none⟩) sz_ (.slice An (ns).length cn)).setCell (p:=⟨w.heap.size+1,1,none⟩) sz_ (.slice Al ((y8 ns ls a)).length cl));obtain⟨r_0,r_1,r_f0,r_f1⟩:=gu.b2;go_wp2;exact bodyPost_ret (v:= .tuple #[.agg #[.slice An (ns).length cn,.slice Al ((y8 ns ls a)).length cl],.bool (hasL ns ls a)]) (by simp[results,Tryz.results89,go_sem,r_0,r_1,n2]) rfl (zC.mk rfl rfl rfl Cy.out HB.out)
theorem za1 (vn vl:Value) (ns ls:List Pr) (a b:Int) (w:World) (hn:RP w vn ns) (hl:RP w vl ls) (h1:ns.length<=1048576) (h2:ls.length<=1048576):
  Calls Tryz.prog 89 #[.agg #[vn,vl],.int .i64 3,.int .i64 a,.int .i64 b] w (zC (qr ns ls a) (qp ns ls a) (qY ns ls a) w):=by
 go_enter Tryz.func89,Tryz.ntmps89
 go_wp2_with fail
 refine(z6P _ _ ns ls a _ (hn.below bel_) (hl.below bel_) h1 h2).mono ?_
 rintro e w1 ⟨An,cn,Al,cl,rfl,Hj,h9⟩;have H8:=h9.size;simp at H8
 have gu:Blk w1 (w.heap.size+1) 27 #[.slice none 0 0,.slice none 0 0]:=Blk.below (Blk.newAt (by simp)) h9 sz_;have go:OwnW (w.heap.size+1+1) w1 (.slice An ((qr ns ls a)).length cn) (.slice Al ((qp ns ls a)).length cl) (qr ns ls a) (qp ns ls a):=by simpa using Hj
 have h8:Below w.heap.size w w1:=bel_
 have n2:w.heap.size+1<w1.heap.size:=o_
 have Cy:=h_ (((go.setLow (p:=⟨w.heap.size+1,0,none⟩) (show w.heap.size+1<w.heap.size+1+1 by omega) (.slice An ((qr ns ls a)).length cn)).setLow (p:=⟨w.heap.size+1,1,none⟩) (show w.heap.size+1<w.heap.size+1+1 by omega) (.slice Al ((qp ns ls a)).length cl)).mono (show w.heap.size<=_ by omega));have HB:=h_ ((h8.setCell (p:=⟨w.heap.size+1,0,none⟩) sz_ (.slice An ((qr ns ls a)).length cn)).setCell (p:=⟨w.heap.size+1,1,none⟩) sz_ (.slice Al ((qp ns ls a)).length cl));obtain⟨r_0,r_1,r_f0,r_f1⟩:=gu.b2;go_wp2;exact bodyPost_ret (v:= .tuple #[.agg #[.slice An ((qr ns ls a)).length cn,.slice Al ((qp ns ls a)).length cl],.bool (qY ns ls a)]) (by simp[results,Tryz.results89,go_sem,r_0,r_1,n2]) rfl (zC.mk rfl rfl rfl Cy.out HB.out)
theorem zac (vn vl:Value) (ns ls:List Pr) (k:Int) (a b:Int) (w:World) (hn:RP w vn ns) (hl:RP w vl ls) (h1:ns.length<=1048576) (h2:ls.length<=1048576) (F5:(k==1)=false) (Gj:(k==2)=false) (mZ:(k==3)=false):
  Calls Tryz.prog 89 #[.agg #[vn,vl],.int .i64 k,.int .i64 a,.int .i64 b] w (zC ns ls false w):=by
 go_enter Tryz.func89,Tryz.ntmps89
 go_wp2_with fail
 refine(qC _ _ ns ls _ (hn.below bel_) (hl.below bel_) h1 h2).mono ?_
 rintro e w1 ⟨An,cn,Al,cl,rfl,Hj,h9⟩;have H8:=h9.size;simp at H8
 have gu:Blk w1 (w.heap.size+1) 27 #[.slice none 0 0,.slice none 0 0]:=Blk.below (Blk.newAt (by simp)) h9 sz_;have go:OwnW (w.heap.size+1+1) w1 (.slice An (ns).length cn) (.slice Al (ls).length cl) ns ls:=by simpa using Hj
 have h8:Below w.heap.size w w1:=bel_
 have n2:w.heap.size+1<w1.heap.size:=o_
 have Cy:=h_ (((go.setLow (p:=⟨w.heap.size+1,0,none⟩) (show w.heap.size+1<w.heap.size+1+1 by omega) (.slice An (ns).length cn)).setLow (p:=⟨w.heap.size+1,1,none⟩) (show w.heap.size+1<w.heap.size+1+1 by omega) (.slice Al (ls).length cl)).mono (show w.heap.size<=_ by omega));have HB:=h_ ((h8.setCell (p:=⟨w.heap.size+1,0,none⟩) sz_ (.slice An (ns).length cn)).setCell (p:=⟨w.heap.size+1,1,none⟩) sz_ (.slice Al (ls).length cl));obtain⟨r_0,r_1,r_f0,r_f1⟩:=gu.b2;go_wp2;exact bodyPost_ret (v:= .tuple #[.agg #[.slice An (ns).length cn,.slice Al (ls).length cl],.bool false]) (by simp[results,Tryz.results89,go_sem,r_0,r_1,n2]) rfl (zC.mk rfl rfl rfl Cy.out HB.out)
theorem z7Z (vn vl:Value) (ns ls:List Pr) (k a b:Int) (w:World) (hn:RP w vn ns) (hl:RP w vl ls) (h1:ns.length<=1048576) (h2:ls.length<=1048576):
  Calls Tryz.prog 89 #[.agg #[vn,vl],.int .i64 k,.int .i64 a,.int .i64 b] w (zC (yh ns ls k a b) (yd ns ls k a b) (vx ns ls k a b) w):=by
 unfold yh yd vx
 by_cases e1:k=1
 ·subst e1;simpa using zak vn vl ns ls a b w hn hl h1 h2
 ·by_cases e2:k=2
  ·subst e2;simpa using zag vn vl ns ls a b w hn hl h1 h2
  ·by_cases e3:k=3
   ·subst e3;simpa using za1 vn vl ns ls a b w hn hl h1 h2
   ·rw[aaq e3,aaq e1,aaq e2,aaq e3,aaq e1,aaq e2,aaq e3]
    exact zac vn vl ns ls k a b w hn hl h1 h2 (by simp[e1]) (by simp[e2]) (by simp[e3])
theorem z9I (vn vl:Value) (ns ls:List Pr) (a b:Int) (w:World) (hn:RP w vn ns) (hl:RP w vl ls) (h1:ns.length<=1048576) (h2:ls.length<=1048576):
  Calls Tryz.prog 38 #[.agg #[vn,vl],.int .i64 1,.int .i64 a,.int .i64 b] w (zC ns (addL ns ls a b) (addB ns ls a b) w):=by
 go_enter Tryz.func38,Tryz.ntmps38
 go_wp2_with fail
 refine(z8M _ _ ns ls a b _ (hn.below bel_) (hl.below bel_) h1 h2).mono ?_
 rintro e w1 ⟨An,cn,Al,cl,rfl,Hj,h9⟩;have H8:=h9.size;simp at H8
 have gu:Blk w1 (w.heap.size+1) 27 #[.slice none 0 0,.slice none 0 0]:=Blk.below (Blk.newAt (by simp)) h9 sz_;have go:OwnW (w.heap.size+1+1) w1 (.slice An (ns).length cn) (.slice Al ((addL ns ls a b)).length cl) ns (addL ns ls a b):=by simpa using Hj
 have h8:Below w.heap.size w w1:=bel_
 have n2:w.heap.size+1<w1.heap.size:=o_
 have Cy:=h_ ((((go.setLow (p:=⟨w.heap.size+1,0,none⟩) (show w.heap.size+1<w.heap.size+1+1 by omega) (.slice An (ns).length cn)).setLow (p:=⟨w.heap.size+1,1,none⟩) (show w.heap.size+1<w.heap.size+1+1 by omega) (.slice Al ((addL ns ls a b)).length cl)).alloc (.cells #[.slice An (ns).length cn,.slice Al ((addL ns ls a b)).length cl] 27)).mono (show w.heap.size<=_ by omega));have HB:=h_ (((h8.setCell (p:=⟨w.heap.size+1,0,none⟩) sz_ (.slice An (ns).length cn)).setCell (p:=⟨w.heap.size+1,1,none⟩) sz_ (.slice Al ((addL ns ls a b)).length cl)).alloc (by simp;omega) (.cells #[.slice An (ns).length cn,.slice Al ((addL ns ls a b)).length cl] 27));obtain⟨r_0,r_1,r_f0,r_f1⟩:=gu.b2;go_wp2;exact bodyPost_ret (v:= .tuple #[.agg #[.slice An (ns).length cn,.slice Al ((addL ns ls a b)).length cl],.bool (addB ns ls a b)]) (by simp[results,Tryz.results38,go_sem,r_0,r_1,n2]) rfl (zC.mk rfl rfl rfl Cy.out HB.out)
theorem zah (vn vl:Value) (ns ls:List Pr) (a b:Int) (w:World) (hn:RP w vn ns) (hl:RP w vl ls) (h1:ns.length<=1048576) (h2:ls.length<=1048576):
  Calls Tryz.prog 38 #[.agg #[vn,vl],.int .i64 2,.int .i64 a,.int .i64 b] w (zC ns (y8 ns ls a) (hasL ns ls a) w):=by
 go_enter Tryz.func38,Tryz.ntmps38
 go_wp2_with fail
 refine(z7C _ _ ns ls a _ (hn.below bel_) (hl.below bel_) h1 h2).mono ?_
 rintro e w1 ⟨An,cn,Al,cl,rfl,Hj,h9⟩;have H8:=h9.size;simp at H8
 have gu:Blk w1 (w.heap.size+1) 27 #[.slice none 0 0,.slice none 0 0]:=Blk.below (Blk.newAt (by simp)) h9 sz_;have go:OwnW (w.heap.size+1+1) w1 (.slice An (ns).length cn) (.slice Al ((y8 ns ls a)).length cl) ns (y8 ns ls a):=by simpa using Hj
 have h8:Below w.heap.size w w1:=bel_
 have n2:w.heap.size+1<w1.heap.size:=o_
 have Cy:=h_ ((((go.setLow (p:=⟨w.heap.size+1,0,none⟩) (show w.heap.size+1<w.heap.size+1+1 by omega) (.slice An (ns).length cn)).setLow (p:=⟨w.heap.size+1,1,none⟩) (show w.heap.size+1<w.heap.size+1+1 by omega) (.slice Al ((y8 ns ls a)).length cl)).alloc (.cells #[.slice An (ns).length cn,.slice Al ((y8 ns ls a)).length cl] 27)).mono (show w.heap.size<=_ by omega));have HB:=h_ (((h8.setCell (p:=⟨w.heap.size+1,0,none⟩) sz_ (.slice An (ns).length cn)).setCell (p:=⟨w.heap.size+1,1,none⟩) sz_ (.slice Al ((y8 ns ls a)).length cl)).alloc (by simp;omega) (.cells #[.slice An (ns).length cn,.slice Al ((y8 ns ls a)).length cl] 27));obtain⟨r_0,r_1,r_f0,r_f1⟩:=gu.b2;go_wp2;exact bodyPost_ret (v:= .tuple #[.agg #[.slice An (ns).length cn,.slice Al ((y8 ns ls a)).length cl],.bool (hasL ns ls a)]) (by simp[results,Tryz.results38,go_sem,r_0,r_1,n2]) rfl (zC.mk rfl rfl rfl Cy.out HB.out)
theorem za2 (vn vl:Value) (ns ls:List Pr) (a b:Int) (w:World) (hn:RP w vn ns) (hl:RP w vl ls) (h1:ns.length<=1048576) (h2:ls.length<=1048576):
  Calls Tryz.prog 38 #[.agg #[vn,vl],.int .i64 3,.int .i64 a,.int .i64 b] w (zC (qr ns ls a) (qp ns ls a) (qY ns ls a) w):=by
 go_enter Tryz.func38,Tryz.ntmps38
 go_wp2_with fail
 refine(z6K _ _ ns ls a _ (hn.below bel_) (hl.below bel_) h1 h2).mono ?_
 rintro e w1 ⟨An,cn,Al,cl,rfl,Hj,h9⟩;have H8:=h9.size;simp at H8
 have gu:Blk w1 (w.heap.size+1) 27 #[.slice none 0 0,.slice none 0 0]:=Blk.below (Blk.newAt (by simp)) h9 sz_;have go:OwnW (w.heap.size+1+1) w1 (.slice An ((qr ns ls a)).length cn) (.slice Al ((qp ns ls a)).length cl) (qr ns ls a) (qp ns ls a):=by simpa using Hj
 have h8:Below w.heap.size w w1:=bel_
 have n2:w.heap.size+1<w1.heap.size:=o_
 have Cy:=h_ ((((go.setLow (p:=⟨w.heap.size+1,0,none⟩) (show w.heap.size+1<w.heap.size+1+1 by omega) (.slice An ((qr ns ls a)).length cn)).setLow (p:=⟨w.heap.size+1,1,none⟩) (show w.heap.size+1<w.heap.size+1+1 by omega) (.slice Al ((qp ns ls a)).length cl)).alloc (.cells #[.slice An ((qr ns ls a)).length cn,.slice Al ((qp ns ls a)).length cl] 27)).mono (show w.heap.size<=_ by omega));have HB:=h_ (((h8.setCell (p:=⟨w.heap.size+1,0,none⟩) sz_ (.slice An ((qr ns ls a)).length cn)).setCell (p:=⟨w.heap.size+1,1,none⟩) sz_ (.slice Al ((qp ns ls a)).length cl)).alloc (by simp;omega) (.cells #[.slice An ((qr ns ls a)).length cn,.slice Al ((qp ns ls a)).length cl] 27));obtain⟨r_0,r_1,r_f0,r_f1⟩:=gu.b2;go_wp2;exact bodyPost_ret (v:= .tuple #[.agg #[.slice An ((qr ns ls a)).length cn,.slice Al ((qp ns ls a)).length cl],.bool (qY ns ls a)]) (by simp[results,Tryz.results38,go_sem,r_0,r_1,n2]) rfl (zC.mk rfl rfl rfl Cy.out HB.out)
theorem z9Y (vn vl:Value) (ns ls:List Pr) (k:Int) (a b:Int) (w:World) (hn:RP w vn ns) (hl:RP w vl ls) (h1:ns.length<=1048576) (h2:ls.length<=1048576) (F5:(k==1)=false) (Gj:(k==2)=false) (mZ:(k==3)=false):
  Calls Tryz.prog 38 #[.agg #[vn,vl],.int .i64 k,.int .i64 a,.int .i64 b] w (zC ns ls false w):=by
 go_enter Tryz.func38,Tryz.ntmps38
 go_wp2_with fail
 refine(qo _ _ ns ls _ (hn.below bel_) (hl.below bel_) h1 h2).mono ?_
 rintro e w1 ⟨An,cn,Al,cl,rfl,Hj,h9⟩;have H8:=h9.size;simp at H8
 have gu:Blk w1 (w.heap.size+1) 27 #[.slice none 0 0,.slice none 0 0]:=Blk.below (Blk.newAt (by simp)) h9 sz_;have go:OwnW (w.heap.size+1+1) w1 (.slice An (ns).length cn) (.slice Al (ls).length cl) ns ls:=by simpa using Hj
 have h8:Below w.heap.size w w1:=bel_
 have n2:w.heap.size+1<w1.heap.size:=o_
 have Cy:=h_ (((go.setLow (p:=⟨w.heap.size+1,0,none⟩) (show w.heap.size+1<w.heap.size+1+1 by omega) (.slice An (ns).length cn)).setLow (p:=⟨w.heap.size+1,1,none⟩) (show w.heap.size+1<w.heap.size+1+1 by omega) (.slice Al (ls).length cl)).mono (show w.heap.size<=_ by omega));have HB:=h_ ((h8.setCell (p:=⟨w.heap.size+1,0,none⟩) sz_ (.slice An (ns).length cn)).setCell (p:=⟨w.heap.size+1,1,none⟩) sz_ (.slice Al (ls).length cl));obtain⟨r_0,r_1,r_f0,r_f1⟩:=gu.b2;go_wp2;exact bodyPost_ret (v:= .tuple #[.agg #[.slice An (ns).length cn,.slice Al (ls).length cl],.bool false]) (by simp[results,Tryz.results38,go_sem,r_0,r_1,n2]) rfl (zC.mk rfl rfl rfl Cy.out HB.out)
theorem z7c (vn vl:Value) (ns ls:List Pr) (k a b:Int) (w:World) (hn:RP w vn ns) (hl:RP w vl ls) (h1:ns.length<=1048576) (h2:ls.length<=1048576):
  Calls Tryz.prog 38 #[.agg #[vn,vl],.int .i64 k,.int .i64 a,.int .i64 b] w (zC (yh ns ls k a b) (yd ns ls k a b) (vx ns ls k a b) w):=by
 unfold yh yd vx
 by_cases e1:k=1
 ·subst e1;simpa using z9I vn vl ns ls a b w hn hl h1 h2
 ·by_cases e2:k=2
  ·subst e2;simpa using zah vn vl ns ls a b w hn hl h1 h2
  ·by_cases e3:k=3
   ·subst e3;simpa using za2 vn vl ns ls a b w hn hl h1 h2
   ·rw[aaq e3,aaq e1,aaq e2,aaq e3,aaq e1,aaq e2,aaq e3]
    exact z9Y vn vl ns ls k a b w hn hl h1 h2 (by simp[e1]) (by simp[e2]) (by simp[e3])
theorem z6L (ns ls:List Pr) (k:Int):(qr ns ls k).length <=ns.length/\(qp ns ls k).length <=ls.length:=by
 constructor
 ·unfold qr xO
  split
  ·exact z27 ns k _
  ·exact aaa _
 ·unfold qp
  split
  ·rename_i h
   have hs:zP ns ls k=true:=by unfold qY at h;rw[aaH] at h;exact h.1
   obtain⟨m,p,q,t,u,rfl,hk,hj⟩:=z4F hs;rw[hj.cl];exact z1N _ _ _ _ _ _
  ·exact aaa _
theorem z3r (ns ls:List Pr) (k a b:Int):(yh ns ls k a b).length <=ns.length/\(yd ns ls k a b).length <=ls.length+1:=by
 have h:=z6L ns ls a;unfold yh yd
 constructor
 ·split
  ·exact h.1
  ·exact aaa _
 ·split
  ·unfold addL;split<;>simp
  ·split
   ·unfold y8
    split
    ·simp;omega
    ·omega
   ·split
    ·omega
    ·omega
theorem z31 (vn vl:Value) (ns ls N L:List Pr) (k a b:Int) (bb:Bool) (w:World) (hn:RP w vn ns) (hl:RP w vl ls) (h1:ns.length<=1048576) (h2:ls.length<=1048576) (hN:Hid (yh ns ls k a b=N)) (hL:Hid (yd ns ls k a b=L)) (hB:Hid (vx ns ls k a b=bb)):
  Calls Tryz.prog 89 #[.agg #[vn,vl],.int .i64 k,.int .i64 a,.int .i64 b] w (zC N L bb w):=by
 rw[<-hN.out,<-hL.out,<-hB.out];exact z7Z vn vl ns ls k a b w hn hl h1 h2
theorem z48 (vn vl:Value) (ns ls N L:List Pr) (k a b:Int) (bb:Bool) (w:World) (hn:RP w vn ns) (hl:RP w vl ls) (h1:ns.length<=1048576) (h2:ls.length<=1048576) (hN:Hid (yh ns ls k a b=N)) (hL:Hid (yd ns ls k a b=L)) (hB:Hid (vx ns ls k a b=bb)):
  Calls Tryz.prog 38 #[.agg #[vn,vl],.int .i64 k,.int .i64 a,.int .i64 b] w (zC N L bb w):=by
 rw[<-hN.out,<-hL.out,<-hB.out];exact z7c vn vl ns ls k a b w hn hl h1 h2
noncomputable def qT (nn nl:List Pr):List Pr->List Pr->List Sp->Bool
 |N,L,[]=>qL nn nl N L
 |N,L,s::r=>qL s.ns s.ls N L&&(vx N L s.k s.a s.b&&qT nn nl (yh N L s.k s.a s.b) (yd N L s.k s.a s.b) r)
noncomputable def okD (D:Dr):Bool:=winB D.fn D.fl&&(decide (D.ss.length<=40)&&qT D.nn D.nl D.fn D.fl D.ss)
def z14 (w:World) (X Y:Nat) (v0 v1 v2 v3 v4:Value) (D:Dr) (res:Bool) (k:Nat) (wr:World):Prop:=
 ∃(N L:List Pr) (un ul:Value),Blk wr X 30 #[v0,v1,v2,v3,v4]/\Blk wr Y 27 #[un,ul]/\RP wr un N/\RP wr ul L/\N.length<=12/\L.length<=20+k/\
  qT D.nn D.nl N L (D.ss.drop k)=res/\Below w.heap.size w wr
theorem kS (F:Nat) (hF:F=136∨F=25) (v0 v1 v2 v3 v4:Value) (D:Dr) (res:Bool) (w:World) (h:RD w v0 v1 v2 v3 v4 D) (hx:Hid (okD D=res)):
  CB_ F #[.agg #[v0,v1,v2,v3,v4]] w (.bool res):=by
 rcases hF with rfl|rfl
 all_goals
  obtain⟨bw,gy⟩:∃bw,winB D.fn D.fl=bw:=⟨_,rfl⟩;obtain⟨A,c,e4,hc,hm,hcell⟩:=h.ss;unfold maxLen at hm;subst e4;obtain⟨A0,c0,e0,_⟩:=h.fn.form;obtain⟨A1,c1,e1,_⟩:=h.fl.form;subst e0 e1;have HD:=h_ h;have uv:=h.fn;have MK:=h.fl;clear h
  cases bw
  ·have er:res=false:=by rw[<-hx.out];unfold okD;rw[gy];rfl
   subst er;clear hx hcell
   first|(go_enter Tryz.func136,Tryz.ntmps136)|(go_enter Tryz.func25,Tryz.ntmps25)
   go_wp2_with fail
   first|(refine(zJ _ _ D.fn D.fl false _ (uv.below bel_) (MK.below bel_) gy).mono ?_)|(refine(zX _ _ D.fn D.fl false _ (uv.below bel_) (MK.below bel_) gy).mono ?_)
   rintro e w1 ⟨rfl,h9⟩;(first|(with_reducible have Gb:=bdC h9)|have Gb:=bcC h9);(first|(with_reducible have BD:=bdF h9)|have BD:=bcF h9);have H8:=h9.size;(try simp at H8);(try have gR:=p0_ w w1);(try have Gk:=p1_ w w1);(try have fZ:=p2_ w w1);(try have Np:=p3_ w w1)
   go_wp2;go_ret
   exact⟨rfl,by exact bel_⟩
  ·have hw12:=(zD.1 gy).2.1
   have hw20:=(zD.1 gy).2.2.1
   by_cases cY:40<D.ss.length
   ·have er:res=false:=by rw[<-hx.out];unfold okD;rw[gy,aaP o_];rfl
    subst er;have NV:(40:Int)<(D.ss.length:Int):=o_
    clear hx hcell cY
    first|(go_enter Tryz.func136,Tryz.ntmps136)|(go_enter Tryz.func25,Tryz.ntmps25)
    go_wp2_with fail
    first|(refine(zJ _ _ D.fn D.fl true _ (uv.below bel_) (MK.below bel_) gy).mono ?_)|(refine(zX _ _ D.fn D.fl true _ (uv.below bel_) (MK.below bel_) gy).mono ?_)
    rintro e w1 ⟨rfl,h9⟩;have H8:=h9.size;have Fl:Blk w1 w.heap.size 30 #[.slice A0 D.fn.length c0,.slice A1 D.fl.length c1,v2,v3,.slice A D.ss.length c]:=Blk.below (Blk.newAt rfl) h9 sz_;have h8:Below w.heap.size w w1:=bel_
    clear h9;obtain⟨a_0,a_1,a_2,a_3,a_4⟩:=Fl.c5;go_wp2;go_ret
    exact⟨rfl,by exact bel_⟩
   ·have er:qT D.nn D.nl D.fn D.fl D.ss=res:=by rw[<-hx.out];unfold okD;rw[gy,aaR o_];rfl
    have HR:=h_ er;have NV:¬(40:Int)<(D.ss.length:Int):=o_
    clear hx er
    first|(go_enter Tryz.func136,Tryz.ntmps136)|(go_enter Tryz.func25,Tryz.ntmps25)
    go_wp2_with fail
    first|(refine(zJ _ _ D.fn D.fl true _ (uv.below bel_) (MK.below bel_) gy).mono ?_)|(refine(zX _ _ D.fn D.fl true _ (uv.below bel_) (MK.below bel_) gy).mono ?_)
    rintro e w1 ⟨rfl,h9⟩;have H8:=h9.size;simp at H8
    have Fl:Blk w1 w.heap.size 30 #[.slice A0 D.fn.length c0,.slice A1 D.fl.length c1,v2,v3,.slice A D.ss.length c]:=Blk.below (Blk.newAt rfl) h9 sz_;have h8:Below w.heap.size w w1:=bel_
    clear h9 gy;obtain⟨a_0,a_1,a_2,a_3,a_4⟩:=Fl.c5;have e0:w.heap.size<w1.heap.size:=o_
    go_wp2_with fail
    obtain⟨u1,cE⟩:∃u1,u1=w1.alloc (.cells #[.slice A0 D.fn.length c0,.slice A1 D.fl.length c1] 27):=⟨_,rfl⟩;rw[<-cE];have HS:Hid (z14 w w.heap.size w1.heap.size (.slice A0 D.fn.length c0) (.slice A1 D.fl.length c1) v2 v3 (.slice A D.ss.length c) D res 0 u1):=h_ ⟨D.fn,D.fl,.slice A0 D.fn.length c0,.slice A1 D.fl.length c1,cE▸Fl.alloc _,cE▸Blk.newAt rfl,cE▸uv.below (h8.alloc o_ _),cE▸MK.below (h8.alloc o_ _),hw12,by omega,HR.out,cE▸h8.alloc o_ _⟩;have hY:w.heap.size<w1.heap.size:=e0;generalize w1.heap.size=Y at*;clear cE h8 Fl a_0 a_1 a_2 a_3 a_4 H8 e0 HR
    first|(go_loopw [4] (fun i wr=>∃k:Nat,k<=D.ss.length/\i= .int .i64 k/\Hid (z14 w w.heap.size Y (.slice A0 D.fn.length c0) (.slice A1 D.fl.length c1) v2 v3 (.slice A D.ss.length c) D res k wr)) (fun i _=>D.ss.length -(intOf i).toNat);(case atStart=>exact⟨0,aab _,rfl,HS⟩))|(go_loopw [23] (fun i wr=>∃k:Nat,k<=D.ss.length/\i= .int .i64 k/\Hid (z14 w w.heap.size Y (.slice A0 D.fn.length c0) (.slice A1 D.fl.length c1) v2 v3 (.slice A D.ss.length c) D res k wr)) (fun i _=>D.ss.length -(intOf i).toNat);(case atStart=>exact⟨0,aab _,rfl,HS⟩))
    case round=>
     obtain⟨k,hk,rfl,HT⟩:=hrel;clear HS;obtain⟨N,L,un,ul,Nh,gG,GQ,hul,hN,hL,c7,Hb⟩:=HT.out;have gj:=Hb.size;have hRD:=h_ (HD.out.below Hb);obtain⟨x_0,x_1,x_2,x_3,x_4⟩:=Nh.c5;obtain⟨y_0,y_1⟩:=gG.c2
     by_cases Hd:k<D.ss.length
     ·obtain⟨b,off,rfl,hb,Ho⟩:=hcell o_
      obtain⟨k0,k1,k2,vn,vl,k3,k4,hn,hl⟩:=Ho k Hd;have q0:=(Hb.cell (p:=⟨b,off+k*5,none⟩) hb).trans k0;have q1:=(Hb.cell (p:=⟨b,off+k*5+1,none⟩) hb).trans k1;have q2:=(Hb.cell (p:=⟨b,off+k*5+2,none⟩) hb).trans k2;have q3:=(Hb.cell (p:=⟨b,off+k*5+3,none⟩) hb).trans k3;have q4:=(Hb.cell (p:=⟨b,off+k*5+4,none⟩) hb).trans k4;obtain⟨Av,cv,ev,_⟩:=hn.form;obtain⟨Au,cu,eu,_⟩:=hl.form;subst ev eu;have FM:=h_ (hn.below Hb);have Gc:=h_ (hl.below Hb);rw[aas Hd] at c7;unfold qT at c7;obtain⟨sw,hsw⟩:∃sw,qL D.ss[k].ns D.ss[k].ls N L=sw:=⟨_,rfl⟩;have M6:=h_ hsw;rw[hsw] at c7;have nv:=h_ c7;generalize D.ss[k]=s at*;clear k0 k1 k2 k3 k4 Ho hcell hn hl HT hsw c7;have Um:=h_ GQ;have Un:=h_ hul;have HXB:=h_ Nh;have HYB:=h_ gG
      have hylt:=gG.lt;clear GQ hul Nh gG
      go_wp2_with fail
      obtain⟨w2,gS⟩:∃w2,w2=wr.alloc (.cells #[.int .i64 s.k,.int .i64 s.a,.int .i64 s.b,.slice Av s.ns.length cv,.slice Au s.ls.length cu] 113):=⟨_,rfl⟩;rw[<-gS];have Ha:Below w.heap.size w w2:=gS▸Hb.alloc gj _;have Fc:Below wr.heap.size wr w2:=gS▸(aaj _ _).alloc (aaa _) _;have hZ:Blk w2 wr.heap.size 113 #[.int .i64 s.k,.int .i64 s.a,.int .i64 s.b,.slice Av s.ns.length cv,.slice Au s.ls.length cu]:=gS▸Blk.newAt rfl;have G7:=HXB.out.below Fc HXB.out.lt;have MN:=HYB.out.below Fc hylt;clear gS q0 q1 q2 q3 q4 x_0 x_1 x_2 x_3 x_4 y_0 y_1
      first|(refine(xJ _ _ _ _ s.ns s.ls N L sw _ (FM.out.below Fc) (Gc.out.below Fc) (Um.out.below Fc) (Un.out.below Fc) M6).mono ?_)|(refine(xH _ _ _ _ s.ns s.ls N L sw _ (FM.out.below Fc) (Gc.out.below Fc) (Um.out.below Fc) (Un.out.below Fc) M6).mono ?_)
      rintro e w3 ⟨rfl,Hf⟩;have Hc:Below w.heap.size w w3:=Ha.trans (Hf.mono Ha.size);have gU:=G7.below Hf G7.lt;have YI:=MN.below Hf MN.lt;have cZ:=hZ.below Hf hZ.lt;have C7:Below wr.heap.size wr w3:=Fc.trans (Hf.mono Fc.size);have YJ:=Um.out.below C7;have YK:=Un.out.below C7;clear Hf Ha G7 MN hZ Fc C7 FM Gc Um Un HXB HYB;generalize wr.heap.size=Z at*
      cases sw
      ·have er:res=false:=nv.out.symm
       subst er;go_wp2;go_ret
       exact⟨rfl,Hc⟩
      ·have NW:(vx N L s.k s.a s.b&&qT D.nn D.nl (yh N L s.k s.a s.b) (yd N L s.k s.a s.b) (D.ss.drop (k+1)))=res:=nv.out
       obtain⟨N',hN'⟩:∃N',yh N L s.k s.a s.b=N':=⟨_,rfl⟩;obtain⟨L',hL'⟩:∃L',yd N L s.k s.a s.b=L':=⟨_,rfl⟩;obtain⟨bb,gc⟩:∃bb,vx N L s.k s.a s.b=bb:=⟨_,rfl⟩;obtain⟨l1,l2⟩:=z3r N L s.k s.a s.b;rw[hN',hL',gc] at NW;rw[hN'] at l1;rw[hL'] at l2;have H1:=h_ hN';have H2:=h_ hL';have H3:=h_ gc;have HR2:=h_ NW;clear hN' hL' gc NW nv M6;obtain⟨z_0,z_1,z_2,z_3,z_4⟩:=cZ.c5;obtain⟨y_0,y_1⟩:=YI.c2
       go_wp2_with fail
       first|(refine(z48 _ _ N L N' L' s.k s.a s.b bb _ YJ YK o_ o_ H1 H2 H3).mono ?_)|(refine(z31 _ _ N L N' L' s.k s.a s.b bb _ YJ YK o_ o_ H1 H2 H3).mono ?_)
       rintro e w4 ⟨An,cn,Al,cl,rfl,gF,Hv⟩;have Hp:Below w.heap.size w w4:=Hc.trans (Hv.mono Hc.size);have HX4:=h_ (gU.below Hv gU.lt);have hY4:=YI.below Hv YI.lt;have hY3l:=YI.lt;have fQ:=h_ (((gF.setLow (p:=⟨Y,0,none⟩) hY3l (.slice An N'.length cn)).setLow (p:=⟨Y,1,none⟩) hY3l (.slice Al L'.length cl)).alloc' (.cells #[.slice An N'.length cn,.slice Al L'.length cl] 27));clear Hv gU YI cZ gF Hc z_0 z_1 z_2 z_3 z_4 y_0 y_1 YJ YK H1 H2 H3;have e4:Y<w4.heap.size:=hY4.lt
       cases bb
       ·have er:res=false:=HR2.out.symm
        subst er;go_wp2;go_ret
        exact⟨rfl,by exact bel_⟩
       ·have HR3:Hid (qT D.nn D.nl N' L' (D.ss.drop (k+1))=res):=h_ HR2.out
        have YL:Hid (z14 w w.heap.size Y (.slice A0 D.fn.length c0) (.slice A1 D.fl.length c1) v2 v3 (.slice (some ⟨b,off,none⟩) D.ss.length c) D res (k+1) (((w4.setCell ⟨Y,0,none⟩ (.slice An N'.length cn)).setCell ⟨Y,1,none⟩ (.slice Al L'.length cl)).alloc (.cells #[.slice An N'.length cn,.slice Al L'.length cl] 27))):=by
         have hY5:=((hY4.set_ 0 (.slice An N'.length cn)).set_ 1 (.slice Al L'.length cl)).alloc (.cells #[.slice An N'.length cn,.slice Al L'.length cl] 27);have Cn:=((HX4.out.far (p:=⟨Y,0,none⟩) (by show _≠Y;omega) (.slice An N'.length cn)).far (p:=⟨Y,1,none⟩) (by show _≠Y;omega) (.slice Al L'.length cl)).alloc (.cells #[.slice An N'.length cn,.slice Al L'.length cl] 27);exact h_ ⟨N',L',_,_,Cn,hY5,fQ.out.1.reads,fQ.out.2.1.reads,by omega,by omega,HR3.out,by exact bel_⟩
        obtain⟨y_0,y_1,y_f0,y_f1⟩:=hY4.b2;go_wp2;go_roundw
        case rel=>exact⟨k+1,by omega,by go_num,YL⟩
        case measure=>simp[intOf];omega
     ·have Hw:k=D.ss.length:=o_
      subst Hw;rw[List.drop_length] at c7;unfold qT at c7;have nv:=h_ c7;have Ch:=hRD.out.nn;have fG:=hRD.out.nl;clear c7 HT hcell
      go_wp2_with fail
      first|(refine(xJ _ _ _ _ D.nn D.nl N L res _ Ch fG GQ hul nv).mono ?_)|(refine(xH _ _ _ _ D.nn D.nl N L res _ Ch fG GQ hul nv).mono ?_)
      rintro e w3 ⟨rfl,Hf⟩;have Hc:Below w.heap.size w w3:=Hb.trans (Hf.mono gj);clear Hf;go_wp2;go_ret
      exact⟨rfl,Hc⟩
theorem z2u (v0 v1 v2 v3 v4:Value) (D:Dr) (res:Bool) (w:World) (h:RD w v0 v1 v2 v3 v4 D) (hx:Hid (okD D=res)):
  CB_ 136 #[.agg #[v0,v1,v2,v3,v4]] w (.bool res):=kS _ (.inl rfl) v0 v1 v2 v3 v4 D res w h hx
theorem z1w (v0 v1 v2 v3 v4:Value) (D:Dr) (res:Bool) (w:World) (h:RD w v0 v1 v2 v3 v4 D) (hx:Hid (okD D=res)):
  CB_ 25 #[.agg #[v0,v1,v2,v3,v4]] w (.bool res):=kS _ (.inr rfl) v0 v1 v2 v3 v4 D res w h hx
theorem z1K (f:SF) (A0 A1:Option Addr) (n0 c0 n1 c1:Nat) (h0:f.2.1= .slice A0 n0 c0) (h1:f.2.2= .slice A1 n1 c1):∀u∈sfc f,u.oneCell'=true:=by
 intro u hu;simp only[sfc,List.mem_cons,List.mem_nil_iff,or_false,h0,h1] at hu
 rcases hu with rfl|rfl|rfl|rfl|rfl<;>rfl
theorem xy {P:Program} {w:World} {t ty e:TypeId} {i:TypeInfo} {base:Nat} (ht:P.underlying t=some (.slice e)) (hi:P.info? e=some i) (hz:i.zero=some (.agg #[.int .i64 0,.int .i64 0,.int .i64 0,.slice none 0 0,.slice none 0 0])) (H7:i.size=5) (gG:i.bytes=72)
  {v:Value} {fs:List SF} {f:SF} {a:Addr} {c:Nat} (hown:w.ownsRow base e 5 v fs.length (fs.flatMap sfc)) (hn:∀(j:Nat) (u:Value),(sfc f)[j]? =some u->w.cell? (a.add j)=some u) (fL:∀u∈sfc f,u.oneCell'=true)
  (Hi:fs.length<=1048576) (H9:base<=w.heap.size):
  ∃A c' w',(Builtin.append_ #[t,t] ty #[v,.slice (some a) 1 c]).run P w= .ok (.slice A (fs.length+1) c') w'/\w'.ownsRow base e 5 (.slice A (fs.length+1) c') (fs.length+1) ((fs++[f]).flatMap sfc)/\w.grownBy w' v.ownBlock/\
   ((Value.slice A (fs.length+1) c').ownBlock =v.ownBlock∨(Value.slice A (fs.length+1) c').ownBlock =some w.heap.size):=by
 obtain⟨v',w',h1,h2,h3,_,h5⟩:=run_append_own_at (P:=P) w base t ty e i _ 5 72 ht hi hz H7 gG rfl (by decide) v fs.length (fs.flatMap sfc) hown a 1 c (sfc f) (by simp[sfc]) hn fL (by unfold maxLen;omega) o_ H9
 have US:w'.ownsRow base e 5 v' (fs.length+1) ((fs++[f]).flatMap sfc):=by
  rw[aaY]
  simpa using h2
 rcases h2.2 with ⟨_,mC⟩|⟨g,cap,cur,rfl,_⟩
 ·omega
 ·exact⟨_,cap,w',h1,US,h3,h5⟩
theorem vT {P:Program} {w:World} {ops:Array Oper} {rest:List Oper} {o:Oper} {a:Act} {Q:Exit->Act->World->Prop} (FH:o.guard=none) (s x:Operand) (t:TypeId)
  (ho:o.op= .call { callee:= .builtin .append,args:= #[s,x],argTypes:= #[t,t] })
  (base:Nat) (e:TypeId) (i:TypeInfo) (ht:P.underlying t=some (.slice e)) (hi:P.info? e=some i) (hz:i.zero=some (.agg #[.int .i64 0,.int .i64 0,.int .i64 0,.slice none 0 0,.slice none 0 0])) (H7:i.size=5) (gG:i.bytes=72)
  (v:Value) (fs:List SF) (f:SF) (ad:Addr) (c:Nat) (hs:a.eval s=v) (hx:a.eval x= .slice (some ad) 1 c) (hown:w.ownsRow base e 5 v fs.length (fs.flatMap sfc)) (hn:∀(j:Nat) (u:Value),(sfc f)[j]? =some u->w.cell? (ad.add j)=some u)
  (fL:∀u∈sfc f,u.oneCell'=true) (Hi:fs.length<=1048576) (H9:base<=w.heap.size)
  (h:∀A c' w',w'.ownsRow base e 5 (.slice A (fs.length+1) c') (fs.length+1) ((fs++[f]).flatMap sfc)->w.grownBy w' v.ownBlock->((Value.slice A (fs.length+1) c').ownBlock =v.ownBlock∨(Value.slice A (fs.length+1) c').ownBlock =some w.heap.size)->wpList P ops Q rest (a.put o.dst (.slice A (fs.length+1) c')) w'):
  wpList P ops Q (o::rest) a w:=
 wpList_plain FH fun K hK=>by
  obtain⟨A,c',w',GC,h2,h3,h4⟩:=xy (ty:=o.type) (c:=c) ht hi hz H7 gG hown hn fL Hi H9;unfold Oper.wp execOp;simp only[ho,resolve,invoke,builtin,Sem.run_bind,Sem.run_pure,aaZ,List.map_toArray,aaT,aaU,hs,hx,GC]
  exact hK _ _ (h A c' w' h2 h3 h4)
theorem OwnT.snoc {base:Nat} {w w':World} {v v':Value} {fs:List SF} {f:SF} (h:OwnT base w v fs) (hr:w'.ownsRow base 113 5 v' (fs.length+1) ((fs++[f]).flatMap sfc)) (hg:w.grownBy w' v.ownBlock)
  (hv:v'.ownBlock=v.ownBlock∨v'.ownBlock=some w.heap.size) (hf:OwnW base w f.2.1 f.2.2 f.1.ns f.1.ls) (CP:∀b,zw f.2.1 f.2.2 b->v.ownBlock≠some b) (hfw:∀j (hj:j<fs.length) b,zw f.2.1 f.2.2 b->¬zw fs[j].2.1 fs[j].2.2 b):
  OwnT base w' v' (fs++[f]):=by
 have ht:Turns (fun b=>v.ownBlock=some b) w w':=Turns.ofGrown hg (fun k hk=>hk)
 have f8:∀k (hk:k<(fs++[f]).length),k<fs.length∨(k=fs.length/\(fs++[f])[k]=f):=by
  intro k hk
  by_cases Hd:k<fs.length
  ·exact .inl Hd
  ·have:k=fs.length:=by simp at hk;omega
   subst this;exact .inr ⟨rfl,by simp⟩
 refine⟨by simpa using hr,fun k hk=>?_,fun k hk b hb=>?_,fun i j hi hj gr b=>?_⟩
 ·rcases f8 k hk with Hd|⟨rfl,e⟩
  ·rw[aad Hd]
   exact(h.win k Hd).turned ht (fun b hb e=>h.rw_ k Hd b e hb)
  ·rw[e]
   exact hf.turned ht (fun b hb=>CP b hb)
 ·rcases f8 k hk with Hd|⟨rfl,e⟩
  ·rw[aad Hd]
   rcases hv with hv|hv
   ·exact h.rw_ k Hd b (hv▸hb)
   ·intro gw
    have:=((h.win k Hd).lt b gw).2;rw[hv] at hb
    cases hb
    omega
  ·rw[e]
   rcases hv with hv|hv
   ·exact fun gw=>CP b gw (hv▸hb)
   ·intro gw
    have:=(hf.lt b gw).2;rw[hv] at hb
    cases hb
    omega
 ·rcases f8 i hi with h1|⟨rfl,e1⟩<;>rcases f8 j hj with h2|⟨rfl,e2⟩
  ·rw[aad h1,aad h2]
   exact h.ww i j h1 h2 gr b
  ·rw[aad h1,e2]
   exact fun a c=>hfw i h1 b c a
  ·rw[aad h2,e1]
   exact hfw j h2 b
  ·omega
theorem OwnD.mono {base base':Nat} {w:World} {a b c d e:Value} {D:Dr} {fs:List SF} (h:OwnD base w a b c d e D fs) (hb:base'<=base):OwnD base' w a b c d e D fs:=
 ⟨h.first.mono hb,h.now.mono hb,h.ss.mono hb,h.map,h.f_n,h.f_s,h.n_s⟩
theorem OwnD.setFar {base:Nat} {w:World} {a b c d e:Value} {D:Dr} {fs:List SF} (h:OwnD base w a b c d e D fs) {p:Addr} (hp:¬qn a b c d e fs p.block) (u:Value):OwnD base (w.setCell p u) a b c d e D fs:=
 h.turned (S:=fun k=>k=p.block) (Turns.ofGrown (qR w p u) (fun k hk=>by cases hk;rfl)) (fun k hk e=>hp (e▸hk))
theorem Vl {w:World} {f:SF} {cs:Array Value} {t:TypeId} {g:Nat} (hg:g=w.heap.size) (Gu:cs.toList=sfc f):∀(j:Nat) (u:Value),(sfc f)[j]? =some u->(w.alloc (.cells cs t)).cell? ((⟨g,0,none⟩:Addr).add j)=some u:=by
 subst hg;intro j u hu;rw[<-Gu] at hu;have mu:cs[j]? =some u:=by simpa using hu
 rw[kL,aaG,cell_of_row _ _ _ cs t (0,0) (heap_alloc_new w _)];exact mu
theorem ym {e e':Value} {fs:List SF} {f:SF} {n k:Nat} (hv:e'.ownBlock=e.ownBlock∨e'.ownBlock=some n) (h:yD e' (fs++[f]) k):yD e fs k∨k=n∨zw f.2.1 f.2.2 k:=by
 rcases h with h|⟨i,hi,h⟩
 ·rcases hv with hv|hv
  ·exact .inl (.inl (hv▸h))
  ·rw[hv] at h;cases h;exact .inr (.inl rfl)
 ·by_cases Hd:i<fs.length
  ·rw[aad Hd] at h
   exact .inl (.inr ⟨i,Hd,h⟩)
  ·have:i=fs.length:=by simp at hi;omega
   subst this;simp at h
   exact .inr (.inr h)
theorem OwnD.snoc {base:Nat} {w w':World} {a b c d e e':Value} {D:Dr} {fs:List SF} {f:SF} (h:OwnD base w a b c d e D fs) (hr:w'.ownsRow base 113 5 e' (fs.length+1) ((fs++[f]).flatMap sfc)) (hg:w.grownBy w' e.ownBlock)
  (hv:e'.ownBlock=e.ownBlock∨e'.ownBlock=some w.heap.size) (hf:OwnW base w f.2.1 f.2.2 f.1.ns f.1.ls) (CP:∀k,zw f.2.1 f.2.2 k->¬qn a b c d e fs k):OwnD base w' a b c d e' ⟨D.fn,D.fl,D.nn,D.nl,D.ss++[f.1]⟩ (fs++[f]):=by
 have ht:Turns (fun b=>e.ownBlock=some b) w w':=Turns.ofGrown hg (fun k hk=>hk)
 refine⟨h.first.turned ht (fun k hk e1=>h.f_s k hk (.inl e1)),h.now.turned ht (fun k hk e1=>h.n_s k hk (.inl e1)),
  h.ss.snoc hr hg hv hf (fun k hk e1=>CP k hk (.inr (.inr (.inl e1)))) (fun j hj k hk gH=>CP k hk (.inr (.inr (.inr ⟨j,hj,gH⟩)))),by rw[aaA,h.map];rfl,h.f_n,fun k hk gH=>?_,fun k hk gH=>?_⟩
 ·rcases ym hv gH with h1|h1|h1
  ·exact h.f_s k hk h1
  ·have:=(h.first.lt k hk).2;omega
  ·exact CP k h1 (.inl hk)
 ·rcases ym hv gH with h1|h1|h1
  ·exact h.n_s k hk h1
  ·have:=(h.now.lt k hk).2;omega
  ·exact CP k h1 (.inr (.inl hk))
theorem Xe {a b c d e e':Value} {fs:List SF} {f:SF} {n k:Nat} (hv:e'.ownBlock=e.ownBlock∨e'.ownBlock=some n) (h:qn a b c d e' (fs++[f]) k):qn a b c d e fs k∨k=n∨zw f.2.1 f.2.2 k:=by
 rcases h with h|h|h
 ·exact .inl (.inl h)
 ·exact .inl (.inr (.inl h))
 ·rcases ym hv h with h|h|h
  ·exact .inl (.inr (.inr h))
  ·exact .inr (.inl h)
  ·exact .inr (.inr h)
def CpSt (w:World) (D:Dr) (v0 v1 v2 v3 v4:Value) (Z k:Nat) (wr:World):Prop:=
 ∃A0 c0 A1 c1 A2 c2 A3 c3 A4 c4 fs,OwnD (w.heap.size+1+1) wr (.slice A0 D.fn.length c0) (.slice A1 D.fl.length c1) (.slice A2 D.nn.length c2) (.slice A3 D.nl.length c3) (.slice A4 k c4) ⟨D.fn,D.fl,D.nn,D.nl,D.ss.take k⟩ fs/\
  Blk wr w.heap.size 30 #[v0,v1,v2,v3,v4]/\Blk wr (w.heap.size+1) 30 z5_/\
  Blk wr Z 30 #[.slice A0 D.fn.length c0,.slice A1 D.fl.length c1,.slice A2 D.nn.length c2,.slice A3 D.nl.length c3,.slice A4 k c4]/\
  w.heap.size+1<Z/\¬qn (.slice A0 D.fn.length c0) (.slice A1 D.fl.length c1) (.slice A2 D.nn.length c2) (.slice A3 D.nl.length c3) (.slice A4 k c4) fs Z/\Below w.heap.size w wr
theorem OwnW.setOff {base:Nat} {w:World} {a b:Value} {ns ls:List Pr} (h:OwnW base w a b ns ls) {p:Addr} (hp:¬zw a b p.block) (u:Value):OwnW base (w.setCell p u) a b ns ls:=
 h.turned (S:=fun k=>k=p.block) (Turns.ofGrown (qR w p u) (fun k hk=>by cases hk;rfl)) (fun k hk e=>hp (e▸hk))
theorem VP {w wE:World} {v0 v1 v2 v3 v4:Value} {D:Dr} {A0 A1 A2 A3:Option Addr} {c0 c1 c2 c3 B1 B2 Z:Nat} (hX:Blk wE w.heap.size 30 #[v0,v1,v2,v3,v4]) (hR:Blk wE (w.heap.size+1) 30 z5_)
  (hZ:Blk wE Z 30 #[.slice A0 D.fn.length c0,.slice A1 D.fl.length c1,.slice A2 D.nn.length c2,.slice A3 D.nl.length c3,.slice none 0 0])
  (h1:OwnW B1 wE (.slice A0 D.fn.length c0) (.slice A1 D.fl.length c1) D.fn D.fl) (h2:OwnW B2 wE (.slice A2 D.nn.length c2) (.slice A3 D.nl.length c3) D.nn D.nl)
  (Hd:∀k,zw (.slice A0 D.fn.length c0) (.slice A1 D.fl.length c1) k->k<B2) (e1:w.heap.size+1+1<=B1) (e2:w.heap.size+1+1<=B2)
  (z1:¬zw (.slice A0 D.fn.length c0) (.slice A1 D.fl.length c1) Z) (z2:¬zw (.slice A2 D.nn.length c2) (.slice A3 D.nl.length c3) Z) (Ga:w.heap.size+1<Z) (hb:Below w.heap.size w wE):
  CpSt w D v0 v1 v2 v3 v4 Z 0 wE:=by
 have hn:∀k,¬yD (.slice none 0 0) [] k:=by
  rintro k (h|⟨i,hi,_⟩)
  ·simp[Value.ownBlock] at h
  ·simp at hi
 refine⟨A0,c0,A1,c1,A2,c2,A3,c3,none,0,[],⟨h1.mono e1,h2.mono e2,OwnT.nil _ _,by simp,fun k a b=>?_,fun k _ b=>hn k b,fun k _ b=>hn k b⟩,hX,hR,hZ,Ga,?_,hb⟩
 ·have:=Hd k a
  have:=(h2.lt k b).1;omega
 ·rintro(h|h|h)
  ·exact z1 h
  ·exact z2 h
  ·exact hn _ h
theorem z0D (F:Nat) (hF:F=135∨F=80) (v0 v1 v2 v3 v4:Value) (D:Dr) (w:World) (h:RD w v0 v1 v2 v3 v4 D) (hle:DrLe D):
  Calls Tryz.prog F #[.agg #[v0,v1,v2,v3,v4]] w (RetD D w):=by
 have gi:=h_ hle;have mL:=h.fn;have GB:=h.fl;have Ch:=h.nn;have fG:=h.nl;obtain⟨A,c,e4,hc,hm,hcell⟩:=h.ss;subst e4;unfold maxLen at hm;clear hle h;obtain⟨i0,hi,iz0,iz1,iz2⟩:=info_parts Zq;have Ff:w.heap.size<w.heap.size+1+1:=o_
 have gp:w.heap.size<w.heap.size+1+1+1:=o_
 have Gv:¬w.heap.size+1+1=w.heap.size:=o_
 have HCP:Hid (∀(G:Nat),G=110∨G=81->∀(vn vl:Value) (ns ls:List Pr) (w:World),RP w vn ns->RP w vl ls->ns.length<=1048576->ls.length<=1048576->Calls Tryz.prog G #[.agg #[vn,vl]] w (RetW ns ls w)):=h_ (by
  rintro G (rfl|rfl)
  ·exact qo
  ·exact qC)
 rcases hF with rfl|rfl
 go_enter Tryz.func135,Tryz.ntmps135
 rotate_left
 go_enter Tryz.func80,Tryz.ntmps80
 rotate_left
 all_goals
  go_wp2_with fail
  go_cut [3] (fun z wx=>∃Z,z= .pointer (some ⟨Z,0,none⟩)/\CpSt w D v0 v1 v2 v3 (.slice A D.ss.length c) Z 0 wx)
  case first=>
   go_region_held3 (fun w'=>w'.cell? ⟨w.heap.size,0,none⟩=some v0/\w'.cell? ⟨w.heap.size,1,none⟩=some v1/\w'.cell? ⟨w.heap.size,2,none⟩=some v2/\w'.cell? ⟨w.heap.size,3,none⟩=some v3)
    (go_keep)
    (first|(go_at_call 110;refine Calls.mono (qo _ _ D.fn D.fl _ ?a1 ?a2 gi.out.fn gi.out.fl) ?_;(case a1=>exact mL.below bel_);(case a2=>exact GB.below bel_);rintro e w1 ⟨An1,cn1,Al1,cl1,rfl,Hj,h9⟩;(have Gb:=bdC h9);(have BD:=bdF h9);have H8:=h9.size;(try simp at H8);(try have gR:=p0_ w w1);(try have Gk:=p1_ w w1);(try have fZ:=p2_ w w1);(have UQ:w.heap.size<w1.heap.size+1:=by omega);(have hq2:¬w1.heap.size=w.heap.size:=by omega))|(go_at_call 110;refine Calls.mono (qo _ _ D.nn D.nl _ ?a3 ?a4 gi.out.nn gi.out.nl) ?_;(case a3=>exact Ch.below bel_);(case a4=>exact fG.below bel_);rintro e w2 ⟨An2,cn2,Al2,cl2,rfl,Hm,He⟩;(have fa:=bcC He);(have M0:=bcF He);have Gd:=He.size;(try simp at Gd);(try have gX:=p0_ w w2);(try have gY:=p1_ w w2))|(go_at_call 81;refine Calls.mono (qC _ _ D.fn D.fl _ ?a1 ?a2 gi.out.fn gi.out.fl) ?_;(case a1=>exact mL.below bel_);(case a2=>exact GB.below bel_);rintro e w1 ⟨An1,cn1,Al1,cl1,rfl,Hj,h9⟩;(have Gb:=bdC h9);(have BD:=bdF h9);have H8:=h9.size;(try simp at H8);(try have gR:=p0_ w w1);(try have Gk:=p1_ w w1);(try have fZ:=p2_ w w1);(have UQ:w.heap.size<w1.heap.size+1:=by omega);(have hq2:¬w1.heap.size=w.heap.size:=by omega))|(go_at_call 81;refine Calls.mono (qC _ _ D.nn D.nl _ ?a3 ?a4 gi.out.nn gi.out.nl) ?_;(case a3=>exact Ch.below bel_);(case a4=>exact fG.below bel_);rintro e w2 ⟨An2,cn2,Al2,cl2,rfl,Hm,He⟩;(have fa:=bcC He);(have M0:=bcF He);have Gd:=He.size;(try simp at Gd);(try have gX:=p0_ w w2);(try have gY:=p1_ w w2)))
   all_goals go_wp2
   all_goals go_meet
   ·have BV:Below (w.heap.size+1+1) ((w.alloc (.cells #[v0,v1,v2,v3,.slice A D.ss.length c] 30)).alloc (.cells z5_ 30)) w2:=bel_
    have G7:=Blk.below ((Blk.newAt rfl).alloc _) BV (show w.heap.size<_ by omega);have GF:=Blk.below (Blk.newAt (by simp)) BV (show w.heap.size+1<_ by omega);have BL:∀k,zw (.slice An1 D.fn.length cn1) (.slice Al1 D.fl.length cl1) k->w.heap.size+1+1<=k/\k<w1.heap.size:=fun k hk=>by have:=Hj.lt k hk;simp at this;omega
    have bS:=Hm.lt;exact⟨_,rfl,VP (G7.alloc _) (GF.alloc _) (Blk.newAt rfl) ((Hj.kept He).alloc' _) (Hm.alloc' _) (fun k hk=>(BL k hk).2) (by simp) o_ (fun hk=>by have:=(BL _ hk).2;omega) (fun hk=>by have:=(bS _ hk).2;omega) o_ bel_⟩
   ·have BV:Below (w.heap.size+1+1) ((w.alloc (.cells #[v0,v1,v2,v3,.slice A D.ss.length c] 30)).alloc (.cells z5_ 30)) w2:=bel_
    have G7:=Blk.below ((Blk.newAt rfl).alloc _) BV (show w.heap.size<_ by omega);have GF:=Blk.below (Blk.newAt (by simp)) BV (show w.heap.size+1<_ by omega);have YM:=Blk.below (Blk.newAt rfl) He (show w1.heap.size<_ by simp);have BL:∀k,zw (.slice An1 D.fn.length cn1) (.slice Al1 D.fl.length cl1) k->w.heap.size+1+1<=k/\k<w1.heap.size:=fun k hk=>by have:=Hj.lt k hk;simp at this;omega
    have bS:∀k,zw (.slice An2 D.nn.length cn2) (.slice Al2 D.nl.length cl2) k->w1.heap.size+1<=k/\k<w2.heap.size:=fun k hk=>by have:=Hm.lt k hk;simp at this;omega
    have z1:¬zw (.slice An1 D.fn.length cn1) (.slice Al1 D.fl.length cl1) w1.heap.size:=fun hk=>by have:=(BL _ hk).2;omega
    have z2:¬zw (.slice An2 D.nn.length cn2) (.slice Al2 D.nl.length cl2) w1.heap.size:=fun hk=>by have:=(bS _ hk).1;omega
    have n0:w.heap.size≠w1.heap.size:=o_
    have n1:w.heap.size+1≠w1.heap.size:=o_
    have go:=(Hj.alloc' _).kept He
    exact⟨_,rfl,VP (((((G7.far (p:=⟨w1.heap.size,0,none⟩) n0 _).far (p:=⟨w1.heap.size,1,none⟩) n0 _).far (p:=⟨w1.heap.size,2,none⟩) n0 _).far (p:=⟨w1.heap.size,3,none⟩) n0 _).far (p:=⟨w1.heap.size,4,none⟩) n0 _)
     (((((GF.far (p:=⟨w1.heap.size,0,none⟩) n1 _).far (p:=⟨w1.heap.size,1,none⟩) n1 _).far (p:=⟨w1.heap.size,2,none⟩) n1 _).far (p:=⟨w1.heap.size,3,none⟩) n1 _).far (p:=⟨w1.heap.size,4,none⟩) n1 _)
     (((((YM.set_ 0 _).set_ 1 _).set_ 2 _).set_ 3 _).set_ 4 _)
     (((((go.setOff (p:=⟨w1.heap.size,0,none⟩) z1 _).setOff (p:=⟨w1.heap.size,1,none⟩) z1 _).setOff (p:=⟨w1.heap.size,2,none⟩) z1 _).setOff (p:=⟨w1.heap.size,3,none⟩) z1 _).setOff (p:=⟨w1.heap.size,4,none⟩) z1 _)
     (((((Hm.setOff (p:=⟨w1.heap.size,0,none⟩) z2 _).setOff (p:=⟨w1.heap.size,1,none⟩) z2 _).setOff (p:=⟨w1.heap.size,2,none⟩) z2 _).setOff (p:=⟨w1.heap.size,3,none⟩) z2 _).setOff (p:=⟨w1.heap.size,4,none⟩) z2 _)
     (fun k hk=>by have:=(BL k hk).2;simp;omega) (by simp) (by simp;omega) z1 z2 o_ bel_⟩
   ·have BV:Below (w.heap.size+1+1+1) (((w.alloc (.cells #[v0,v1,v2,v3,.slice A D.ss.length c] 30)).alloc (.cells z5_ 30)).alloc (.cells z5_ 30)) w2:=bel_
    have G7:=Blk.below (((Blk.newAt rfl).alloc _).alloc _) BV (show w.heap.size<_ by omega);have GF:=Blk.below ((Blk.newAt (by simp)).alloc _) BV (show w.heap.size+1<_ by omega);have YM:=Blk.below (Blk.newAt (by simp)) BV (show w.heap.size+1+1<_ by omega);have BL:∀k,zw (.slice An1 D.fn.length cn1) (.slice Al1 D.fl.length cl1) k->w.heap.size+1+1+1<=k/\k<w1.heap.size:=fun k hk=>by have:=Hj.lt k hk;simp at this;omega
    have bS:=Hm.lt;have z1:¬zw (.slice An1 D.fn.length cn1) (.slice Al1 D.fl.length cl1) (w.heap.size+1+1):=fun hk=>by have:=(BL _ hk).1;omega
    have z2:¬zw (.slice An2 D.nn.length cn2) (.slice Al2 D.nl.length cl2) (w.heap.size+1+1):=fun hk=>by have:=(bS _ hk).1;omega
    have n0:w.heap.size≠w.heap.size+1+1:=o_
    have n1:w.heap.size+1≠w.heap.size+1+1:=o_
    have go:=Hj.kept He
    exact⟨_,rfl,VP (((((G7.far (p:=⟨w.heap.size+1+1,0,none⟩) n0 _).far (p:=⟨w.heap.size+1+1,1,none⟩) n0 _).far (p:=⟨w.heap.size+1+1,2,none⟩) n0 _).far (p:=⟨w.heap.size+1+1,3,none⟩) n0 _).far (p:=⟨w.heap.size+1+1,4,none⟩) n0 _)
     (((((GF.far (p:=⟨w.heap.size+1+1,0,none⟩) n1 _).far (p:=⟨w.heap.size+1+1,1,none⟩) n1 _).far (p:=⟨w.heap.size+1+1,2,none⟩) n1 _).far (p:=⟨w.heap.size+1+1,3,none⟩) n1 _).far (p:=⟨w.heap.size+1+1,4,none⟩) n1 _)
     (((((YM.set_ 0 _).set_ 1 _).set_ 2 _).set_ 3 _).set_ 4 _)
     (((((go.setOff (p:=⟨w.heap.size+1+1,0,none⟩) z1 _).setOff (p:=⟨w.heap.size+1+1,1,none⟩) z1 _).setOff (p:=⟨w.heap.size+1+1,2,none⟩) z1 _).setOff (p:=⟨w.heap.size+1+1,3,none⟩) z1 _).setOff (p:=⟨w.heap.size+1+1,4,none⟩) z1 _)
     (((((Hm.setOff (p:=⟨w.heap.size+1+1,0,none⟩) z2 _).setOff (p:=⟨w.heap.size+1+1,1,none⟩) z2 _).setOff (p:=⟨w.heap.size+1+1,2,none⟩) z2 _).setOff (p:=⟨w.heap.size+1+1,3,none⟩) z2 _).setOff (p:=⟨w.heap.size+1+1,4,none⟩) z2 _)
     (fun k hk=>(BL k hk).2) (by simp) o_ z1 z2 o_ bel_⟩
  case rest=>
   obtain⟨Z,rfl,bm⟩:=hcut;have HS:=h_ bm;clear bm;obtain⟨A0,c0,A1,c1,A2,c2,A3,c3,A4,c4,fs0,bT,FQ,bX,hZ0,Ga,MO,BJ⟩:=HS.out;obtain⟨x_0,x_1,x_2,x_3,x_4⟩:=FQ.c5;clear bT bX hZ0 MO
   go_wp2_with fail
   first|(go_loopw [4] (fun i wr=>∃k:Nat,k<=D.ss.length/\i= .int .i64 k/\Hid (CpSt w D v0 v1 v2 v3 (.slice A D.ss.length c) Z k wr)) (fun i _=>D.ss.length -(intOf i).toNat);(case atStart=>exact⟨0,aab _,rfl,HS⟩))|(go_loopw [16] (fun i wr=>∃k:Nat,k<=D.ss.length/\i= .int .i64 k/\Hid (CpSt w D v0 v1 v2 v3 (.slice A D.ss.length c) Z k wr)) (fun i _=>D.ss.length -(intOf i).toNat);(case atStart=>exact⟨0,aab _,rfl,HS⟩))
   case round=>
    obtain⟨k,hk,rfl,HT⟩:=hrel;clear HS FQ x_0 x_1 x_2 x_3 x_4 BJ;clear A0 c0 A1 c1 A2 c2 A3 c3 A4 c4 fs0;obtain⟨A0,c0,A1,c1,A2,c2,A3,c3,A4,c4,fs,hO,hX,hR,hZ,Ga,MO,Hb⟩:=HT.out;clear HT
    have GB:fs.length=k:=by
     have:=congrArg List.length hO.map;simp at this
     omega
    subst GB;have gj:=Hb.size;have Fr:=hZ.lt;have hXlt:=hX.lt;obtain⟨x_0,x_1,x_2,x_3,x_4⟩:=hX.c5
    by_cases Hd:fs.length<D.ss.length
    ·obtain⟨b,off,rfl,hb,Ho⟩:=hcell o_
     obtain⟨k0,k1,k2,vn,vl,k3,k4,hn,hl⟩:=Ho fs.length Hd;obtain⟨FY,gS⟩:=gi.out.ws fs.length Hd;obtain⟨Av,cv,ev,_⟩:=hn.form;obtain⟨Au,cu,eu,_⟩:=hl.form;subst ev eu;have q0:=(Hb.cell (p:=⟨b,off+fs.length*5,none⟩) hb).trans k0;have q1:=(Hb.cell (p:=⟨b,off+fs.length*5+1,none⟩) hb).trans k1;have q2:=(Hb.cell (p:=⟨b,off+fs.length*5+2,none⟩) hb).trans k2;have q3:=(Hb.cell (p:=⟨b,off+fs.length*5+3,none⟩) hb).trans k3;have q4:=(Hb.cell (p:=⟨b,off+fs.length*5+4,none⟩) hb).trans k4;have FM:=h_ (hn.below Hb);have Gc:=h_ (hl.below Hb);have Yb:Hid (D.ss.take (fs.length+1)=D.ss.take fs.length++[D.ss[fs.length]]):=h_ (aax Hd);generalize D.ss[fs.length]=s at*;clear k0 k1 k2 k3 k4 Ho hcell hn hl;have HO:=h_ hO;have HX:=h_ hX;have HR:=h_ hR;have HZ:=h_ hZ;have YN:=h_ MO;clear hO hX hR hZ MO
     go_wp2_with fail
     obtain⟨w2,Uo⟩:∃w2,w2=wr.alloc (.cells #[.int .i64 s.k,.int .i64 s.a,.int .i64 s.b,.slice Av s.ns.length cv,.slice Au s.ls.length cu] 113):=⟨_,rfl⟩;rw[<-Uo];have Fc:Below wr.heap.size wr w2:=Uo▸(aaj _ _).alloc (aaa _) _;have fh:Blk w2 wr.heap.size 113 #[.int .i64 s.k,.int .i64 s.a,.int .i64 s.b,.slice Av s.ns.length cv,.slice Au s.ls.length cu]:=Uo▸Blk.newAt rfl;clear Uo q0 q1 q2 q3 q4 x_0 x_1 x_2 x_3 x_4;have hS2l:=fh.lt;refine(HCP.out _ (by decide) _ _ s.ns s.ls _ (FM.out.below Fc) (Gc.out.below Fc) FY gS).mono ?_
     rintro e w3 ⟨An,cn,Al,cl,rfl,Hq,Hf⟩;have C7:Below wr.heap.size wr w3:=Fc.trans (Hf.mono Fc.size);have FX:=fh.below Hf hS2l;have GM:=HO.out.kept C7;have Up:=HO.out.lt;have gU:=HX.out.below C7 hXlt;have GK:=HR.out.below C7 HR.out.lt;have cZ:=HZ.out.below C7 Fr;have Hc:=Hb.trans (C7.mono gj);have H9:w.heap.size+1+1<=wr.heap.size:=o_
     have ho3m:=Hq.mono (show w.heap.size+1+1<=w2.heap.size from aai H9 Fc.size);have gp:∀b,zw (.slice An s.ns.length cn) (.slice Al s.ls.length cl) b->wr.heap.size<b:=fun b hb=>by have:=(Hq.lt b hb).1;omega
     have hS3l:=FX.lt;have hnG:¬qn (.slice A0 D.fn.length c0) (.slice A1 D.fl.length c1) (.slice A2 D.nn.length c2) (.slice A3 D.nl.length c3) (.slice A4 fs.length c4) fs wr.heap.size:=fun hb=>by have:=(Up _ hb).2;omega
     have hnW:¬zw (.slice An s.ns.length cn) (.slice Al s.ls.length cl) wr.heap.size:=fun hb=>by have:=gp _ hb;omega
     have hnZ:¬zw (.slice An s.ns.length cn) (.slice Al s.ls.length cl) Z:=fun hb=>by have:=gp _ hb;omega
     have hHN:Hid (∀b,zw (.slice An s.ns.length cn) (.slice Al s.ls.length cl) b->¬qn (.slice A0 D.fn.length c0) (.slice A1 D.fl.length c1) (.slice A2 D.nn.length c2) (.slice A3 D.nl.length c3) (.slice A4 fs.length c4) fs b):=h_ (fun b hb gw=>by have:=gp b hb;have:=(Up b gw).2;omega);have Uq:Hid (∀b,qn (.slice A0 D.fn.length c0) (.slice A1 D.fl.length c1) (.slice A2 D.nn.length c2) (.slice A3 D.nl.length c3) (.slice A4 fs.length c4) fs b->w.heap.size+1+1<=b):=h_ (fun b hb=>(Up b hb).1);have hHnZ:=h_ hnZ;have hZG:Z≠wr.heap.size:=o_
     have hXG:w.heap.size≠wr.heap.size:=o_
     have hRG:w.heap.size+1≠wr.heap.size:=o_
     obtain⟨w4,mw⟩:∃w4,w4=(w3.setCell ⟨wr.heap.size,3,none⟩ (.slice An s.ns.length cn)).setCell ⟨wr.heap.size,4,none⟩ (.slice Al s.ls.length cl):=⟨_,rfl⟩;have MP:OwnD (w.heap.size+1+1) w4 _ _ _ _ _ _ fs:=mw▸(GM.setFar (p:=⟨wr.heap.size,3,none⟩) hnG _).setFar (p:=⟨wr.heap.size,4,none⟩) hnG _;have gF:OwnW (w.heap.size+1+1) w4 _ _ s.ns s.ls:=mw▸(ho3m.setOff (p:=⟨wr.heap.size,3,none⟩) hnW _).setOff (p:=⟨wr.heap.size,4,none⟩) hnW _;have G8:Blk w4 w.heap.size _ _:=mw▸(gU.far (p:=⟨wr.heap.size,3,none⟩) hXG _).far (p:=⟨wr.heap.size,4,none⟩) hXG _;have fd:Blk w4 (w.heap.size+1) _ _:=mw▸(GK.far (p:=⟨wr.heap.size,3,none⟩) hRG _).far (p:=⟨wr.heap.size,4,none⟩) hRG _;have BW:Blk w4 Z _ _:=mw▸(cZ.far (p:=⟨wr.heap.size,3,none⟩) hZG _).far (p:=⟨wr.heap.size,4,none⟩) hZG _;have Hp:Below w.heap.size w w4:=mw▸(Hc.setCell (p:=⟨wr.heap.size,3,none⟩) (show w.heap.size<=wr.heap.size from gj) _).setCell (p:=⟨wr.heap.size,4,none⟩) (show w.heap.size<=wr.heap.size from gj) _;have YO:w4.heap.size=w3.heap.size:=by rw[mw];simp
     have YP:=h_ (MP.alloc (.cells #[.int .i64 s.k,.int .i64 s.a,.int .i64 s.b,.slice An s.ns.length cn,.slice Al s.ls.length cl] 113));have hHo4:=h_ (gF.alloc' (.cells #[.int .i64 s.k,.int .i64 s.a,.int .i64 s.b,.slice An s.ns.length cn,.slice Al s.ls.length cl] 113));have hHX4:=h_ (G8.alloc (.cells #[.int .i64 s.k,.int .i64 s.a,.int .i64 s.b,.slice An s.ns.length cn,.slice Al s.ls.length cl] 113));have hHR4:=h_ (fd.alloc (.cells #[.int .i64 s.k,.int .i64 s.a,.int .i64 s.b,.slice An s.ns.length cn,.slice Al s.ls.length cl] 113));have hHZ4:=h_ (BW.alloc (.cells #[.int .i64 s.k,.int .i64 s.a,.int .i64 s.b,.slice An s.ns.length cn,.slice Al s.ls.length cl] 113));have hsE:(w4.alloc (.cells #[.int .i64 s.k,.int .i64 s.a,.int .i64 s.b,.slice An s.ns.length cn,.slice Al s.ls.length cl] 113)).heap.size =w3.heap.size+1:=by simp[YO]
     have BY:fs.length<=1048576:=by have:=gi.out.ss;omega
     have hHL4:Hid (∀(j:Nat) (u:Value),(sfc (s,.slice An s.ns.length cn,.slice Al s.ls.length cl))[j]? =some u->(w4.alloc (.cells #[.int .i64 s.k,.int .i64 s.a,.int .i64 s.b,.slice An s.ns.length cn,.slice Al s.ls.length cl] 113)).cell? ((⟨w3.heap.size,0,none⟩:Addr).add j)=some u):=h_ (Vl YO.symm rfl);have YQ:=h_ (Hp.alloc Hp.size (.cells #[.int .i64 s.k,.int .i64 s.a,.int .i64 s.b,.slice An s.ns.length cn,.slice Al s.ls.length cl] 113));have NX:w.heap.size+1+1<=(w4.alloc (.cells #[.int .i64 s.k,.int .i64 s.a,.int .i64 s.b,.slice An s.ns.length cn,.slice Al s.ls.length cl] 113)).heap.size :=by simp;omega
     obtain⟨s_0,s_1,s_2,s_3,s_4,s_f0,s_f1,s_f2,s_f3,s_f4⟩:=FX.b5;obtain⟨z_0,z_1,z_2,z_3,z_4⟩:=cZ.c5;have hz3l:=cZ.lt;clear Hf fh FM Gc HO HX HR HZ Hb Hq ho3m GM gU GK cZ C7 Fc Hc hS2l MP gF G8 fd BW Up gp hnG hnW hnZ;clear YO;subst mw
     go_wp2_with (at_builtin;refine vT rfl _ _ _ rfl (w.heap.size+1+1) 113 i0 Tryz.underlying28 hi iz0 iz1 iz2 (.slice A4 fs.length c4) fs (s,.slice An s.ns.length cn,.slice Al s.ls.length cl) ⟨w3.heap.size,0,none⟩ 1 rfl rfl YP.out.ss.row hHL4.out (z1K _ _ _ _ _ _ _ rfl rfl) BY NX ?_)
     intro A5 c5 w5 hr5 bv ha5;have Bw:=YP.out.snoc (f:=(s,.slice An s.ns.length cn,.slice Al s.ls.length cl)) (by rw[aaY];simpa using hr5) bv (by rw[hsE];exact ha5) hHo4.out hHN.out;have Cn:=hHX4.out.grownR bv (fun k hk e=>by have:=Uq.out k (.inr (.inr (.inl hk)));omega);have f9:=hHR4.out.grownR bv (fun k hk e=>by have:=Uq.out k (.inr (.inr (.inl hk)));omega);have uE:=hHZ4.out.grownR bv (fun k hk e=>YN.out (e▸ .inr (.inr (.inl hk))));have gf:=YQ.out.grown bv YQ.out.size (fun k hk=>by have:=Uq.out k (.inr (.inr (.inl hk)));omega)
     have YR:¬qn (.slice A0 D.fn.length c0) (.slice A1 D.fl.length c1) (.slice A2 D.nn.length c2) (.slice A3 D.nl.length c3) (.slice A5 (fs.length+1) c5) (fs++[(s,.slice An s.ns.length cn,.slice Al s.ls.length cl)]) Z:=by
      intro hz
      rcases Xe ha5 hz with h1|h1|h1
      ·exact YN.out h1
      ·omega
      ·exact hHnZ.out h1
     have bo:=Bw.setFar (p:=⟨Z,4,none⟩) YR (.slice A5 (fs.length+1) c5)
     have Bt:OwnD (w.heap.size+1+1) (w5.setCell ⟨Z,4,none⟩ (.slice A5 (fs.length+1) c5)) (.slice A0 D.fn.length c0) (.slice A1 D.fl.length c1) (.slice A2 D.nn.length c2) (.slice A3 D.nl.length c3) (.slice A5 (fs.length+1) c5) ⟨D.fn,D.fl,D.nn,D.nl,D.ss.take (fs.length+1)⟩ (fs++[(s,.slice An s.ns.length cn,.slice Al s.ls.length cl)]):=by
      rw[Yb.out];exact bo
     have YL:Hid (CpSt w D v0 v1 v2 v3 (.slice (some ⟨b,off,none⟩) D.ss.length c) Z (fs.length+1) (w5.setCell ⟨Z,4,none⟩ (.slice A5 (fs.length+1) c5))):=
      h_ ⟨A0,c0,A1,c1,A2,c2,A3,c3,A5,c5,_,Bt,Cn.far (p:=⟨Z,4,none⟩) (by show _≠Z;omega) _,f9.far (p:=⟨Z,4,none⟩) (by show _≠Z;omega) _,uE.set_ 4 _,Ga,YR,gf.setCell (p:=⟨Z,4,none⟩) (by show w.heap.size<=Z;omega) _⟩
     obtain⟨y_0,y_1,y_2,y_3,y_4,y_f0,y_f1,y_f2,y_f3,y_f4⟩:=uE.b5;clear Bw bo Bt Cn f9 uE gf YR hr5 bv ha5 YP hHo4 hHX4 hHR4 hHZ4 hHL4 YQ hHN Uq hHnZ YN Yb s_0 s_1 s_2 s_3 s_4 s_f0 s_f1 s_f2 s_f3 s_f4 z_0 z_1 z_2 z_3 z_4;go_wp2;go_roundw
     case rel=>exact⟨fs.length+1,by omega,by go_num,YL⟩
     case measure=>simp[intOf];omega
    ·have Hw:fs.length=D.ss.length:=o_
     have hO':OwnD (w.heap.size+1+1) wr (.slice A0 D.fn.length c0) (.slice A1 D.fl.length c1) (.slice A2 D.nn.length c2) (.slice A3 D.nl.length c3) (.slice A4 D.ss.length c4) D fs:=by
      have:=hO;rw[Hw,aaB] at this;exact this
     rw[Hw] at hZ;obtain⟨z_0,z_1,z_2,z_3,z_4⟩:=hZ.c5;obtain⟨r_0,r_1,r_2,r_3,r_4,r_f0,r_f1,r_f2,r_f3,r_f4⟩:=hR.b5;have Hl:=hR.lt;have br:∀k,qn (.slice A0 D.fn.length c0) (.slice A1 D.fl.length c1) (.slice A2 D.nn.length c2) (.slice A3 D.nl.length c3) (.slice A4 D.ss.length c4) fs k->w.heap.size+1<k:=fun k hk=>(hO'.lt k hk).1
     have step:∀(W:World) (j:Nat) (u:Value),OwnD w.heap.size W (.slice A0 D.fn.length c0) (.slice A1 D.fl.length c1) (.slice A2 D.nn.length c2) (.slice A3 D.nl.length c3) (.slice A4 D.ss.length c4) D fs->OwnD w.heap.size (W.setCell ⟨w.heap.size+1,j,none⟩ u) (.slice A0 D.fn.length c0) (.slice A1 D.fl.length c1) (.slice A2 D.nn.length c2) (.slice A3 D.nl.length c3) (.slice A4 D.ss.length c4) D fs:=
      fun W j u hW=>hW.setFar (p:=⟨w.heap.size+1,j,none⟩) (fun hk=>by have h2:w.heap.size+1<w.heap.size+1:=br _ hk;omega) u
     have HH:∀u0 u1 u2 u3 u4,Hid (OwnD w.heap.size (((((wr.setCell ⟨w.heap.size+1,0,none⟩ u0).setCell ⟨w.heap.size+1,1,none⟩ u1).setCell ⟨w.heap.size+1,2,none⟩ u2).setCell ⟨w.heap.size+1,3,none⟩ u3).setCell ⟨w.heap.size+1,4,none⟩ u4) (.slice A0 D.fn.length c0) (.slice A1 D.fl.length c1) (.slice A2 D.nn.length c2) (.slice A3 D.nl.length c3) (.slice A4 D.ss.length c4) D fs):=fun u0 u1 u2 u3 u4=>
      h_ (step _ _ _ (step _ _ _ (step _ _ _ (step _ _ _ (step _ _ _ (hO'.mono o_))))))
     have HB:∀u0 u1 u2 u3 u4,Hid (Below w.heap.size w (((((wr.setCell ⟨w.heap.size+1,0,none⟩ u0).setCell ⟨w.heap.size+1,1,none⟩ u1).setCell ⟨w.heap.size+1,2,none⟩ u2).setCell ⟨w.heap.size+1,3,none⟩ u3).setCell ⟨w.heap.size+1,4,none⟩ u4)):=fun u0 u1 u2 u3 u4=>h_
      (((((Hb.setCell (p:=⟨w.heap.size+1,0,none⟩) sz_ u0).setCell (p:=⟨w.heap.size+1,1,none⟩) sz_ u1).setCell (p:=⟨w.heap.size+1,2,none⟩) sz_ u2).setCell (p:=⟨w.heap.size+1,3,none⟩) sz_ u3).setCell (p:=⟨w.heap.size+1,4,none⟩) sz_ u4)
     clear hO hO' br step hcell Hb hX hZ hR MO;go_wp2;exact bodyPost_ret (v:= .agg #[.slice A0 D.fn.length c0,.slice A1 D.fl.length c1,.slice A2 D.nn.length c2,.slice A3 D.nl.length c3,.slice A4 D.ss.length c4]) (by simp[results,Tryz.results135,Tryz.results80,go_sem,r_0,r_1,r_2,r_3,r_4,Hl]) rfl ⟨_,_,_,_,_,_,_,_,_,_,fs,rfl,(HH _ _ _ _ _).out,(HB _ _ _ _ _).out⟩
theorem Zf (v0 v1 v2 v3 v4:Value) (D:Dr) (w:World) (h:RD w v0 v1 v2 v3 v4 D) (hle:DrLe D):
  Calls Tryz.prog 135 #[.agg #[v0,v1,v2,v3,v4]] w (RetD D w):=z0D _ (.inl rfl) _ _ _ _ _ D w h hle
theorem Za (v0 v1 v2 v3 v4:Value) (D:Dr) (w:World) (h:RD w v0 v1 v2 v3 v4 D) (hle:DrLe D):
  Calls Tryz.prog 80 #[.agg #[v0,v1,v2,v3,v4]] w (RetD D w):=z0D _ (.inr rfl) _ _ _ _ _ D w h hle
end Go.Proofs.YtnjcpljhmhdhkaaGreat
