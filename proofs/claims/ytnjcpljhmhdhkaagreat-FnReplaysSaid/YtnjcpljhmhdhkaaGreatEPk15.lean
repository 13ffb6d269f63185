/- part 15 -/
import Derived.Test.YtnjcpljhmhdhkaaGreatEPk8
import Derived.Test.YtnjcpljhmhdhkaaGreatEPk14
import Derived.Deep.RegionHeld3
set_option linter.unusedSimpArgs false
set_option linter.unusedVariables false
set_option maxRecDepth 100000
set_option maxHeartbeats 8000000
namespace Go.Proofs.YtnjcpljhmhdhkaaGreat
open Go.RowKit
noncomputable def yZ (ns ls:List Pr) (k a b:Int):Bool:=if k=1 then addB ns ls a b else if k=2 then hasL ns ls a else if k=3 then z9C ns ls a else false
noncomputable def y8 (ns ls:List Pr) (k a b:Int):List Pr:=if k=3 then qo ns ls a else ns
noncomputable def y7 (ns ls:List Pr) (k a b:Int):List Pr:=if k=1 then addL ns ls a b else if k=2 then jO ns ls a else if k=3 then qp ns ls a else ls
theorem z7Z (vn vl:Value) (ns ls:List Pr) (a b:Int) (w:World) (hn:RP w vn ns) (hl:RP w vl ls) (h1:ns.length<=1048576) (h2:ls.length<=1048576):
  Calls Tryz.prog 89 #[.agg #[vn,vl],.int .i64 1,.int .i64 a,.int .i64 b] w (zG ns (addL ns ls a b) (addB ns ls a b) w):=by
 go_enter Tryz.func89,Tryz.ntmps89
 go_wp2_with fail
 refine(z7j _ _ ns ls a b _ (hn.below bel_) (hl.below bel_) h1 h2).mono ?_
 rintro e w1 ⟨An,cn,Al,cl,rfl,Hi,h9⟩;have Ht:=h9.size;simp at Ht
 have Hx:Blk w1 (w.heap.size+1) 27 #[.slice none 0 0,.slice none 0 0]:=Blk.below (Blk.newAt (by simp)) h9 sz_;have H7:OwnW (w.heap.size+1+1) w1 (.slice An (ns).length cn) (.slice Al ((addL ns ls a b)).length cl) ns (addL ns ls a b):=by simpa using Hi
 have h8:Below w.heap.size w w1:=bel_
 have n2:w.heap.size+1<w1.heap.size:=o_
 have cG:=h_ (((H7.setLow (p:=⟨w.heap.size+1,0,none⟩) (show w.heap.size+1<w.heap.size+1+1 by omega) (.slice An (ns).length cn)).setLow (p:=⟨w.heap.size+1,1,none⟩) (show w.heap.size+1<w.heap.size+1+1 by omega) (.slice Al ((addL ns ls a b)).length cl)).mono (show w.heap.size<=_ by omega));have HB:=h_ ((h8.setCell (p:=⟨w.heap.size+1,0,none⟩) sz_ (.slice An (ns).length cn)).setCell (p:=⟨w.heap.size+1,1,none⟩) sz_ (.slice Al ((addL ns ls a b)).length cl));obtain⟨r_0,r_1,r_f0,r_f1⟩:=Hx.b2;go_wp2;exact bodyPost_ret (v:= .tuple #[.agg #[.slice An (ns).length cn,.slice Al ((addL ns ls a b)).length cl],.bool (addB ns ls a b)]) (by simp[results,Tryz.results89,go_sem,r_0,r_1,n2]) rfl (zG.mk rfl rfl rfl cG.out HB.out)
theorem z7R (vn vl:Value) (ns ls:List Pr) (a b:Int) (w:World) (hn:RP w vn ns) (hl:RP w vl ls) (h1:ns.length<=1048576) (h2:ls.length<=1048576):
  Calls Tryz.prog 89 #[.agg #[vn,vl],.int .i64 2,.int .i64 a,.int .i64 b] w (zG ns (jO ns ls a) (hasL ns ls a) w):=by
 go_enter Tryz.func89,Tryz.ntmps89
 go_wp2_with fail
 refine(z4R _ _ ns ls a _ (hn.below bel_) (hl.below bel_) h1 h2).mono ?_
 rintro e w1 ⟨An,cn,Al,cl,rfl,Hi,h9⟩;have Ht:=h9.size;simp at Ht
 have Hx:Blk w1 (w.heap.size+1) 27 #[.slice none 0 0,.slice none 0 0]:=Blk.below (Blk.newAt (by simp)) h9 sz_;have H7:OwnW (w.heap.size+1+1) w1 (.slice An (ns).length cn) (.slice Al ((jO ns ls a)).length cl) ns (jO ns ls a):=by simpa using Hi
 have h8:Below w.heap.size w w1:=bel_
 have n2:w.heap.size+1<w1.heap.size:=o_
 have cG:=h_ (((H7.setLow (p:=⟨w.heap.size+1,0,none⟩) (show w.heap.size+1<w.heap.size+1+1 by omega) (.slice An (ns).length cn)).setLow (p:=⟨w.heap.size+1,1,none⟩) (show w.heap.size+1<w.heap.size+1+1 by omega) (.slice Al ((jO ns ls a)).length cl)).mono (show w.heap.size<=_ by omega));have HB:=h_ ((h8.setCell (p:=⟨w.heap.size+1,0,none⟩) sz_ (.slice An (ns).length cn)).setCell (p:=⟨w.heap.size+1,1,none⟩) sz_ (.slice Al ((jO ns ls a)).length cl));obtain⟨r_0,r_1,r_f0,r_f1⟩:=Hx.b2;go_wp2;exact bodyPost_ret (v:= .tuple #[.agg #[.slice An (ns).length cn,.slice Al ((jO ns ls a)).length cl],.bool (hasL ns ls a)]) (by simp[results,Tryz.results89,go_sem,r_0,r_1,n2]) rfl (zG.mk rfl rfl rfl cG.out HB.out)
theorem z7X (vn vl:Value) (ns ls:List Pr) (a b:Int) (w:World) (hn:RP w vn ns) (hl:RP w vl ls) (h1:ns.length<=1048576) (h2:ls.length<=1048576):
  Calls Tryz.prog 89 #[.agg #[vn,vl],.int .i64 3,.int .i64 a,.int .i64 b] w (zG (qo ns ls a) (qp ns ls a) (z9C ns ls a) w):=by
 go_enter Tryz.func89,Tryz.ntmps89
 go_wp2_with fail
 refine(z4G _ _ ns ls a _ (hn.below bel_) (hl.below bel_) h1 h2).mono ?_
 rintro e w1 ⟨An,cn,Al,cl,rfl,Hi,h9⟩;have Ht:=h9.size;simp at Ht
 have Hx:Blk w1 (w.heap.size+1) 27 #[.slice none 0 0,.slice none 0 0]:=Blk.below (Blk.newAt (by simp)) h9 sz_;have H7:OwnW (w.heap.size+1+1) w1 (.slice An ((qo ns ls a)).length cn) (.slice Al ((qp ns ls a)).length cl) (qo ns ls a) (qp ns ls a):=by simpa using Hi
 have h8:Below w.heap.size w w1:=bel_
 have n2:w.heap.size+1<w1.heap.size:=o_
 have cG:=h_ (((H7.setLow (p:=⟨w.heap.size+1,0,none⟩) (show w.heap.size+1<w.heap.size+1+1 by omega) (.slice An ((qo ns ls a)).length cn)).setLow (p:=⟨w.heap.size+1,1,none⟩) (show w.heap.size+1<w.heap.size+1+1 by omega) (.slice Al ((qp ns ls a)).length cl)).mono (show w.heap.size<=_ by omega));have HB:=h_ ((h8.setCell (p:=⟨w.heap.size+1,0,none⟩) sz_ (.slice An ((qo ns ls a)).length cn)).setCell (p:=⟨w.heap.size+1,1,none⟩) sz_ (.slice Al ((qp ns ls a)).length cl));obtain⟨r_0,r_1,r_f0,r_f1⟩:=Hx.b2;go_wp2;exact bodyPost_ret (v:= .tuple #[.agg #[.slice An ((qo ns ls a)).length cn,.slice Al ((qp ns ls a)).length cl],.bool (z9C ns ls a)]) (by simp[results,Tryz.results89,go_sem,r_0,r_1,n2]) rfl (zG.mk rfl rfl rfl cG.out HB.out)
theorem z7z (vn vl:Value) (ns ls:List Pr) (k:Int) (a b:Int) (w:World) (hn:RP w vn ns) (hl:RP w vl ls) (h1:ns.length<=1048576) (h2:ls.length<=1048576) (Ff:(k==1)=false) (gG:(k==2)=false) (Bv:(k==3)=false):
  Calls Tryz.prog 89 #[.agg #[vn,vl],.int .i64 k,.int .i64 a,.int .i64 b] w (zG ns ls false w):=by
 go_enter Tryz.func89,Tryz.ntmps89
 go_wp2_with fail
 refine(qn _ _ ns ls _ (hn.below bel_) (hl.below bel_) h1 h2).mono ?_
 rintro e w1 ⟨An,cn,Al,cl,rfl,Hi,h9⟩;have Ht:=h9.size;simp at Ht
 have Hx:Blk w1 (w.heap.size+1) 27 #[.slice none 0 0,.slice none 0 0]:=Blk.below (Blk.newAt (by simp)) h9 sz_;have H7:OwnW (w.heap.size+1+1) w1 (.slice An (ns).length cn) (.slice Al (ls).length cl) ns ls:=by simpa using Hi
 have h8:Below w.heap.size w w1:=bel_
 have n2:w.heap.size+1<w1.heap.size:=o_
 have cG:=h_ (((H7.setLow (p:=⟨w.heap.size+1,0,none⟩) (show w.heap.size+1<w.heap.size+1+1 by omega) (.slice An (ns).length cn)).setLow (p:=⟨w.heap.size+1,1,none⟩) (show w.heap.size+1<w.heap.size+1+1 by omega) (.slice Al (ls).length cl)).mono (show w.heap.size<=_ by omega));have HB:=h_ ((h8.setCell (p:=⟨w.heap.size+1,0,none⟩) sz_ (.slice An (ns).length cn)).setCell (p:=⟨w.heap.size+1,1,none⟩) sz_ (.slice Al (ls).length cl));obtain⟨r_0,r_1,r_f0,r_f1⟩:=Hx.b2;go_wp2;exact bodyPost_ret (v:= .tuple #[.agg #[.slice An (ns).length cn,.slice Al (ls).length cl],.bool false]) (by simp[results,Tryz.results89,go_sem,r_0,r_1,n2]) rfl (zG.mk rfl rfl rfl cG.out HB.out)
theorem z4X (vn vl:Value) (ns ls:List Pr) (k a b:Int) (w:World) (hn:RP w vn ns) (hl:RP w vl ls) (h1:ns.length<=1048576) (h2:ls.length<=1048576):
  Calls Tryz.prog 89 #[.agg #[vn,vl],.int .i64 k,.int .i64 a,.int .i64 b] w (zG (y8 ns ls k a b) (y7 ns ls k a b) (yZ ns ls k a b) w):=by
 unfold y8 y7 yZ
 by_cases e1:k=1
 ·subst e1;simpa using z7Z vn vl ns ls a b w hn hl h1 h2
 ·by_cases e2:k=2
  ·subst e2;simpa using z7R vn vl ns ls a b w hn hl h1 h2
  ·by_cases e3:k=3
   ·subst e3;simpa using z7X vn vl ns ls a b w hn hl h1 h2
   ·rw[aaq e3,aaq e1,aaq e2,aaq e3,aaq e1,aaq e2,aaq e3]
    exact z7z vn vl ns ls k a b w hn hl h1 h2 (by simp[e1]) (by simp[e2]) (by simp[e3])
theorem z7n (vn vl:Value) (ns ls:List Pr) (a b:Int) (w:World) (hn:RP w vn ns) (hl:RP w vl ls) (h1:ns.length<=1048576) (h2:ls.length<=1048576):
  Calls Tryz.prog 38 #[.agg #[vn,vl],.int .i64 1,.int .i64 a,.int .i64 b] w (zG ns (addL ns ls a b) (addB ns ls a b) w):=by
 go_enter Tryz.func38,Tryz.ntmps38
 go_wp2_with fail
 refine(VD _ _ ns ls a b _ (hn.below bel_) (hl.below bel_) h1 h2).mono ?_
 rintro e w1 ⟨An,cn,Al,cl,rfl,Hi,h9⟩;have Ht:=h9.size;simp at Ht
 have Hx:Blk w1 (w.heap.size+1) 27 #[.slice none 0 0,.slice none 0 0]:=Blk.below (Blk.newAt (by simp)) h9 sz_;have H7:OwnW (w.heap.size+1+1) w1 (.slice An (ns).length cn) (.slice Al ((addL ns ls a b)).length cl) ns (addL ns ls a b):=by simpa using Hi
 have h8:Below w.heap.size w w1:=bel_
 have n2:w.heap.size+1<w1.heap.size:=o_
 have cG:=h_ ((((H7.setLow (p:=⟨w.heap.size+1,0,none⟩) (show w.heap.size+1<w.heap.size+1+1 by omega) (.slice An (ns).length cn)).setLow (p:=⟨w.heap.size+1,1,none⟩) (show w.heap.size+1<w.heap.size+1+1 by omega) (.slice Al ((addL ns ls a b)).length cl)).alloc (.cells #[.slice An (ns).length cn,.slice Al ((addL ns ls a b)).length cl] 27)).mono (show w.heap.size<=_ by omega));have HB:=h_ (((h8.setCell (p:=⟨w.heap.size+1,0,none⟩) sz_ (.slice An (ns).length cn)).setCell (p:=⟨w.heap.size+1,1,none⟩) sz_ (.slice Al ((addL ns ls a b)).length cl)).alloc (by simp;omega) (.cells #[.slice An (ns).length cn,.slice Al ((addL ns ls a b)).length cl] 27));obtain⟨r_0,r_1,r_f0,r_f1⟩:=Hx.b2;go_wp2;exact bodyPost_ret (v:= .tuple #[.agg #[.slice An (ns).length cn,.slice Al ((addL ns ls a b)).length cl],.bool (addB ns ls a b)]) (by simp[results,Tryz.results38,go_sem,r_0,r_1,n2]) rfl (zG.mk rfl rfl rfl cG.out HB.out)
theorem z7N (vn vl:Value) (ns ls:List Pr) (a b:Int) (w:World) (hn:RP w vn ns) (hl:RP w vl ls) (h1:ns.length<=1048576) (h2:ls.length<=1048576):
  Calls Tryz.prog 38 #[.agg #[vn,vl],.int .i64 2,.int .i64 a,.int .i64 b] w (zG ns (jO ns ls a) (hasL ns ls a) w):=by
 go_enter Tryz.func38,Tryz.ntmps38
 go_wp2_with fail
 refine(XD _ _ ns ls a _ (hn.below bel_) (hl.below bel_) h1 h2).mono ?_
 rintro e w1 ⟨An,cn,Al,cl,rfl,Hi,h9⟩;have Ht:=h9.size;simp at Ht
 have Hx:Blk w1 (w.heap.size+1) 27 #[.slice none 0 0,.slice none 0 0]:=Blk.below (Blk.newAt (by simp)) h9 sz_;have H7:OwnW (w.heap.size+1+1) w1 (.slice An (ns).length cn) (.slice Al ((jO ns ls a)).length cl) ns (jO ns ls a):=by simpa using Hi
 have h8:Below w.heap.size w w1:=bel_
 have n2:w.heap.size+1<w1.heap.size:=o_
 have cG:=h_ ((((H7.setLow (p:=⟨w.heap.size+1,0,none⟩) (show w.heap.size+1<w.heap.size+1+1 by omega) (.slice An (ns).length cn)).setLow (p:=⟨w.heap.size+1,1,none⟩) (show w.heap.size+1<w.heap.size+1+1 by omega) (.slice Al ((jO ns ls a)).length cl)).alloc (.cells #[.slice An (ns).length cn,.slice Al ((jO ns ls a)).length cl] 27)).mono (show w.heap.size<=_ by omega));have HB:=h_ (((h8.setCell (p:=⟨w.heap.size+1,0,none⟩) sz_ (.slice An (ns).length cn)).setCell (p:=⟨w.heap.size+1,1,none⟩) sz_ (.slice Al ((jO ns ls a)).length cl)).alloc (by simp;omega) (.cells #[.slice An (ns).length cn,.slice Al ((jO ns ls a)).length cl] 27));obtain⟨r_0,r_1,r_f0,r_f1⟩:=Hx.b2;go_wp2;exact bodyPost_ret (v:= .tuple #[.agg #[.slice An (ns).length cn,.slice Al ((jO ns ls a)).length cl],.bool (hasL ns ls a)]) (by simp[results,Tryz.results38,go_sem,r_0,r_1,n2]) rfl (zG.mk rfl rfl rfl cG.out HB.out)
theorem z7B (vn vl:Value) (ns ls:List Pr) (a b:Int) (w:World) (hn:RP w vn ns) (hl:RP w vl ls) (h1:ns.length<=1048576) (h2:ls.length<=1048576):
  Calls Tryz.prog 38 #[.agg #[vn,vl],.int .i64 3,.int .i64 a,.int .i64 b] w (zG (qo ns ls a) (qp ns ls a) (z9C ns ls a) w):=by
 go_enter Tryz.func38,Tryz.ntmps38
 go_wp2_with fail
 refine(z5b _ _ ns ls a _ (hn.below bel_) (hl.below bel_) h1 h2).mono ?_
 rintro e w1 ⟨An,cn,Al,cl,rfl,Hi,h9⟩;have Ht:=h9.size;simp at Ht
 have Hx:Blk w1 (w.heap.size+1) 27 #[.slice none 0 0,.slice none 0 0]:=Blk.below (Blk.newAt (by simp)) h9 sz_;have H7:OwnW (w.heap.size+1+1) w1 (.slice An ((qo ns ls a)).length cn) (.slice Al ((qp ns ls a)).length cl) (qo ns ls a) (qp ns ls a):=by simpa using Hi
 have h8:Below w.heap.size w w1:=bel_
 have n2:w.heap.size+1<w1.heap.size:=o_
 have cG:=h_ ((((H7.setLow (p:=⟨w.heap.size+1,0,none⟩) (show w.heap.size+1<w.heap.size+1+1 by omega) (.slice An ((qo ns ls a)).length cn)).setLow (p:=⟨w.heap.size+1,1,none⟩) (show w.heap.size+1<w.heap.size+1+1 by omega) (.slice Al ((qp ns ls a)).length cl)).alloc (.cells #[.slice An ((qo ns ls a)).length cn,.slice Al ((qp ns ls a)).length cl] 27)).mono (show w.heap.size<=_ by omega));have HB:=h_ (((h8.setCell (p:=⟨w.heap.size+1,0,none⟩) sz_ (.slice An ((qo ns ls a)).length cn)).setCell (p:=⟨w.heap.size+1,1,none⟩) sz_ (.slice Al ((qp ns ls a)).length cl)).alloc (by simp;omega) (.cells #[.slice An ((qo ns ls a)).length cn,.slice Al ((qp ns ls a)).length cl] 27));obtain⟨r_0,r_1,r_f0,r_f1⟩:=Hx.b2;go_wp2;exact bodyPost_ret (v:= .tuple #[.agg #[.slice An ((qo ns ls a)).length cn,.slice Al ((qp ns ls a)).length cl],.bool (z9C ns ls a)]) (by simp[results,Tryz.results38,go_sem,r_0,r_1,n2]) rfl (zG.mk rfl rfl rfl cG.out HB.out)
theorem z8t (vn vl:Value) (ns ls:List Pr) (k:Int) (a b:Int) (w:World) (hn:RP w vn ns) (hl:RP w vl ls) (h1:ns.length<=1048576) (h2:ls.length<=1048576) (Ff:(k==1)=false) (gG:(k==2)=false) (Bv:(k==3)=false):
  Calls Tryz.prog 38 #[.agg #[vn,vl],.int .i64 k,.int .i64 a,.int .i64 b] w (zG ns ls false w):=by
 go_enter Tryz.func38,Tryz.ntmps38
 go_wp2_with fail
 refine(zU _ _ ns ls _ (hn.below bel_) (hl.below bel_) h1 h2).mono ?_
 rintro e w1 ⟨An,cn,Al,cl,rfl,Hi,h9⟩;have Ht:=h9.size;simp at Ht
 have Hx:Blk w1 (w.heap.size+1) 27 #[.slice none 0 0,.slice none 0 0]:=Blk.below (Blk.newAt (by simp)) h9 sz_;have H7:OwnW (w.heap.size+1+1) w1 (.slice An (ns).length cn) (.slice Al (ls).length cl) ns ls:=by simpa using Hi
 have h8:Below w.heap.size w w1:=bel_
 have n2:w.heap.size+1<w1.heap.size:=o_
 have cG:=h_ (((H7.setLow (p:=⟨w.heap.size+1,0,none⟩) (show w.heap.size+1<w.heap.size+1+1 by omega) (.slice An (ns).length cn)).setLow (p:=⟨w.heap.size+1,1,none⟩) (show w.heap.size+1<w.heap.size+1+1 by omega) (.slice Al (ls).length cl)).mono (show w.heap.size<=_ by omega));have HB:=h_ ((h8.setCell (p:=⟨w.heap.size+1,0,none⟩) sz_ (.slice An (ns).length cn)).setCell (p:=⟨w.heap.size+1,1,none⟩) sz_ (.slice Al (ls).length cl));obtain⟨r_0,r_1,r_f0,r_f1⟩:=Hx.b2;go_wp2;exact bodyPost_ret (v:= .tuple #[.agg #[.slice An (ns).length cn,.slice Al (ls).length cl],.bool false]) (by simp[results,Tryz.results38,go_sem,r_0,r_1,n2]) rfl (zG.mk rfl rfl rfl cG.out HB.out)
theorem z5d (vn vl:Value) (ns ls:List Pr) (k a b:Int) (w:World) (hn:RP w vn ns) (hl:RP w vl ls) (h1:ns.length<=1048576) (h2:ls.length<=1048576):
  Calls Tryz.prog 38 #[.agg #[vn,vl],.int .i64 k,.int .i64 a,.int .i64 b] w (zG (y8 ns ls k a b) (y7 ns ls k a b) (yZ ns ls k a b) w):=by
 unfold y8 y7 yZ
 by_cases e1:k=1
 ·subst e1;simpa using z7n vn vl ns ls a b w hn hl h1 h2
 ·by_cases e2:k=2
  ·subst e2;simpa using z7N vn vl ns ls a b w hn hl h1 h2
  ·by_cases e3:k=3
   ·subst e3;simpa using z7B vn vl ns ls a b w hn hl h1 h2
   ·rw[aaq e3,aaq e1,aaq e2,aaq e3,aaq e1,aaq e2,aaq e3]
    exact z8t vn vl ns ls k a b w hn hl h1 h2 (by simp[e1]) (by simp[e2]) (by simp[e3])
theorem z4y (ns ls:List Pr) (k:Int):(qo ns ls k).length <=ns.length/\(qp ns ls k).length <=ls.length:=by
 constructor
 ·unfold qo xe
  split
  ·exact z0N ns k _
  ·exact aaa _
 ·unfold qp
  split
  ·rename_i h
   have hs:zT ns ls k=true:=by unfold z9C at h;rw[aaG] at h;exact h.1
   obtain⟨m,p,q,t,u,rfl,hk,hj⟩:=z2N hs;rw[hj.cl];exact z0Q _ _ _ _ _ _
  ·exact aaa _
theorem z2K (ns ls:List Pr) (k a b:Int):(y8 ns ls k a b).length <=ns.length/\(y7 ns ls k a b).length <=ls.length+1:=by
 have h:=z4y ns ls a;unfold y8 y7
 constructor
 ·split
  ·exact h.1
  ·exact aaa _
 ·split
  ·unfold addL;split<;>simp
  ·split
   ·unfold jO
    split
    ·simp;omega
    ·omega
   ·split
    ·omega
    ·omega
theorem z19 (vn vl:Value) (ns ls N L:List Pr) (k a b:Int) (bb:Bool) (w:World) (hn:RP w vn ns) (hl:RP w vl ls) (h1:ns.length<=1048576) (h2:ls.length<=1048576) (hN:Hid (y8 ns ls k a b=N)) (hL:Hid (y7 ns ls k a b=L)) (hB:Hid (yZ ns ls k a b=bb)):
  Calls Tryz.prog 89 #[.agg #[vn,vl],.int .i64 k,.int .i64 a,.int .i64 b] w (zG N L bb w):=by
 rw[<-hN.out,<-hL.out,<-hB.out];exact z4X vn vl ns ls k a b w hn hl h1 h2
theorem z2I (vn vl:Value) (ns ls N L:List Pr) (k a b:Int) (bb:Bool) (w:World) (hn:RP w vn ns) (hl:RP w vl ls) (h1:ns.length<=1048576) (h2:ls.length<=1048576) (hN:Hid (y8 ns ls k a b=N)) (hL:Hid (y7 ns ls k a b=L)) (hB:Hid (yZ ns ls k a b=bb)):
  Calls Tryz.prog 38 #[.agg #[vn,vl],.int .i64 k,.int .i64 a,.int .i64 b] w (zG N L bb w):=by
 rw[<-hN.out,<-hL.out,<-hB.out];exact z5d vn vl ns ls k a b w hn hl h1 h2
noncomputable def qL (nn nl:List Pr):List Pr->List Pr->List Sp->Bool
 |N,L,[]=>qO nn nl N L
 |N,L,s::r=>qO s.ns s.ls N L&&(yZ N L s.k s.a s.b&&qL nn nl (y8 N L s.k s.a s.b) (y7 N L s.k s.a s.b) r)
noncomputable def okD (D:Dr):Bool:=winB D.fn D.fl&&(decide (D.ss.length<=40)&&qL D.nn D.nl D.fn D.fl D.ss)
def XV (w:World) (X Y:Nat) (v0 v1 v2 v3 v4:Value) (D:Dr) (res:Bool) (k:Nat) (wr:World):Prop:=
 ∃(N L:List Pr) (un ul:Value),Blk wr X 30 #[v0,v1,v2,v3,v4]/\Blk wr Y 27 #[un,ul]/\RP wr un N/\RP wr ul L/\N.length<=12/\L.length<=20+k/\
  qL D.nn D.nl N L (D.ss.drop k)=res/\Below w.heap.size w wr
theorem zba (F:Nat) (hF:F=136∨F=25) (v0 v1 v2 v3 v4:Value) (D:Dr) (res:Bool) (w:World) (h:RD w v0 v1 v2 v3 v4 D) (hx:Hid (okD D=res)):
  CB_ F #[.agg #[v0,v1,v2,v3,v4]] w (.bool res):=by
 rcases hF with rfl|rfl
 all_goals
  obtain⟨bw,H8⟩:∃bw,winB D.fn D.fl=bw:=⟨_,rfl⟩;obtain⟨A,c,e4,hc,hm,hcell⟩:=h.ss;unfold maxLen at hm;subst e4;obtain⟨A0,c0,e0,_⟩:=h.fn.form;obtain⟨A1,c1,e1,_⟩:=h.fl.form;subst e0 e1;have HD:=h_ h;have nF:=h.fn;have mr:=h.fl;clear h
  cases bw
  ·have er:res=false:=by rw[<-hx.out];unfold okD;rw[H8];rfl
   subst er;clear hx hcell
   first|(go_enter Tryz.func136,Tryz.ntmps136)|(go_enter Tryz.func25,Tryz.ntmps25)
   go_wp2_with fail
   first|(refine(zF _ _ D.fn D.fl false _ (nF.below bel_) (mr.below bel_) H8).mono ?_)|(refine(qa _ _ D.fn D.fl false _ (nF.below bel_) (mr.below bel_) H8).mono ?_)
   rintro e w1 ⟨rfl,h9⟩;(first|(with_reducible have gc:=bdC h9)|have gc:=bcC h9);(first|(with_reducible have Bk:=bdF h9)|have Bk:=bcF h9);have Ht:=h9.size;(try simp at Ht);(try have gF:=p0_ w w1);(try have Ge:=p1_ w w1);(try have fi:=p2_ w w1);(try have mo:=p3_ w w1)
   go_wp2;go_ret
   exact⟨rfl,by exact bel_⟩
  ·have R2:=(zq.1 H8).2.1
   have wM:=(zq.1 H8).2.2.1
   by_cases CA:40<D.ss.length
   ·have er:res=false:=by rw[<-hx.out];unfold okD;rw[H8,aaO o_];rfl
    subst er;have MN:(40:Int)<(D.ss.length:Int):=o_
    clear hx hcell CA
    first|(go_enter Tryz.func136,Tryz.ntmps136)|(go_enter Tryz.func25,Tryz.ntmps25)
    go_wp2_with fail
    first|(refine(zF _ _ D.fn D.fl true _ (nF.below bel_) (mr.below bel_) H8).mono ?_)|(refine(qa _ _ D.fn D.fl true _ (nF.below bel_) (mr.below bel_) H8).mono ?_)
    rintro e w1 ⟨rfl,h9⟩;have Ht:=h9.size;have wN:Blk w1 w.heap.size 30 #[.slice A0 D.fn.length c0,.slice A1 D.fl.length c1,v2,v3,.slice A D.ss.length c]:=Blk.below (Blk.newAt rfl) h9 sz_;have h8:Below w.heap.size w w1:=bel_
    clear h9;obtain⟨a_0,a_1,a_2,a_3,a_4⟩:=wN.c5;go_wp2;go_ret
    exact⟨rfl,by exact bel_⟩
   ·have er:qL D.nn D.nl D.fn D.fl D.ss=res:=by rw[<-hx.out];unfold okD;rw[H8,aaQ o_];rfl
    have HR:=h_ er;have MN:¬(40:Int)<(D.ss.length:Int):=o_
    clear hx er
    first|(go_enter Tryz.func136,Tryz.ntmps136)|(go_enter Tryz.func25,Tryz.ntmps25)
    go_wp2_with fail
    first|(refine(zF _ _ D.fn D.fl true _ (nF.below bel_) (mr.below bel_) H8).mono ?_)|(refine(qa _ _ D.fn D.fl true _ (nF.below bel_) (mr.below bel_) H8).mono ?_)
    rintro e w1 ⟨rfl,h9⟩;have Ht:=h9.size;simp at Ht
    have wN:Blk w1 w.heap.size 30 #[.slice A0 D.fn.length c0,.slice A1 D.fl.length c1,v2,v3,.slice A D.ss.length c]:=Blk.below (Blk.newAt rfl) h9 sz_;have h8:Below w.heap.size w w1:=bel_
    clear h9 H8;obtain⟨a_0,a_1,a_2,a_3,a_4⟩:=wN.c5;have e0:w.heap.size<w1.heap.size:=o_
    go_wp2_with fail
    obtain⟨u1,nM⟩:∃u1,u1=w1.alloc (.cells #[.slice A0 D.fn.length c0,.slice A1 D.fl.length c1] 27):=⟨_,rfl⟩;rw[<-nM];have HS:Hid (XV w w.heap.size w1.heap.size (.slice A0 D.fn.length c0) (.slice A1 D.fl.length c1) v2 v3 (.slice A D.ss.length c) D res 0 u1):=h_ ⟨D.fn,D.fl,.slice A0 D.fn.length c0,.slice A1 D.fl.length c1,nM▸wN.alloc _,nM▸Blk.newAt rfl,nM▸nF.below (h8.alloc o_ _),nM▸mr.below (h8.alloc o_ _),R2,by omega,HR.out,nM▸h8.alloc o_ _⟩;have hY:w.heap.size<w1.heap.size:=e0;generalize w1.heap.size=Y at*;clear nM h8 wN a_0 a_1 a_2 a_3 a_4 Ht e0 HR
    first|(go_loopw [4] (fun i wr=>∃k:Nat,k<=D.ss.length/\i= .int .i64 k/\Hid (XV w w.heap.size Y (.slice A0 D.fn.length c0) (.slice A1 D.fl.length c1) v2 v3 (.slice A D.ss.length c) D res k wr)) (fun i _=>D.ss.length -(intOf i).toNat);(case atStart=>exact⟨0,aab _,rfl,HS⟩))|(go_loopw [23] (fun i wr=>∃k:Nat,k<=D.ss.length/\i= .int .i64 k/\Hid (XV w w.heap.size Y (.slice A0 D.fn.length c0) (.slice A1 D.fl.length c1) v2 v3 (.slice A D.ss.length c) D res k wr)) (fun i _=>D.ss.length -(intOf i).toNat);(case atStart=>exact⟨0,aab _,rfl,HS⟩))
    case round=>
     obtain⟨k,hk,rfl,HT⟩:=hrel;clear HS;obtain⟨N,L,un,ul,f9,GN,GK,YP,hN,hL,F2,Hb⟩:=HT.out;have gx:=Hb.size;have hRD:=h_ (HD.out.below Hb);obtain⟨x_0,x_1,x_2,x_3,x_4⟩:=f9.c5;obtain⟨y_0,y_1⟩:=GN.c2
     by_cases Hf:k<D.ss.length
     ·obtain⟨b,off,rfl,hb,Hy⟩:=hcell o_
      obtain⟨k0,k1,k2,vn,vl,k3,k4,hn,hl⟩:=Hy k Hf;have q0:=(Hb.cell (p:=⟨b,off+k*5,none⟩) hb).trans k0;have q1:=(Hb.cell (p:=⟨b,off+k*5+1,none⟩) hb).trans k1;have q2:=(Hb.cell (p:=⟨b,off+k*5+2,none⟩) hb).trans k2;have q3:=(Hb.cell (p:=⟨b,off+k*5+3,none⟩) hb).trans k3;have q4:=(Hb.cell (p:=⟨b,off+k*5+4,none⟩) hb).trans k4;obtain⟨Av,cv,ev,_⟩:=hn.form;obtain⟨Au,cu,eu,_⟩:=hl.form;subst ev eu;have Bi:=h_ (hn.below Hb);have Gm:=h_ (hl.below Hb);rw[aas Hf] at F2;unfold qL at F2;obtain⟨sw,hsw⟩:∃sw,qO D.ss[k].ns D.ss[k].ls N L=sw:=⟨_,rfl⟩;have Rg:=h_ hsw;rw[hsw] at F2;have mO:=h_ F2;generalize D.ss[k]=s at*;clear k0 k1 k2 k3 k4 Hy hcell hn hl HT hsw F2;have NE:=h_ GK;have NF:=h_ YP;have HXB:=h_ f9;have HYB:=h_ GN
      have hylt:=GN.lt;clear GK YP f9 GN
      go_wp2_with fail
      obtain⟨w2,gR⟩:∃w2,w2=wr.alloc (.cells #[.int .i64 s.k,.int .i64 s.a,.int .i64 s.b,.slice Av s.ns.length cv,.slice Au s.ls.length cu] 113):=⟨_,rfl⟩;rw[<-gR];have Ha:Below w.heap.size w w2:=gR▸Hb.alloc gx _;have fo:Below wr.heap.size wr w2:=gR▸(aaj _ _).alloc (aaa _) _;have hZ:Blk w2 wr.heap.size 113 #[.int .i64 s.k,.int .i64 s.a,.int .i64 s.b,.slice Av s.ns.length cv,.slice Au s.ls.length cu]:=gR▸Blk.newAt rfl;have G9:=HXB.out.below fo HXB.out.lt;have rB:=HYB.out.below fo hylt;clear gR q0 q1 q2 q3 q4 x_0 x_1 x_2 x_3 x_4 y_0 y_1
      first|(refine(xd _ _ _ _ s.ns s.ls N L sw _ (Bi.out.below fo) (Gm.out.below fo) (NE.out.below fo) (NF.out.below fo) Rg).mono ?_)|(refine(xF _ _ _ _ s.ns s.ls N L sw _ (Bi.out.below fo) (Gm.out.below fo) (NE.out.below fo) (NF.out.below fo) Rg).mono ?_)
      rintro e w3 ⟨rfl,He⟩;have Hc:Below w.heap.size w w3:=Ha.trans (He.mono Ha.size);have Gr:=G9.below He G9.lt;have NG:=rB.below He rB.lt;have Fp:=hZ.below He hZ.lt;have Cn:Below wr.heap.size wr w3:=fo.trans (He.mono fo.size);have R3:=NE.out.below Cn;have R4:=NF.out.below Cn;clear He Ha G9 rB hZ fo Cn Bi Gm NE NF HXB HYB;generalize wr.heap.size=Z at*
      cases sw
      ·have er:res=false:=mO.out.symm
       subst er;go_wp2;go_ret
       exact⟨rfl,Hc⟩
      ·have MO:(yZ N L s.k s.a s.b&&qL D.nn D.nl (y8 N L s.k s.a s.b) (y7 N L s.k s.a s.b) (D.ss.drop (k+1)))=res:=mO.out
       obtain⟨N',YQ⟩:∃N',y8 N L s.k s.a s.b=N':=⟨_,rfl⟩;obtain⟨L',YR⟩:∃L',y7 N L s.k s.a s.b=L':=⟨_,rfl⟩;obtain⟨bb,gj⟩:∃bb,yZ N L s.k s.a s.b=bb:=⟨_,rfl⟩;obtain⟨l1,l2⟩:=z2K N L s.k s.a s.b;rw[YQ,YR,gj] at MO;rw[YQ] at l1;rw[YR] at l2;have H1:=h_ YQ;have H2:=h_ YR;have H3:=h_ gj;have NH:=h_ MO;clear YQ YR gj MO mO Rg;obtain⟨z_0,z_1,z_2,z_3,z_4⟩:=Fp.c5;obtain⟨y_0,y_1⟩:=NG.c2
       go_wp2_with fail
       first|(refine(z2I _ _ N L N' L' s.k s.a s.b bb _ R3 R4 o_ o_ H1 H2 H3).mono ?_)|(refine(z19 _ _ N L N' L' s.k s.a s.b bb _ R3 R4 o_ o_ H1 H2 H3).mono ?_)
       rintro e w4 ⟨An,cn,Al,cl,rfl,gH,Hw⟩;have Hn:Below w.heap.size w w4:=Hc.trans (Hw.mono Hc.size);have HX4:=h_ (Gr.below Hw Gr.lt);have R5:=NG.below Hw NG.lt;have wO:=NG.lt;have fG:=h_ (((gH.setLow (p:=⟨Y,0,none⟩) wO (.slice An N'.length cn)).setLow (p:=⟨Y,1,none⟩) wO (.slice Al L'.length cl)).alloc' (.cells #[.slice An N'.length cn,.slice Al L'.length cl] 27));clear Hw Gr NG Fp gH Hc z_0 z_1 z_2 z_3 z_4 y_0 y_1 R3 R4 H1 H2 H3;have e4:Y<w4.heap.size:=R5.lt
       cases bb
       ·have er:res=false:=NH.out.symm
        subst er;go_wp2;go_ret
        exact⟨rfl,by exact bel_⟩
       ·have YS:Hid (qL D.nn D.nl N' L' (D.ss.drop (k+1))=res):=h_ NH.out
        have R6:Hid (XV w w.heap.size Y (.slice A0 D.fn.length c0) (.slice A1 D.fl.length c1) v2 v3 (.slice (some ⟨b,off,none⟩) D.ss.length c) D res (k+1) (((w4.setCell ⟨Y,0,none⟩ (.slice An N'.length cn)).setCell ⟨Y,1,none⟩ (.slice Al L'.length cl)).alloc (.cells #[.slice An N'.length cn,.slice Al L'.length cl] 27))):=by
         have hY5:=((R5.set_ 0 (.slice An N'.length cn)).set_ 1 (.slice Al L'.length cl)).alloc (.cells #[.slice An N'.length cn,.slice Al L'.length cl] 27);have CN:=((HX4.out.far (p:=⟨Y,0,none⟩) (by show _≠Y;omega) (.slice An N'.length cn)).far (p:=⟨Y,1,none⟩) (by show _≠Y;omega) (.slice Al L'.length cl)).alloc (.cells #[.slice An N'.length cn,.slice Al L'.length cl] 27);exact h_ ⟨N',L',_,_,CN,hY5,fG.out.1.reads,fG.out.2.1.reads,by omega,by omega,YS.out,by exact bel_⟩
        obtain⟨y_0,y_1,y_f0,y_f1⟩:=R5.b2;go_wp2;go_roundw
        case rel=>exact⟨k+1,by omega,by go_num,R6⟩
        case measure=>simp[intOf];omega
     ·have gi:k=D.ss.length:=o_
      subst gi;rw[List.drop_length] at F2;unfold qL at F2;have mO:=h_ F2;have Bw:=hRD.out.nn;have fb:=hRD.out.nl;clear F2 HT hcell
      go_wp2_with fail
      first|(refine(xd _ _ _ _ D.nn D.nl N L res _ Bw fb GK YP mO).mono ?_)|(refine(xF _ _ _ _ D.nn D.nl N L res _ Bw fb GK YP mO).mono ?_)
      rintro e w3 ⟨rfl,He⟩;have Hc:Below w.heap.size w w3:=Hb.trans (He.mono gx);clear He;go_wp2;go_ret
      exact⟨rfl,Hc⟩
theorem z3Y (v0 v1 v2 v3 v4:Value) (D:Dr) (res:Bool) (w:World) (h:RD w v0 v1 v2 v3 v4 D) (hx:Hid (okD D=res)):
  CB_ 136 #[.agg #[v0,v1,v2,v3,v4]] w (.bool res):=zba _ (.inl rfl) v0 v1 v2 v3 v4 D res w h hx
theorem z0f (v0 v1 v2 v3 v4:Value) (D:Dr) (res:Bool) (w:World) (h:RD w v0 v1 v2 v3 v4 D) (hx:Hid (okD D=res)):
  CB_ 25 #[.agg #[v0,v1,v2,v3,v4]] w (.bool res):=zba _ (.inr rfl) v0 v1 v2 v3 v4 D res w h hx
theorem z0a (f:SF) (A0 A1:Option Addr) (n0 c0 n1 c1:Nat) (h0:f.2.1= .slice A0 n0 c0) (h1:f.2.2= .slice A1 n1 c1):∀u∈sfc f,u.oneCell'=true:=by
 intro u hu;simp only[sfc,List.mem_cons,List.mem_nil_iff,or_false,h0,h1] at hu
 rcases hu with rfl|rfl|rfl|rfl|rfl<;>rfl
theorem kT {P:Program} {w:World} {t ty e:TypeId} {i:TypeInfo} {base:Nat} (ht:P.underlying t=some (.slice e)) (hi:P.info? e=some i) (hz:i.zero=some (.agg #[.int .i64 0,.int .i64 0,.int .i64 0,.slice none 0 0,.slice none 0 0])) (Hs:i.size=5) (GN:i.bytes=72)
  {v:Value} {fs:List SF} {f:SF} {a:Addr} {c:Nat} (hown:w.ownsRow base e 5 v fs.length (fs.flatMap sfc)) (hn:∀(j:Nat) (u:Value),(sfc f)[j]? =some u->w.cell? (a.add j)=some u) (Fq:∀u∈sfc f,u.oneCell'=true)
  (Hj:fs.length<=1048576) (Hu:base<=w.heap.size):
  ∃A c' w',(Builtin.append_ #[t,t] ty #[v,.slice (some a) 1 c]).run P w= .ok (.slice A (fs.length+1) c') w'/\w'.ownsRow base e 5 (.slice A (fs.length+1) c') (fs.length+1) ((fs++[f]).flatMap sfc)/\w.grownBy w' v.ownBlock/\
   ((Value.slice A (fs.length+1) c').ownBlock =v.ownBlock∨(Value.slice A (fs.length+1) c').ownBlock =some w.heap.size):=by
 obtain⟨v',w',h1,h2,h3,_,h5⟩:=run_append_own_at (P:=P) w base t ty e i _ 5 72 ht hi hz Hs GN rfl (by decide) v fs.length (fs.flatMap sfc) hown a 1 c (sfc f) (by simp[sfc]) hn Fq (by unfold maxLen;omega) o_ Hu
 have rm:w'.ownsRow base e 5 v' (fs.length+1) ((fs++[f]).flatMap sfc):=by
  rw[aaX]
  simpa using h2
 rcases h2.2 with ⟨_,hz0⟩|⟨g,cap,cur,rfl,_⟩
 ·omega
 ·exact⟨_,cap,w',h1,rm,h3,h5⟩
theorem vq {P:Program} {w:World} {ops:Array Oper} {rest:List Oper} {o:Oper} {a:Act} {Q:Exit->Act->World->Prop} (fY:o.guard=none) (s x:Operand) (t:TypeId)
  (ho:o.op= .call { callee:= .builtin .append,args:= #[s,x],argTypes:= #[t,t] })
  (base:Nat) (e:TypeId) (i:TypeInfo) (ht:P.underlying t=some (.slice e)) (hi:P.info? e=some i) (hz:i.zero=some (.agg #[.int .i64 0,.int .i64 0,.int .i64 0,.slice none 0 0,.slice none 0 0])) (Hs:i.size=5) (GN:i.bytes=72)
  (v:Value) (fs:List SF) (f:SF) (ad:Addr) (c:Nat) (hs:a.eval s=v) (hx:a.eval x= .slice (some ad) 1 c) (hown:w.ownsRow base e 5 v fs.length (fs.flatMap sfc)) (hn:∀(j:Nat) (u:Value),(sfc f)[j]? =some u->w.cell? (ad.add j)=some u)
  (Fq:∀u∈sfc f,u.oneCell'=true) (Hj:fs.length<=1048576) (Hu:base<=w.heap.size)
  (h:∀A c' w',w'.ownsRow base e 5 (.slice A (fs.length+1) c') (fs.length+1) ((fs++[f]).flatMap sfc)->w.grownBy w' v.ownBlock->((Value.slice A (fs.length+1) c').ownBlock =v.ownBlock∨(Value.slice A (fs.length+1) c').ownBlock =some w.heap.size)->wpList P ops Q rest (a.put o.dst (.slice A (fs.length+1) c')) w'):
  wpList P ops Q (o::rest) a w:=
 wpList_plain fY fun K hK=>by
  obtain⟨A,c',w',GC,h2,h3,h4⟩:=kT (ty:=o.type) (c:=c) ht hi hz Hs GN hown hn Fq Hj Hu;unfold Oper.wp execOp;simp only[ho,resolve,invoke,builtin,Sem.run_bind,Sem.run_pure,aaY,List.map_toArray,aaS,aaT,hs,hx,GC]
  exact hK _ _ (h A c' w' h2 h3 h4)
theorem OwnT.snoc {base:Nat} {w w':World} {v v':Value} {fs:List SF} {f:SF} (h:OwnT base w v fs) (hr:w'.ownsRow base 113 5 v' (fs.length+1) ((fs++[f]).flatMap sfc)) (hg:w.grownBy w' v.ownBlock)
  (hv:v'.ownBlock=v.ownBlock∨v'.ownBlock=some w.heap.size) (hf:OwnW base w f.2.1 f.2.2 f.1.ns f.1.ls) (Ct:∀b,zi f.2.1 f.2.2 b->v.ownBlock≠some b) (hfw:∀j (hj:j<fs.length) b,zi f.2.1 f.2.2 b->¬zi fs[j].2.1 fs[j].2.2 b):
  OwnT base w' v' (fs++[f]):=by
 have ht:Turns (fun b=>v.ownBlock=some b) w w':=Turns.ofGrown hg (fun k hk=>hk)
 have fj:∀k (hk:k<(fs++[f]).length),k<fs.length∨(k=fs.length/\(fs++[f])[k]=f):=by
  intro k hk
  by_cases Hf:k<fs.length
  ·exact .inl Hf
  ·have:k=fs.length:=by simp at hk;omega
   subst this;exact .inr ⟨rfl,by simp⟩
 refine⟨by simpa using hr,fun k hk=>?_,fun k hk b hb=>?_,fun i j hi hj gd b=>?_⟩
 ·rcases fj k hk with Hf|⟨rfl,e⟩
  ·rw[aad Hf]
   exact(h.win k Hf).turned ht (fun b hb e=>h.rw_ k Hf b e hb)
  ·rw[e]
   exact hf.turned ht (fun b hb=>Ct b hb)
 ·rcases fj k hk with Hf|⟨rfl,e⟩
  ·rw[aad Hf]
   rcases hv with hv|hv
   ·exact h.rw_ k Hf b (hv▸hb)
   ·intro gS
    have:=((h.win k Hf).lt b gS).2;rw[hv] at hb
    cases hb
    omega
  ·rw[e]
   rcases hv with hv|hv
   ·exact fun gS=>Ct b gS (hv▸hb)
   ·intro gS
    have:=(hf.lt b gS).2;rw[hv] at hb
    cases hb
    omega
 ·rcases fj i hi with h1|⟨rfl,e1⟩<;>rcases fj j hj with h2|⟨rfl,e2⟩
  ·rw[aad h1,aad h2]
   exact h.ww i j h1 h2 gd b
  ·rw[aad h1,e2]
   exact fun a c=>hfw i h1 b c a
  ·rw[aad h2,e1]
   exact hfw j h2 b
  ·omega
theorem OwnD.mono {base base':Nat} {w:World} {a b c d e:Value} {D:Dr} {fs:List SF} (h:OwnD base w a b c d e D fs) (hb:base'<=base):OwnD base' w a b c d e D fs:=
 ⟨h.first.mono hb,h.now.mono hb,h.ss.mono hb,h.map,h.f_n,h.f_s,h.n_s⟩
theorem OwnD.setFar {base:Nat} {w:World} {a b c d e:Value} {D:Dr} {fs:List SF} (h:OwnD base w a b c d e D fs) {p:Addr} (hp:¬qJ a b c d e fs p.block) (u:Value):OwnD base (w.setCell p u) a b c d e D fs:=
 h.turned (S:=fun k=>k=p.block) (Turns.ofGrown (qS w p u) (fun k hk=>by cases hk;rfl)) (fun k hk e=>hp (e▸hk))
theorem Vk {w:World} {f:SF} {cs:Array Value} {t:TypeId} {g:Nat} (hg:g=w.heap.size) (fU:cs.toList=sfc f):∀(j:Nat) (u:Value),(sfc f)[j]? =some u->(w.alloc (.cells cs t)).cell? ((⟨g,0,none⟩:Addr).add j)=some u:=by
 subst hg;intro j u hu;rw[<-fU] at hu;have mh:cs[j]? =some u:=by simpa using hu
 rw[ki,aaF,cell_of_row _ _ _ cs t (0,0) (heap_alloc_new w _)];exact mh
theorem ye {e e':Value} {fs:List SF} {f:SF} {n k:Nat} (hv:e'.ownBlock=e.ownBlock∨e'.ownBlock=some n) (h:kR e' (fs++[f]) k):kR e fs k∨k=n∨zi f.2.1 f.2.2 k:=by
 rcases h with h|⟨i,hi,h⟩
 ·rcases hv with hv|hv
  ·exact .inl (.inl (hv▸h))
  ·rw[hv] at h;cases h;exact .inr (.inl rfl)
 ·by_cases Hf:i<fs.length
  ·rw[aad Hf] at h
   exact .inl (.inr ⟨i,Hf,h⟩)
  ·have:i=fs.length:=by simp at hi;omega
   subst this;simp at h
   exact .inr (.inr h)
theorem OwnD.snoc {base:Nat} {w w':World} {a b c d e e':Value} {D:Dr} {fs:List SF} {f:SF} (h:OwnD base w a b c d e D fs) (hr:w'.ownsRow base 113 5 e' (fs.length+1) ((fs++[f]).flatMap sfc)) (hg:w.grownBy w' e.ownBlock)
  (hv:e'.ownBlock=e.ownBlock∨e'.ownBlock=some w.heap.size) (hf:OwnW base w f.2.1 f.2.2 f.1.ns f.1.ls) (Ct:∀k,zi f.2.1 f.2.2 k->¬qJ a b c d e fs k):OwnD base w' a b c d e' ⟨D.fn,D.fl,D.nn,D.nl,D.ss++[f.1]⟩ (fs++[f]):=by
 have ht:Turns (fun b=>e.ownBlock=some b) w w':=Turns.ofGrown hg (fun k hk=>hk)
 refine⟨h.first.turned ht (fun k hk e1=>h.f_s k hk (.inl e1)),h.now.turned ht (fun k hk e1=>h.n_s k hk (.inl e1)),
  h.ss.snoc hr hg hv hf (fun k hk e1=>Ct k hk (.inr (.inr (.inl e1)))) (fun j hj k hk Fu=>Ct k hk (.inr (.inr (.inr ⟨j,hj,Fu⟩)))),by rw[aaz,h.map];rfl,h.f_n,fun k hk Fu=>?_,fun k hk Fu=>?_⟩
 ·rcases ye hv Fu with h1|h1|h1
  ·exact h.f_s k hk h1
  ·have:=(h.first.lt k hk).2;omega
  ·exact Ct k h1 (.inl hk)
 ·rcases ye hv Fu with h1|h1|h1
  ·exact h.n_s k hk h1
  ·have:=(h.now.lt k hk).2;omega
  ·exact Ct k h1 (.inr (.inl hk))
theorem JA {a b c d e e':Value} {fs:List SF} {f:SF} {n k:Nat} (hv:e'.ownBlock=e.ownBlock∨e'.ownBlock=some n) (h:qJ a b c d e' (fs++[f]) k):qJ a b c d e fs k∨k=n∨zi f.2.1 f.2.2 k:=by
 rcases h with h|h|h
 ·exact .inl (.inl h)
 ·exact .inl (.inr (.inl h))
 ·rcases ye hv h with h|h|h
  ·exact .inl (.inr (.inr h))
  ·exact .inr (.inl h)
  ·exact .inr (.inr h)
def CpSt (w:World) (D:Dr) (v0 v1 v2 v3 v4:Value) (Z k:Nat) (wr:World):Prop:=
 ∃A0 c0 A1 c1 A2 c2 A3 c3 A4 c4 fs,OwnD (w.heap.size+1+1) wr (.slice A0 D.fn.length c0) (.slice A1 D.fl.length c1) (.slice A2 D.nn.length c2) (.slice A3 D.nl.length c3) (.slice A4 k c4) ⟨D.fn,D.fl,D.nn,D.nl,D.ss.take k⟩ fs/\
  Blk wr w.heap.size 30 #[v0,v1,v2,v3,v4]/\Blk wr (w.heap.size+1) 30 z5_/\
  Blk wr Z 30 #[.slice A0 D.fn.length c0,.slice A1 D.fl.length c1,.slice A2 D.nn.length c2,.slice A3 D.nl.length c3,.slice A4 k c4]/\
  w.heap.size+1<Z/\¬qJ (.slice A0 D.fn.length c0) (.slice A1 D.fl.length c1) (.slice A2 D.nn.length c2) (.slice A3 D.nl.length c3) (.slice A4 k c4) fs Z/\Below w.heap.size w wr
theorem OwnW.setOff {base:Nat} {w:World} {a b:Value} {ns ls:List Pr} (h:OwnW base w a b ns ls) {p:Addr} (hp:¬zi a b p.block) (u:Value):OwnW base (w.setCell p u) a b ns ls:=
 h.turned (S:=fun k=>k=p.block) (Turns.ofGrown (qS w p u) (fun k hk=>by cases hk;rfl)) (fun k hk e=>hp (e▸hk))
theorem Ve {w wE:World} {v0 v1 v2 v3 v4:Value} {D:Dr} {A0 A1 A2 A3:Option Addr} {c0 c1 c2 c3 B1 B2 Z:Nat} (hX:Blk wE w.heap.size 30 #[v0,v1,v2,v3,v4]) (hR:Blk wE (w.heap.size+1) 30 z5_)
  (hZ:Blk wE Z 30 #[.slice A0 D.fn.length c0,.slice A1 D.fl.length c1,.slice A2 D.nn.length c2,.slice A3 D.nl.length c3,.slice none 0 0])
  (h1:OwnW B1 wE (.slice A0 D.fn.length c0) (.slice A1 D.fl.length c1) D.fn D.fl) (h2:OwnW B2 wE (.slice A2 D.nn.length c2) (.slice A3 D.nl.length c3) D.nn D.nl)
  (Hf:∀k,zi (.slice A0 D.fn.length c0) (.slice A1 D.fl.length c1) k->k<B2) (e1:w.heap.size+1+1<=B1) (e2:w.heap.size+1+1<=B2)
  (z1:¬zi (.slice A0 D.fn.length c0) (.slice A1 D.fl.length c1) Z) (z2:¬zi (.slice A2 D.nn.length c2) (.slice A3 D.nl.length c3) Z) (Gu:w.heap.size+1<Z) (hb:Below w.heap.size w wE):
  CpSt w D v0 v1 v2 v3 v4 Z 0 wE:=by
 have hn:∀k,¬kR (.slice none 0 0) [] k:=by
  rintro k (h|⟨i,hi,_⟩)
  ·simp[Value.ownBlock] at h
  ·simp at hi
 refine⟨A0,c0,A1,c1,A2,c2,A3,c3,none,0,[],⟨h1.mono e1,h2.mono e2,OwnT.nil _ _,by simp,fun k a b=>?_,fun k _ b=>hn k b,fun k _ b=>hn k b⟩,hX,hR,hZ,Gu,?_,hb⟩
 ·have:=Hf k a
  have:=(h2.lt k b).1;omega
 ·rintro(h|h|h)
  ·exact z1 h
  ·exact z2 h
  ·exact hn _ h
theorem Xs (F:Nat) (hF:F=135∨F=80) (v0 v1 v2 v3 v4:Value) (D:Dr) (w:World) (h:RD w v0 v1 v2 v3 v4 D) (hle:DrLe D):
  Calls Tryz.prog F #[.agg #[v0,v1,v2,v3,v4]] w (RetD D w):=by
 have gf:=h_ hle;have Uv:=h.fn;have fc:=h.fl;have Bw:=h.nn;have fb:=h.nl;obtain⟨A,c,e4,hc,hm,hcell⟩:=h.ss;subst e4;unfold maxLen at hm;clear hle h;obtain⟨i0,hi,iz0,iz1,iz2⟩:=info_parts JK;have cB:w.heap.size<w.heap.size+1+1:=o_
 have go:w.heap.size<w.heap.size+1+1+1:=o_
 have Gs:¬w.heap.size+1+1=w.heap.size:=o_
 have UD:Hid (∀(G:Nat),G=110∨G=81->∀(vn vl:Value) (ns ls:List Pr) (w:World),RP w vn ns->RP w vl ls->ns.length<=1048576->ls.length<=1048576->Calls Tryz.prog G #[.agg #[vn,vl]] w (RetW ns ls w)):=h_ (by
  rintro G (rfl|rfl)
  ·exact zU
  ·exact qn)
 rcases hF with rfl|rfl
 go_enter Tryz.func135,Tryz.ntmps135
 rotate_left
 go_enter Tryz.func80,Tryz.ntmps80
 rotate_left
 all_goals
  go_wp2_with fail
  go_cut [3] (fun z wx=>∃Z,z= .pointer (some ⟨Z,0,none⟩)/\CpSt w D v0 v1 v2 v3 (.slice A D.ss.length c) Z 0 wx)
  case first=>
   go_region_held3 (fun w'=>w'.cell? ⟨w.heap.size,0,none⟩=some v0/\w'.cell? ⟨w.heap.size,1,none⟩=some v1/\w'.cell? ⟨w.heap.size,2,none⟩=some v2/\w'.cell? ⟨w.heap.size,3,none⟩=some v3)
    (go_keep)
    (first|(go_at_call 110;refine Calls.mono (zU _ _ D.fn D.fl _ ?a1 ?a2 gf.out.fn gf.out.fl) ?_;(case a1=>exact Uv.below bel_);(case a2=>exact fc.below bel_);rintro e w1 ⟨An1,cn1,Al1,cl1,rfl,Hi,h9⟩;(have gc:=bdC h9);(have Bk:=bdF h9);have Ht:=h9.size;(try simp at Ht);(try have gF:=p0_ w w1);(try have Ge:=p1_ w w1);(try have fi:=p2_ w w1);(have nE:w.heap.size<w1.heap.size+1:=by omega);(have rj:¬w1.heap.size=w.heap.size:=by omega))|(go_at_call 110;refine Calls.mono (zU _ _ D.nn D.nl _ ?a3 ?a4 gf.out.nn gf.out.nl) ?_;(case a3=>exact Bw.below bel_);(case a4=>exact fb.below bel_);rintro e w2 ⟨An2,cn2,Al2,cl2,rfl,Hk,Hd⟩;(have gE:=bcC Hd);(have BD:=bcF Hd);have Gh:=Hd.size;(try simp at Gh);(try have gI:=p0_ w w2);(try have gJ:=p1_ w w2))|(go_at_call 81;refine Calls.mono (qn _ _ D.fn D.fl _ ?a1 ?a2 gf.out.fn gf.out.fl) ?_;(case a1=>exact Uv.below bel_);(case a2=>exact fc.below bel_);rintro e w1 ⟨An1,cn1,Al1,cl1,rfl,Hi,h9⟩;(have gc:=bdC h9);(have Bk:=bdF h9);have Ht:=h9.size;(try simp at Ht);(try have gF:=p0_ w w1);(try have Ge:=p1_ w w1);(try have fi:=p2_ w w1);(have nE:w.heap.size<w1.heap.size+1:=by omega);(have rj:¬w1.heap.size=w.heap.size:=by omega))|(go_at_call 81;refine Calls.mono (qn _ _ D.nn D.nl _ ?a3 ?a4 gf.out.nn gf.out.nl) ?_;(case a3=>exact Bw.below bel_);(case a4=>exact fb.below bel_);rintro e w2 ⟨An2,cn2,Al2,cl2,rfl,Hk,Hd⟩;(have gE:=bcC Hd);(have BD:=bcF Hd);have Gh:=Hd.size;(try simp at Gh);(try have gI:=p0_ w w2);(try have gJ:=p1_ w w2)))
   all_goals go_wp2
   all_goals go_meet
   ·have fI:Below (w.heap.size+1+1) ((w.alloc (.cells #[v0,v1,v2,v3,.slice A D.ss.length c] 30)).alloc (.cells z5_ 30)) w2:=bel_
    have G9:=Blk.below ((Blk.newAt rfl).alloc _) fI (show w.heap.size<_ by omega);have gg:=Blk.below (Blk.newAt (by simp)) fI (show w.heap.size+1<_ by omega);have ft:∀k,zi (.slice An1 D.fn.length cn1) (.slice Al1 D.fl.length cl1) k->w.heap.size+1+1<=k/\k<w1.heap.size:=fun k hk=>by have:=Hi.lt k hk;simp at this;omega
    have FD:=Hk.lt;exact⟨_,rfl,Ve (G9.alloc _) (gg.alloc _) (Blk.newAt rfl) ((Hi.kept Hd).alloc' _) (Hk.alloc' _) (fun k hk=>(ft k hk).2) (by simp) o_ (fun hk=>by have:=(ft _ hk).2;omega) (fun hk=>by have:=(FD _ hk).2;omega) o_ bel_⟩
   ·have fI:Below (w.heap.size+1+1) ((w.alloc (.cells #[v0,v1,v2,v3,.slice A D.ss.length c] 30)).alloc (.cells z5_ 30)) w2:=bel_
    have G9:=Blk.below ((Blk.newAt rfl).alloc _) fI (show w.heap.size<_ by omega);have gg:=Blk.below (Blk.newAt (by simp)) fI (show w.heap.size+1<_ by omega);have Co:=Blk.below (Blk.newAt rfl) Hd (show w1.heap.size<_ by simp);have ft:∀k,zi (.slice An1 D.fn.length cn1) (.slice Al1 D.fl.length cl1) k->w.heap.size+1+1<=k/\k<w1.heap.size:=fun k hk=>by have:=Hi.lt k hk;simp at this;omega
    have FD:∀k,zi (.slice An2 D.nn.length cn2) (.slice Al2 D.nl.length cl2) k->w1.heap.size+1<=k/\k<w2.heap.size:=fun k hk=>by have:=Hk.lt k hk;simp at this;omega
    have z1:¬zi (.slice An1 D.fn.length cn1) (.slice Al1 D.fl.length cl1) w1.heap.size:=fun hk=>by have:=(ft _ hk).2;omega
    have z2:¬zi (.slice An2 D.nn.length cn2) (.slice Al2 D.nl.length cl2) w1.heap.size:=fun hk=>by have:=(FD _ hk).1;omega
    have n0:w.heap.size≠w1.heap.size:=o_
    have n1:w.heap.size+1≠w1.heap.size:=o_
    have H7:=(Hi.alloc' _).kept Hd
    exact⟨_,rfl,Ve (((((G9.far (p:=⟨w1.heap.size,0,none⟩) n0 _).far (p:=⟨w1.heap.size,1,none⟩) n0 _).far (p:=⟨w1.heap.size,2,none⟩) n0 _).far (p:=⟨w1.heap.size,3,none⟩) n0 _).far (p:=⟨w1.heap.size,4,none⟩) n0 _)
     (((((gg.far (p:=⟨w1.heap.size,0,none⟩) n1 _).far (p:=⟨w1.heap.size,1,none⟩) n1 _).far (p:=⟨w1.heap.size,2,none⟩) n1 _).far (p:=⟨w1.heap.size,3,none⟩) n1 _).far (p:=⟨w1.heap.size,4,none⟩) n1 _)
     (((((Co.set_ 0 _).set_ 1 _).set_ 2 _).set_ 3 _).set_ 4 _)
     (((((H7.setOff (p:=⟨w1.heap.size,0,none⟩) z1 _).setOff (p:=⟨w1.heap.size,1,none⟩) z1 _).setOff (p:=⟨w1.heap.size,2,none⟩) z1 _).setOff (p:=⟨w1.heap.size,3,none⟩) z1 _).setOff (p:=⟨w1.heap.size,4,none⟩) z1 _)
     (((((Hk.setOff (p:=⟨w1.heap.size,0,none⟩) z2 _).setOff (p:=⟨w1.heap.size,1,none⟩) z2 _).setOff (p:=⟨w1.heap.size,2,none⟩) z2 _).setOff (p:=⟨w1.heap.size,3,none⟩) z2 _).setOff (p:=⟨w1.heap.size,4,none⟩) z2 _)
     (fun k hk=>by have:=(ft k hk).2;simp;omega) (by simp) (by simp;omega) z1 z2 o_ bel_⟩
   ·have fI:Below (w.heap.size+1+1+1) (((w.alloc (.cells #[v0,v1,v2,v3,.slice A D.ss.length c] 30)).alloc (.cells z5_ 30)).alloc (.cells z5_ 30)) w2:=bel_
    have G9:=Blk.below (((Blk.newAt rfl).alloc _).alloc _) fI (show w.heap.size<_ by omega);have gg:=Blk.below ((Blk.newAt (by simp)).alloc _) fI (show w.heap.size+1<_ by omega);have Co:=Blk.below (Blk.newAt (by simp)) fI (show w.heap.size+1+1<_ by omega);have ft:∀k,zi (.slice An1 D.fn.length cn1) (.slice Al1 D.fl.length cl1) k->w.heap.size+1+1+1<=k/\k<w1.heap.size:=fun k hk=>by have:=Hi.lt k hk;simp at this;omega
    have FD:=Hk.lt;have z1:¬zi (.slice An1 D.fn.length cn1) (.slice Al1 D.fl.length cl1) (w.heap.size+1+1):=fun hk=>by have:=(ft _ hk).1;omega
    have z2:¬zi (.slice An2 D.nn.length cn2) (.slice Al2 D.nl.length cl2) (w.heap.size+1+1):=fun hk=>by have:=(FD _ hk).1;omega
    have n0:w.heap.size≠w.heap.size+1+1:=o_
    have n1:w.heap.size+1≠w.heap.size+1+1:=o_
    have H7:=Hi.kept Hd
    exact⟨_,rfl,Ve (((((G9.far (p:=⟨w.heap.size+1+1,0,none⟩) n0 _).far (p:=⟨w.heap.size+1+1,1,none⟩) n0 _).far (p:=⟨w.heap.size+1+1,2,none⟩) n0 _).far (p:=⟨w.heap.size+1+1,3,none⟩) n0 _).far (p:=⟨w.heap.size+1+1,4,none⟩) n0 _)
     (((((gg.far (p:=⟨w.heap.size+1+1,0,none⟩) n1 _).far (p:=⟨w.heap.size+1+1,1,none⟩) n1 _).far (p:=⟨w.heap.size+1+1,2,none⟩) n1 _).far (p:=⟨w.heap.size+1+1,3,none⟩) n1 _).far (p:=⟨w.heap.size+1+1,4,none⟩) n1 _)
     (((((Co.set_ 0 _).set_ 1 _).set_ 2 _).set_ 3 _).set_ 4 _)
     (((((H7.setOff (p:=⟨w.heap.size+1+1,0,none⟩) z1 _).setOff (p:=⟨w.heap.size+1+1,1,none⟩) z1 _).setOff (p:=⟨w.heap.size+1+1,2,none⟩) z1 _).setOff (p:=⟨w.heap.size+1+1,3,none⟩) z1 _).setOff (p:=⟨w.heap.size+1+1,4,none⟩) z1 _)
     (((((Hk.setOff (p:=⟨w.heap.size+1+1,0,none⟩) z2 _).setOff (p:=⟨w.heap.size+1+1,1,none⟩) z2 _).setOff (p:=⟨w.heap.size+1+1,2,none⟩) z2 _).setOff (p:=⟨w.heap.size+1+1,3,none⟩) z2 _).setOff (p:=⟨w.heap.size+1+1,4,none⟩) z2 _)
     (fun k hk=>(ft k hk).2) (by simp) o_ z1 z2 o_ bel_⟩
  case rest=>
   obtain⟨Z,rfl,Cx⟩:=hcut;have HS:=h_ Cx;clear Cx;obtain⟨A0,c0,A1,c1,A2,c2,A3,c3,A4,c4,fs0,CZ,Cc,Fv,hZ0,Gu,mz,bF⟩:=HS.out;obtain⟨x_0,x_1,x_2,x_3,x_4⟩:=Cc.c5;clear CZ Fv hZ0 mz
   go_wp2_with fail
   first|(go_loopw [4] (fun i wr=>∃k:Nat,k<=D.ss.length/\i= .int .i64 k/\Hid (CpSt w D v0 v1 v2 v3 (.slice A D.ss.length c) Z k wr)) (fun i _=>D.ss.length -(intOf i).toNat);(case atStart=>exact⟨0,aab _,rfl,HS⟩))|(go_loopw [16] (fun i wr=>∃k:Nat,k<=D.ss.length/\i= .int .i64 k/\Hid (CpSt w D v0 v1 v2 v3 (.slice A D.ss.length c) Z k wr)) (fun i _=>D.ss.length -(intOf i).toNat);(case atStart=>exact⟨0,aab _,rfl,HS⟩))
   case round=>
    obtain⟨k,hk,rfl,HT⟩:=hrel;clear HS Cc x_0 x_1 x_2 x_3 x_4 bF;clear A0 c0 A1 c1 A2 c2 A3 c3 A4 c4 fs0;obtain⟨A0,c0,A1,c1,A2,c2,A3,c3,A4,c4,fs,hO,hX,hR,hZ,Gu,mz,Hb⟩:=HT.out;clear HT
    have fc:fs.length=k:=by
     have:=congrArg List.length hO.map;simp at this
     omega
    subst fc;have gx:=Hb.size;have fJ:=hZ.lt;have hXlt:=hX.lt;obtain⟨x_0,x_1,x_2,x_3,x_4⟩:=hX.c5
    by_cases Hf:fs.length<D.ss.length
    ·obtain⟨b,off,rfl,hb,Hy⟩:=hcell o_
     obtain⟨k0,k1,k2,vn,vl,k3,k4,hn,hl⟩:=Hy fs.length Hf;obtain⟨F5,gR⟩:=gf.out.ws fs.length Hf;obtain⟨Av,cv,ev,_⟩:=hn.form;obtain⟨Au,cu,eu,_⟩:=hl.form;subst ev eu;have q0:=(Hb.cell (p:=⟨b,off+fs.length*5,none⟩) hb).trans k0;have q1:=(Hb.cell (p:=⟨b,off+fs.length*5+1,none⟩) hb).trans k1;have q2:=(Hb.cell (p:=⟨b,off+fs.length*5+2,none⟩) hb).trans k2;have q3:=(Hb.cell (p:=⟨b,off+fs.length*5+3,none⟩) hb).trans k3;have q4:=(Hb.cell (p:=⟨b,off+fs.length*5+4,none⟩) hb).trans k4;have Bi:=h_ (hn.below Hb);have Gm:=h_ (hl.below Hb);have YF:Hid (D.ss.take (fs.length+1)=D.ss.take fs.length++[D.ss[fs.length]]):=h_ (aax Hf);generalize D.ss[fs.length]=s at*;clear k0 k1 k2 k3 k4 Hy hcell hn hl;have HO:=h_ hO;have HX:=h_ hX;have HR:=h_ hR;have HZ:=h_ hZ;have R7:=h_ mz;clear hO hX hR hZ mz
     go_wp2_with fail
     obtain⟨w2,NI⟩:∃w2,w2=wr.alloc (.cells #[.int .i64 s.k,.int .i64 s.a,.int .i64 s.b,.slice Av s.ns.length cv,.slice Au s.ls.length cu] 113):=⟨_,rfl⟩;rw[<-NI];have fo:Below wr.heap.size wr w2:=NI▸(aaj _ _).alloc (aaa _) _;have fk:Blk w2 wr.heap.size 113 #[.int .i64 s.k,.int .i64 s.a,.int .i64 s.b,.slice Av s.ns.length cv,.slice Au s.ls.length cu]:=NI▸Blk.newAt rfl;clear NI q0 q1 q2 q3 q4 x_0 x_1 x_2 x_3 x_4;have wP:=fk.lt;refine(UD.out _ (by decide) _ _ s.ns s.ls _ (Bi.out.below fo) (Gm.out.below fo) F5 gR).mono ?_
     rintro e w3 ⟨An,cn,Al,cl,rfl,Hm,He⟩;have Cn:Below wr.heap.size wr w3:=fo.trans (He.mono fo.size);have FC:=fk.below He wP;have GH:=HO.out.kept Cn;have NJ:=HO.out.lt;have Gr:=HX.out.below Cn hXlt;have gZ:=HR.out.below Cn HR.out.lt;have Fp:=HZ.out.below Cn fJ;have Hc:=Hb.trans (Cn.mono gx);have Hu:w.heap.size+1+1<=wr.heap.size:=o_
     have wQ:=Hm.mono (show w.heap.size+1+1<=w2.heap.size from aai Hu fo.size);have go:∀b,zi (.slice An s.ns.length cn) (.slice Al s.ls.length cl) b->wr.heap.size<b:=fun b hb=>by have:=(Hm.lt b hb).1;omega
     have hS3l:=FC.lt;have hnG:¬qJ (.slice A0 D.fn.length c0) (.slice A1 D.fl.length c1) (.slice A2 D.nn.length c2) (.slice A3 D.nl.length c3) (.slice A4 fs.length c4) fs wr.heap.size:=fun hb=>by have:=(NJ _ hb).2;omega
     have hnW:¬zi (.slice An s.ns.length cn) (.slice Al s.ls.length cl) wr.heap.size:=fun hb=>by have:=go _ hb;omega
     have hnZ:¬zi (.slice An s.ns.length cn) (.slice Al s.ls.length cl) Z:=fun hb=>by have:=go _ hb;omega
     have hHN:Hid (∀b,zi (.slice An s.ns.length cn) (.slice Al s.ls.length cl) b->¬qJ (.slice A0 D.fn.length c0) (.slice A1 D.fl.length c1) (.slice A2 D.nn.length c2) (.slice A3 D.nl.length c3) (.slice A4 fs.length c4) fs b):=h_ (fun b hb gS=>by have:=go b hb;have:=(NJ b gS).2;omega);have NK:Hid (∀b,qJ (.slice A0 D.fn.length c0) (.slice A1 D.fl.length c1) (.slice A2 D.nn.length c2) (.slice A3 D.nl.length c3) (.slice A4 fs.length c4) fs b->w.heap.size+1+1<=b):=h_ (fun b hb=>(NJ b hb).1);have wR:=h_ hnZ;have hZG:Z≠wr.heap.size:=o_
     have hXG:w.heap.size≠wr.heap.size:=o_
     have hRG:w.heap.size+1≠wr.heap.size:=o_
     obtain⟨w4,Bm⟩:∃w4,w4=(w3.setCell ⟨wr.heap.size,3,none⟩ (.slice An s.ns.length cn)).setCell ⟨wr.heap.size,4,none⟩ (.slice Al s.ls.length cl):=⟨_,rfl⟩;have rC:OwnD (w.heap.size+1+1) w4 _ _ _ _ _ _ fs:=Bm▸(GH.setFar (p:=⟨wr.heap.size,3,none⟩) hnG _).setFar (p:=⟨wr.heap.size,4,none⟩) hnG _;have gH:OwnW (w.heap.size+1+1) w4 _ _ s.ns s.ls:=Bm▸(wQ.setOff (p:=⟨wr.heap.size,3,none⟩) hnW _).setOff (p:=⟨wr.heap.size,4,none⟩) hnW _;have Fh:Blk w4 w.heap.size _ _:=Bm▸(Gr.far (p:=⟨wr.heap.size,3,none⟩) hXG _).far (p:=⟨wr.heap.size,4,none⟩) hXG _;have fF:Blk w4 (w.heap.size+1) _ _:=Bm▸(gZ.far (p:=⟨wr.heap.size,3,none⟩) hRG _).far (p:=⟨wr.heap.size,4,none⟩) hRG _;have mP:Blk w4 Z _ _:=Bm▸(Fp.far (p:=⟨wr.heap.size,3,none⟩) hZG _).far (p:=⟨wr.heap.size,4,none⟩) hZG _;have Hn:Below w.heap.size w w4:=Bm▸(Hc.setCell (p:=⟨wr.heap.size,3,none⟩) (show w.heap.size<=wr.heap.size from gx) _).setCell (p:=⟨wr.heap.size,4,none⟩) (show w.heap.size<=wr.heap.size from gx) _;have R8:w4.heap.size=w3.heap.size:=by rw[Bm];simp
     have R9:=h_ (rC.alloc (.cells #[.int .i64 s.k,.int .i64 s.a,.int .i64 s.b,.slice An s.ns.length cn,.slice Al s.ls.length cl] 113));have wS:=h_ (gH.alloc' (.cells #[.int .i64 s.k,.int .i64 s.a,.int .i64 s.b,.slice An s.ns.length cn,.slice Al s.ls.length cl] 113));have wT:=h_ (Fh.alloc (.cells #[.int .i64 s.k,.int .i64 s.a,.int .i64 s.b,.slice An s.ns.length cn,.slice Al s.ls.length cl] 113));have wU:=h_ (fF.alloc (.cells #[.int .i64 s.k,.int .i64 s.a,.int .i64 s.b,.slice An s.ns.length cn,.slice Al s.ls.length cl] 113));have wV:=h_ (mP.alloc (.cells #[.int .i64 s.k,.int .i64 s.a,.int .i64 s.b,.slice An s.ns.length cn,.slice Al s.ls.length cl] 113));have hsE:(w4.alloc (.cells #[.int .i64 s.k,.int .i64 s.a,.int .i64 s.b,.slice An s.ns.length cn,.slice Al s.ls.length cl] 113)).heap.size =w3.heap.size+1:=by simp[R8]
     have bP:fs.length<=1048576:=by have:=gf.out.ss;omega
     have wW:Hid (∀(j:Nat) (u:Value),(sfc (s,.slice An s.ns.length cn,.slice Al s.ls.length cl))[j]? =some u->(w4.alloc (.cells #[.int .i64 s.k,.int .i64 s.a,.int .i64 s.b,.slice An s.ns.length cn,.slice Al s.ls.length cl] 113)).cell? ((⟨w3.heap.size,0,none⟩:Addr).add j)=some u):=h_ (Vk R8.symm rfl);have ua:=h_ (Hn.alloc Hn.size (.cells #[.int .i64 s.k,.int .i64 s.a,.int .i64 s.b,.slice An s.ns.length cn,.slice Al s.ls.length cl] 113));have MP:w.heap.size+1+1<=(w4.alloc (.cells #[.int .i64 s.k,.int .i64 s.a,.int .i64 s.b,.slice An s.ns.length cn,.slice Al s.ls.length cl] 113)).heap.size :=by simp;omega
     obtain⟨s_0,s_1,s_2,s_3,s_4,s_f0,s_f1,s_f2,s_f3,s_f4⟩:=FC.b5;obtain⟨z_0,z_1,z_2,z_3,z_4⟩:=Fp.c5;have hz3l:=Fp.lt;clear He fk Bi Gm HO HX HR HZ Hb Hm wQ GH Gr gZ Fp Cn fo Hc wP rC gH Fh fF mP NJ go hnG hnW hnZ;clear R8;subst Bm
     go_wp2_with (at_builtin;refine vq rfl _ _ _ rfl (w.heap.size+1+1) 113 i0 Tryz.underlying28 hi iz0 iz1 iz2 (.slice A4 fs.length c4) fs (s,.slice An s.ns.length cn,.slice Al s.ls.length cl) ⟨w3.heap.size,0,none⟩ 1 rfl rfl R9.out.ss.row wW.out (z0a _ _ _ _ _ _ _ rfl rfl) bP MP ?_)
     intro A5 c5 w5 hr5 FW ha5;have C9:=R9.out.snoc (f:=(s,.slice An s.ns.length cn,.slice Al s.ls.length cl)) (by rw[aaX];simpa using hr5) FW (by rw[hsE];exact ha5) wS.out hHN.out;have CN:=wT.out.grownR FW (fun k hk e=>by have:=NK.out k (.inr (.inr (.inl hk)));omega);have fL:=wU.out.grownR FW (fun k hk e=>by have:=NK.out k (.inr (.inr (.inl hk)));omega);have MQ:=wV.out.grownR FW (fun k hk e=>R7.out (e▸ .inr (.inr (.inl hk))));have H0:=ua.out.grown FW ua.out.size (fun k hk=>by have:=NK.out k (.inr (.inr (.inl hk)));omega)
     have ub:¬qJ (.slice A0 D.fn.length c0) (.slice A1 D.fl.length c1) (.slice A2 D.nn.length c2) (.slice A3 D.nl.length c3) (.slice A5 (fs.length+1) c5) (fs++[(s,.slice An s.ns.length cn,.slice Al s.ls.length cl)]) Z:=by
      intro hz
      rcases JA ha5 hz with h1|h1|h1
      ·exact R7.out h1
      ·omega
      ·exact wR.out h1
     have Cy:=C9.setFar (p:=⟨Z,4,none⟩) ub (.slice A5 (fs.length+1) c5)
     have C8:OwnD (w.heap.size+1+1) (w5.setCell ⟨Z,4,none⟩ (.slice A5 (fs.length+1) c5)) (.slice A0 D.fn.length c0) (.slice A1 D.fl.length c1) (.slice A2 D.nn.length c2) (.slice A3 D.nl.length c3) (.slice A5 (fs.length+1) c5) ⟨D.fn,D.fl,D.nn,D.nl,D.ss.take (fs.length+1)⟩ (fs++[(s,.slice An s.ns.length cn,.slice Al s.ls.length cl)]):=by
      rw[YF.out];exact Cy
     have R6:Hid (CpSt w D v0 v1 v2 v3 (.slice (some ⟨b,off,none⟩) D.ss.length c) Z (fs.length+1) (w5.setCell ⟨Z,4,none⟩ (.slice A5 (fs.length+1) c5))):=
      h_ ⟨A0,c0,A1,c1,A2,c2,A3,c3,A5,c5,_,C8,CN.far (p:=⟨Z,4,none⟩) (by show _≠Z;omega) _,fL.far (p:=⟨Z,4,none⟩) (by show _≠Z;omega) _,MQ.set_ 4 _,Gu,ub,H0.setCell (p:=⟨Z,4,none⟩) (by show w.heap.size<=Z;omega) _⟩
     obtain⟨y_0,y_1,y_2,y_3,y_4,y_f0,y_f1,y_f2,y_f3,y_f4⟩:=MQ.b5;clear C9 Cy C8 CN fL MQ H0 ub hr5 FW ha5 R9 wS wT wU wV wW ua hHN NK wR R7 YF s_0 s_1 s_2 s_3 s_4 s_f0 s_f1 s_f2 s_f3 s_f4 z_0 z_1 z_2 z_3 z_4;go_wp2;go_roundw
     case rel=>exact⟨fs.length+1,by omega,by go_num,R6⟩
     case measure=>simp[intOf];omega
    ·have gi:fs.length=D.ss.length:=o_
     have hO':OwnD (w.heap.size+1+1) wr (.slice A0 D.fn.length c0) (.slice A1 D.fl.length c1) (.slice A2 D.nn.length c2) (.slice A3 D.nl.length c3) (.slice A4 D.ss.length c4) D fs:=by
      have:=hO;rw[gi,aaA] at this;exact this
     rw[gi] at hZ;obtain⟨z_0,z_1,z_2,z_3,z_4⟩:=hZ.c5;obtain⟨r_0,r_1,r_2,r_3,r_4,r_f0,r_f1,r_f2,r_f3,r_f4⟩:=hR.b5;have Hr:=hR.lt;have bd:∀k,qJ (.slice A0 D.fn.length c0) (.slice A1 D.fl.length c1) (.slice A2 D.nn.length c2) (.slice A3 D.nl.length c3) (.slice A4 D.ss.length c4) fs k->w.heap.size+1<k:=fun k hk=>(hO'.lt k hk).1
     have step:∀(W:World) (j:Nat) (u:Value),OwnD w.heap.size W (.slice A0 D.fn.length c0) (.slice A1 D.fl.length c1) (.slice A2 D.nn.length c2) (.slice A3 D.nl.length c3) (.slice A4 D.ss.length c4) D fs->OwnD w.heap.size (W.setCell ⟨w.heap.size+1,j,none⟩ u) (.slice A0 D.fn.length c0) (.slice A1 D.fl.length c1) (.slice A2 D.nn.length c2) (.slice A3 D.nl.length c3) (.slice A4 D.ss.length c4) D fs:=
      fun W j u hW=>hW.setFar (p:=⟨w.heap.size+1,j,none⟩) (fun hk=>by have h2:w.heap.size+1<w.heap.size+1:=bd _ hk;omega) u
     have HH:∀u0 u1 u2 u3 u4,Hid (OwnD w.heap.size (((((wr.setCell ⟨w.heap.size+1,0,none⟩ u0).setCell ⟨w.heap.size+1,1,none⟩ u1).setCell ⟨w.heap.size+1,2,none⟩ u2).setCell ⟨w.heap.size+1,3,none⟩ u3).setCell ⟨w.heap.size+1,4,none⟩ u4) (.slice A0 D.fn.length c0) (.slice A1 D.fl.length c1) (.slice A2 D.nn.length c2) (.slice A3 D.nl.length c3) (.slice A4 D.ss.length c4) D fs):=fun u0 u1 u2 u3 u4=>
      h_ (step _ _ _ (step _ _ _ (step _ _ _ (step _ _ _ (step _ _ _ (hO'.mono o_))))))
     have HB:∀u0 u1 u2 u3 u4,Hid (Below w.heap.size w (((((wr.setCell ⟨w.heap.size+1,0,none⟩ u0).setCell ⟨w.heap.size+1,1,none⟩ u1).setCell ⟨w.heap.size+1,2,none⟩ u2).setCell ⟨w.heap.size+1,3,none⟩ u3).setCell ⟨w.heap.size+1,4,none⟩ u4)):=fun u0 u1 u2 u3 u4=>h_
      (((((Hb.setCell (p:=⟨w.heap.size+1,0,none⟩) sz_ u0).setCell (p:=⟨w.heap.size+1,1,none⟩) sz_ u1).setCell (p:=⟨w.heap.size+1,2,none⟩) sz_ u2).setCell (p:=⟨w.heap.size+1,3,none⟩) sz_ u3).setCell (p:=⟨w.heap.size+1,4,none⟩) sz_ u4)
     clear hO hO' bd step hcell Hb hX hZ hR mz;go_wp2;exact bodyPost_ret (v:= .agg #[.slice A0 D.fn.length c0,.slice A1 D.fl.length c1,.slice A2 D.nn.length c2,.slice A3 D.nl.length c3,.slice A4 D.ss.length c4]) (by simp[results,Tryz.results135,Tryz.results80,go_sem,r_0,r_1,r_2,r_3,r_4,Hr]) rfl ⟨_,_,_,_,_,_,_,_,_,_,fs,rfl,(HH _ _ _ _ _).out,(HB _ _ _ _ _).out⟩
theorem VE (v0 v1 v2 v3 v4:Value) (D:Dr) (w:World) (h:RD w v0 v1 v2 v3 v4 D) (hle:DrLe D):
  Calls Tryz.prog 135 #[.agg #[v0,v1,v2,v3,v4]] w (RetD D w):=Xs _ (.inl rfl) _ _ _ _ _ D w h hle
theorem Qh (v0 v1 v2 v3 v4:Value) (D:Dr) (w:World) (h:RD w v0 v1 v2 v3 v4 D) (hle:DrLe D):
  Calls Tryz.prog 80 #[.agg #[v0,v1,v2,v3,v4]] w (RetD D w):=Xs _ (.inr rfl) _ _ _ _ _ D w h hle
end Go.Proofs.YtnjcpljhmhdhkaaGreat
