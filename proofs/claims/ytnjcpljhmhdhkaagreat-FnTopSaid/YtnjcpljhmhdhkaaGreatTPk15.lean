/- part 15 -/
import Derived.Test.YtnjcpljhmhdhkaaGreatTPk11
import Derived.Test.YtnjcpljhmhdhkaaGreatTPk14
import Derived.Deep.RegionHeld3
set_option linter.unusedSimpArgs false
set_option linter.unusedVariables false
set_option maxRecDepth 100000
set_option maxHeartbeats 8000000
namespace Go.Proofs.YtnjcpljhmhdhkaaGreat
open Go.RowKit
noncomputable def ko (ns ls:List Pr) (k a b:Int):Bool:=if k=1 then addB ns ls a b else if k=2 then hasL ns ls a else if k=3 then j5 ns ls a else false
noncomputable def yz (ns ls:List Pr) (k a b:Int):List Pr:=if k=3 then qr ns ls a else ns
noncomputable def yD (ns ls:List Pr) (k a b:Int):List Pr:=if k=1 then addL ns ls a b else if k=2 then jQ ns ls a else if k=3 then qs ns ls a else ls
theorem z8L (vn vl:Value) (ns ls:List Pr) (a b:Int) (w:World) (hn:RP w vn ns) (hl:RP w vl ls) (h1:ns.length<=1048576) (h2:ls.length<=1048576):
  Calls Tryz.prog 89 #[.agg #[vn,vl],.int .i64 1,.int .i64 a,.int .i64 b] w (zI ns (addL ns ls a b) (addB ns ls a b) w):=by
 go_enter Tryz.func89,Tryz.ntmps89
 go_wp2_with fail
 refine(z7x _ _ ns ls a b _ (hn.below bel_) (hl.below bel_) h1 h2).mono ?_
 rintro e w1 ⟨An,cn,Al,cl,rfl,Hj,Hb⟩;have H7:=Hb.size;simp at H7
 have H6:Blk w1 (w.heap.size+1) 27 #[.slice none 0 0,.slice none 0 0]:=Blk.below (Blk.newAt (by simp)) Hb sz_;have gd:OwnW (w.heap.size+1+1) w1 (.slice An (ns).length cn) (.slice Al ((addL ns ls a b)).length cl) ns (addL ns ls a b):=by simpa using Hj
 have Ha:Below w.heap.size w w1:=bel_
 have n2:w.heap.size+1<w1.heap.size:=o_
 have CH:=h_ (((gd.setLow (p:=⟨w.heap.size+1,0,none⟩) (show w.heap.size+1<w.heap.size+1+1 by omega) (.slice An (ns).length cn)).setLow (p:=⟨w.heap.size+1,1,none⟩) (show w.heap.size+1<w.heap.size+1+1 by omega) (.slice Al ((addL ns ls a b)).length cl)).mono (show w.heap.size<=_ by omega));have HB:=h_ ((Ha.setCell (p:=⟨w.heap.size+1,0,none⟩) sz_ (.slice An (ns).length cn)).setCell (p:=⟨w.heap.size+1,1,none⟩) sz_ (.slice Al ((addL ns ls a b)).length cl));obtain⟨r_0,r_1,r_f0,r_f1⟩:=H6.b2;go_wp2;exact bodyPost_ret (v:= .tuple #[.agg #[.slice An (ns).length cn,.slice Al ((addL ns ls a b)).length cl],.bool (addB ns ls a b)]) (by simp[results,Tryz.results89,go_sem,r_0,r_1,n2]) rfl (zI.mk rfl rfl rfl CH.out HB.out)
theorem z91 (vn vl:Value) (ns ls:List Pr) (a b:Int) (w:World) (hn:RP w vn ns) (hl:RP w vl ls) (h1:ns.length<=1048576) (h2:ls.length<=1048576):
  Calls Tryz.prog 89 #[.agg #[vn,vl],.int .i64 2,.int .i64 a,.int .i64 b] w (zI ns (jQ ns ls a) (hasL ns ls a) w):=by
 go_enter Tryz.func89,Tryz.ntmps89
 go_wp2_with fail
 refine(z5K _ _ ns ls a _ (hn.below bel_) (hl.below bel_) h1 h2).mono ?_
 rintro e w1 ⟨An,cn,Al,cl,rfl,Hj,Hb⟩;have H7:=Hb.size;simp at H7
 have H6:Blk w1 (w.heap.size+1) 27 #[.slice none 0 0,.slice none 0 0]:=Blk.below (Blk.newAt (by simp)) Hb sz_;have gd:OwnW (w.heap.size+1+1) w1 (.slice An (ns).length cn) (.slice Al ((jQ ns ls a)).length cl) ns (jQ ns ls a):=by simpa using Hj
 have Ha:Below w.heap.size w w1:=bel_
 have n2:w.heap.size+1<w1.heap.size:=o_
 have CH:=h_ (((gd.setLow (p:=⟨w.heap.size+1,0,none⟩) (show w.heap.size+1<w.heap.size+1+1 by omega) (.slice An (ns).length cn)).setLow (p:=⟨w.heap.size+1,1,none⟩) (show w.heap.size+1<w.heap.size+1+1 by omega) (.slice Al ((jQ ns ls a)).length cl)).mono (show w.heap.size<=_ by omega));have HB:=h_ ((Ha.setCell (p:=⟨w.heap.size+1,0,none⟩) sz_ (.slice An (ns).length cn)).setCell (p:=⟨w.heap.size+1,1,none⟩) sz_ (.slice Al ((jQ ns ls a)).length cl));obtain⟨r_0,r_1,r_f0,r_f1⟩:=H6.b2;go_wp2;exact bodyPost_ret (v:= .tuple #[.agg #[.slice An (ns).length cn,.slice Al ((jQ ns ls a)).length cl],.bool (hasL ns ls a)]) (by simp[results,Tryz.results89,go_sem,r_0,r_1,n2]) rfl (zI.mk rfl rfl rfl CH.out HB.out)
theorem z8S (vn vl:Value) (ns ls:List Pr) (a b:Int) (w:World) (hn:RP w vn ns) (hl:RP w vl ls) (h1:ns.length<=1048576) (h2:ls.length<=1048576):
  Calls Tryz.prog 89 #[.agg #[vn,vl],.int .i64 3,.int .i64 a,.int .i64 b] w (zI (qr ns ls a) (qs ns ls a) (j5 ns ls a) w):=by
 go_enter Tryz.func89,Tryz.ntmps89
 go_wp2_with fail
 refine(z63 _ _ ns ls a _ (hn.below bel_) (hl.below bel_) h1 h2).mono ?_
 rintro e w1 ⟨An,cn,Al,cl,rfl,Hj,Hb⟩;have H7:=Hb.size;simp at H7
 have H6:Blk w1 (w.heap.size+1) 27 #[.slice none 0 0,.slice none 0 0]:=Blk.below (Blk.newAt (by simp)) Hb sz_;have gd:OwnW (w.heap.size+1+1) w1 (.slice An ((qr ns ls a)).length cn) (.slice Al ((qs ns ls a)).length cl) (qr ns ls a) (qs ns ls a):=by simpa using Hj
 have Ha:Below w.heap.size w w1:=bel_
 have n2:w.heap.size+1<w1.heap.size:=o_
 have CH:=h_ (((gd.setLow (p:=⟨w.heap.size+1,0,none⟩) (show w.heap.size+1<w.heap.size+1+1 by omega) (.slice An ((qr ns ls a)).length cn)).setLow (p:=⟨w.heap.size+1,1,none⟩) (show w.heap.size+1<w.heap.size+1+1 by omega) (.slice Al ((qs ns ls a)).length cl)).mono (show w.heap.size<=_ by omega));have HB:=h_ ((Ha.setCell (p:=⟨w.heap.size+1,0,none⟩) sz_ (.slice An ((qr ns ls a)).length cn)).setCell (p:=⟨w.heap.size+1,1,none⟩) sz_ (.slice Al ((qs ns ls a)).length cl));obtain⟨r_0,r_1,r_f0,r_f1⟩:=H6.b2;go_wp2;exact bodyPost_ret (v:= .tuple #[.agg #[.slice An ((qr ns ls a)).length cn,.slice Al ((qs ns ls a)).length cl],.bool (j5 ns ls a)]) (by simp[results,Tryz.results89,go_sem,r_0,r_1,n2]) rfl (zI.mk rfl rfl rfl CH.out HB.out)
theorem z8i (vn vl:Value) (ns ls:List Pr) (k:Int) (a b:Int) (w:World) (hn:RP w vn ns) (hl:RP w vl ls) (h1:ns.length<=1048576) (h2:ls.length<=1048576) (FC:(k==1)=false) (gU:(k==2)=false) (mv:(k==3)=false):
  Calls Tryz.prog 89 #[.agg #[vn,vl],.int .i64 k,.int .i64 a,.int .i64 b] w (zI ns ls false w):=by
 go_enter Tryz.func89,Tryz.ntmps89
 go_wp2_with fail
 refine(qt _ _ ns ls _ (hn.below bel_) (hl.below bel_) h1 h2).mono ?_
 rintro e w1 ⟨An,cn,Al,cl,rfl,Hj,Hb⟩;have H7:=Hb.size;simp at H7
 have H6:Blk w1 (w.heap.size+1) 27 #[.slice none 0 0,.slice none 0 0]:=Blk.below (Blk.newAt (by simp)) Hb sz_;have gd:OwnW (w.heap.size+1+1) w1 (.slice An (ns).length cn) (.slice Al (ls).length cl) ns ls:=by simpa using Hj
 have Ha:Below w.heap.size w w1:=bel_
 have n2:w.heap.size+1<w1.heap.size:=o_
 have CH:=h_ (((gd.setLow (p:=⟨w.heap.size+1,0,none⟩) (show w.heap.size+1<w.heap.size+1+1 by omega) (.slice An (ns).length cn)).setLow (p:=⟨w.heap.size+1,1,none⟩) (show w.heap.size+1<w.heap.size+1+1 by omega) (.slice Al (ls).length cl)).mono (show w.heap.size<=_ by omega));have HB:=h_ ((Ha.setCell (p:=⟨w.heap.size+1,0,none⟩) sz_ (.slice An (ns).length cn)).setCell (p:=⟨w.heap.size+1,1,none⟩) sz_ (.slice Al (ls).length cl));obtain⟨r_0,r_1,r_f0,r_f1⟩:=H6.b2;go_wp2;exact bodyPost_ret (v:= .tuple #[.agg #[.slice An (ns).length cn,.slice Al (ls).length cl],.bool false]) (by simp[results,Tryz.results89,go_sem,r_0,r_1,n2]) rfl (zI.mk rfl rfl rfl CH.out HB.out)
theorem z5X (vn vl:Value) (ns ls:List Pr) (k a b:Int) (w:World) (hn:RP w vn ns) (hl:RP w vl ls) (h1:ns.length<=1048576) (h2:ls.length<=1048576):
  Calls Tryz.prog 89 #[.agg #[vn,vl],.int .i64 k,.int .i64 a,.int .i64 b] w (zI (yz ns ls k a b) (yD ns ls k a b) (ko ns ls k a b) w):=by
 unfold yz yD ko
 by_cases e1:k=1
 ·subst e1;simpa using z8L vn vl ns ls a b w hn hl h1 h2
 ·by_cases e2:k=2
  ·subst e2;simpa using z91 vn vl ns ls a b w hn hl h1 h2
  ·by_cases e3:k=3
   ·subst e3;simpa using z8S vn vl ns ls a b w hn hl h1 h2
   ·rw[aaq e3,aaq e1,aaq e2,aaq e3,aaq e1,aaq e2,aaq e3]
    exact z8i vn vl ns ls k a b w hn hl h1 h2 (by simp[e1]) (by simp[e2]) (by simp[e3])
theorem z8O (vn vl:Value) (ns ls:List Pr) (a b:Int) (w:World) (hn:RP w vn ns) (hl:RP w vl ls) (h1:ns.length<=1048576) (h2:ls.length<=1048576):
  Calls Tryz.prog 38 #[.agg #[vn,vl],.int .i64 1,.int .i64 a,.int .i64 b] w (zI ns (addL ns ls a b) (addB ns ls a b) w):=by
 go_enter Tryz.func38,Tryz.ntmps38
 go_wp2_with fail
 refine(Va _ _ ns ls a b _ (hn.below bel_) (hl.below bel_) h1 h2).mono ?_
 rintro e w1 ⟨An,cn,Al,cl,rfl,Hj,Hb⟩;have H7:=Hb.size;simp at H7
 have H6:Blk w1 (w.heap.size+1) 27 #[.slice none 0 0,.slice none 0 0]:=Blk.below (Blk.newAt (by simp)) Hb sz_;have gd:OwnW (w.heap.size+1+1) w1 (.slice An (ns).length cn) (.slice Al ((addL ns ls a b)).length cl) ns (addL ns ls a b):=by simpa using Hj
 have Ha:Below w.heap.size w w1:=bel_
 have n2:w.heap.size+1<w1.heap.size:=o_
 have CH:=h_ ((((gd.setLow (p:=⟨w.heap.size+1,0,none⟩) (show w.heap.size+1<w.heap.size+1+1 by omega) (.slice An (ns).length cn)).setLow (p:=⟨w.heap.size+1,1,none⟩) (show w.heap.size+1<w.heap.size+1+1 by omega) (.slice Al ((addL ns ls a b)).length cl)).alloc (.cells #[.slice An (ns).length cn,.slice Al ((addL ns ls a b)).length cl] 27)).mono (show w.heap.size<=_ by omega));have HB:=h_ (((Ha.setCell (p:=⟨w.heap.size+1,0,none⟩) sz_ (.slice An (ns).length cn)).setCell (p:=⟨w.heap.size+1,1,none⟩) sz_ (.slice Al ((addL ns ls a b)).length cl)).alloc (by simp;omega) (.cells #[.slice An (ns).length cn,.slice Al ((addL ns ls a b)).length cl] 27));obtain⟨r_0,r_1,r_f0,r_f1⟩:=H6.b2;go_wp2;exact bodyPost_ret (v:= .tuple #[.agg #[.slice An (ns).length cn,.slice Al ((addL ns ls a b)).length cl],.bool (addB ns ls a b)]) (by simp[results,Tryz.results38,go_sem,r_0,r_1,n2]) rfl (zI.mk rfl rfl rfl CH.out HB.out)
theorem z92 (vn vl:Value) (ns ls:List Pr) (a b:Int) (w:World) (hn:RP w vn ns) (hl:RP w vl ls) (h1:ns.length<=1048576) (h2:ls.length<=1048576):
  Calls Tryz.prog 38 #[.agg #[vn,vl],.int .i64 2,.int .i64 a,.int .i64 b] w (zI ns (jQ ns ls a) (hasL ns ls a) w):=by
 go_enter Tryz.func38,Tryz.ntmps38
 go_wp2_with fail
 refine(z0q _ _ ns ls a _ (hn.below bel_) (hl.below bel_) h1 h2).mono ?_
 rintro e w1 ⟨An,cn,Al,cl,rfl,Hj,Hb⟩;have H7:=Hb.size;simp at H7
 have H6:Blk w1 (w.heap.size+1) 27 #[.slice none 0 0,.slice none 0 0]:=Blk.below (Blk.newAt (by simp)) Hb sz_;have gd:OwnW (w.heap.size+1+1) w1 (.slice An (ns).length cn) (.slice Al ((jQ ns ls a)).length cl) ns (jQ ns ls a):=by simpa using Hj
 have Ha:Below w.heap.size w w1:=bel_
 have n2:w.heap.size+1<w1.heap.size:=o_
 have CH:=h_ ((((gd.setLow (p:=⟨w.heap.size+1,0,none⟩) (show w.heap.size+1<w.heap.size+1+1 by omega) (.slice An (ns).length cn)).setLow (p:=⟨w.heap.size+1,1,none⟩) (show w.heap.size+1<w.heap.size+1+1 by omega) (.slice Al ((jQ ns ls a)).length cl)).alloc (.cells #[.slice An (ns).length cn,.slice Al ((jQ ns ls a)).length cl] 27)).mono (show w.heap.size<=_ by omega));have HB:=h_ (((Ha.setCell (p:=⟨w.heap.size+1,0,none⟩) sz_ (.slice An (ns).length cn)).setCell (p:=⟨w.heap.size+1,1,none⟩) sz_ (.slice Al ((jQ ns ls a)).length cl)).alloc (by simp;omega) (.cells #[.slice An (ns).length cn,.slice Al ((jQ ns ls a)).length cl] 27));obtain⟨r_0,r_1,r_f0,r_f1⟩:=H6.b2;go_wp2;exact bodyPost_ret (v:= .tuple #[.agg #[.slice An (ns).length cn,.slice Al ((jQ ns ls a)).length cl],.bool (hasL ns ls a)]) (by simp[results,Tryz.results38,go_sem,r_0,r_1,n2]) rfl (zI.mk rfl rfl rfl CH.out HB.out)
theorem z8M (vn vl:Value) (ns ls:List Pr) (a b:Int) (w:World) (hn:RP w vn ns) (hl:RP w vl ls) (h1:ns.length<=1048576) (h2:ls.length<=1048576):
  Calls Tryz.prog 38 #[.agg #[vn,vl],.int .i64 3,.int .i64 a,.int .i64 b] w (zI (qr ns ls a) (qs ns ls a) (j5 ns ls a) w):=by
 go_enter Tryz.func38,Tryz.ntmps38
 go_wp2_with fail
 refine(z5y _ _ ns ls a _ (hn.below bel_) (hl.below bel_) h1 h2).mono ?_
 rintro e w1 ⟨An,cn,Al,cl,rfl,Hj,Hb⟩;have H7:=Hb.size;simp at H7
 have H6:Blk w1 (w.heap.size+1) 27 #[.slice none 0 0,.slice none 0 0]:=Blk.below (Blk.newAt (by simp)) Hb sz_;have gd:OwnW (w.heap.size+1+1) w1 (.slice An ((qr ns ls a)).length cn) (.slice Al ((qs ns ls a)).length cl) (qr ns ls a) (qs ns ls a):=by simpa using Hj
 have Ha:Below w.heap.size w w1:=bel_
 have n2:w.heap.size+1<w1.heap.size:=o_
 have CH:=h_ ((((gd.setLow (p:=⟨w.heap.size+1,0,none⟩) (show w.heap.size+1<w.heap.size+1+1 by omega) (.slice An ((qr ns ls a)).length cn)).setLow (p:=⟨w.heap.size+1,1,none⟩) (show w.heap.size+1<w.heap.size+1+1 by omega) (.slice Al ((qs ns ls a)).length cl)).alloc (.cells #[.slice An ((qr ns ls a)).length cn,.slice Al ((qs ns ls a)).length cl] 27)).mono (show w.heap.size<=_ by omega));have HB:=h_ (((Ha.setCell (p:=⟨w.heap.size+1,0,none⟩) sz_ (.slice An ((qr ns ls a)).length cn)).setCell (p:=⟨w.heap.size+1,1,none⟩) sz_ (.slice Al ((qs ns ls a)).length cl)).alloc (by simp;omega) (.cells #[.slice An ((qr ns ls a)).length cn,.slice Al ((qs ns ls a)).length cl] 27));obtain⟨r_0,r_1,r_f0,r_f1⟩:=H6.b2;go_wp2;exact bodyPost_ret (v:= .tuple #[.agg #[.slice An ((qr ns ls a)).length cn,.slice Al ((qs ns ls a)).length cl],.bool (j5 ns ls a)]) (by simp[results,Tryz.results38,go_sem,r_0,r_1,n2]) rfl (zI.mk rfl rfl rfl CH.out HB.out)
theorem z8I (vn vl:Value) (ns ls:List Pr) (k:Int) (a b:Int) (w:World) (hn:RP w vn ns) (hl:RP w vl ls) (h1:ns.length<=1048576) (h2:ls.length<=1048576) (FC:(k==1)=false) (gU:(k==2)=false) (mv:(k==3)=false):
  Calls Tryz.prog 38 #[.agg #[vn,vl],.int .i64 k,.int .i64 a,.int .i64 b] w (zI ns ls false w):=by
 go_enter Tryz.func38,Tryz.ntmps38
 go_wp2_with fail
 refine(zR _ _ ns ls _ (hn.below bel_) (hl.below bel_) h1 h2).mono ?_
 rintro e w1 ⟨An,cn,Al,cl,rfl,Hj,Hb⟩;have H7:=Hb.size;simp at H7
 have H6:Blk w1 (w.heap.size+1) 27 #[.slice none 0 0,.slice none 0 0]:=Blk.below (Blk.newAt (by simp)) Hb sz_;have gd:OwnW (w.heap.size+1+1) w1 (.slice An (ns).length cn) (.slice Al (ls).length cl) ns ls:=by simpa using Hj
 have Ha:Below w.heap.size w w1:=bel_
 have n2:w.heap.size+1<w1.heap.size:=o_
 have CH:=h_ (((gd.setLow (p:=⟨w.heap.size+1,0,none⟩) (show w.heap.size+1<w.heap.size+1+1 by omega) (.slice An (ns).length cn)).setLow (p:=⟨w.heap.size+1,1,none⟩) (show w.heap.size+1<w.heap.size+1+1 by omega) (.slice Al (ls).length cl)).mono (show w.heap.size<=_ by omega));have HB:=h_ ((Ha.setCell (p:=⟨w.heap.size+1,0,none⟩) sz_ (.slice An (ns).length cn)).setCell (p:=⟨w.heap.size+1,1,none⟩) sz_ (.slice Al (ls).length cl));obtain⟨r_0,r_1,r_f0,r_f1⟩:=H6.b2;go_wp2;exact bodyPost_ret (v:= .tuple #[.agg #[.slice An (ns).length cn,.slice Al (ls).length cl],.bool false]) (by simp[results,Tryz.results38,go_sem,r_0,r_1,n2]) rfl (zI.mk rfl rfl rfl CH.out HB.out)
theorem z5o (vn vl:Value) (ns ls:List Pr) (k a b:Int) (w:World) (hn:RP w vn ns) (hl:RP w vl ls) (h1:ns.length<=1048576) (h2:ls.length<=1048576):
  Calls Tryz.prog 38 #[.agg #[vn,vl],.int .i64 k,.int .i64 a,.int .i64 b] w (zI (yz ns ls k a b) (yD ns ls k a b) (ko ns ls k a b) w):=by
 unfold yz yD ko
 by_cases e1:k=1
 ·subst e1;simpa using z8O vn vl ns ls a b w hn hl h1 h2
 ·by_cases e2:k=2
  ·subst e2;simpa using z92 vn vl ns ls a b w hn hl h1 h2
  ·by_cases e3:k=3
   ·subst e3;simpa using z8M vn vl ns ls a b w hn hl h1 h2
   ·rw[aaq e3,aaq e1,aaq e2,aaq e3,aaq e1,aaq e2,aaq e3]
    exact z8I vn vl ns ls k a b w hn hl h1 h2 (by simp[e1]) (by simp[e2]) (by simp[e3])
theorem z5i (ns ls:List Pr) (k:Int):(qr ns ls k).length <=ns.length/\(qs ns ls k).length <=ls.length:=by
 constructor
 ·unfold qr xS
  split
  ·exact z0T ns k _
  ·exact aaa _
 ·unfold qs
  split
  ·rename_i h
   have hs:zW ns ls k=true:=by unfold j5 at h;rw[aaG] at h;exact h.1
   obtain⟨m,p,q,t,u,rfl,hk,hj⟩:=z3Q hs;rw[hj.cl];exact z1z _ _ _ _ _ _
  ·exact aaa _
theorem z77 (ns ls:List Pr) (k a b:Int):(yz ns ls k a b).length <=ns.length/\(yD ns ls k a b).length <=ls.length+1:=by
 have h:=z5i ns ls a;unfold yz yD
 constructor
 ·split
  ·exact h.1
  ·exact aaa _
 ·split
  ·unfold addL;split<;>simp
  ·split
   ·unfold jQ
    split
    ·simp;omega
    ·omega
   ·split
    ·omega
    ·omega
theorem z3r (vn vl:Value) (ns ls N L:List Pr) (k a b:Int) (bb:Bool) (w:World) (hn:RP w vn ns) (hl:RP w vl ls) (h1:ns.length<=1048576) (h2:ls.length<=1048576) (hN:Hid (yz ns ls k a b=N)) (hL:Hid (yD ns ls k a b=L)) (hB:Hid (ko ns ls k a b=bb)):
  Calls Tryz.prog 89 #[.agg #[vn,vl],.int .i64 k,.int .i64 a,.int .i64 b] w (zI N L bb w):=by
 rw[<-hN.out,<-hL.out,<-hB.out];exact z5X vn vl ns ls k a b w hn hl h1 h2
theorem z1Y (vn vl:Value) (ns ls N L:List Pr) (k a b:Int) (bb:Bool) (w:World) (hn:RP w vn ns) (hl:RP w vl ls) (h1:ns.length<=1048576) (h2:ls.length<=1048576) (hN:Hid (yz ns ls k a b=N)) (hL:Hid (yD ns ls k a b=L)) (hB:Hid (ko ns ls k a b=bb)):
  Calls Tryz.prog 38 #[.agg #[vn,vl],.int .i64 k,.int .i64 a,.int .i64 b] w (zI N L bb w):=by
 rw[<-hN.out,<-hL.out,<-hB.out];exact z5o vn vl ns ls k a b w hn hl h1 h2
noncomputable def jA (nn nl:List Pr):List Pr->List Pr->List Sp->Bool
 |N,L,[]=>qN nn nl N L
 |N,L,s::r=>qN s.ns s.ls N L&&(ko N L s.k s.a s.b&&jA nn nl (yz N L s.k s.a s.b) (yD N L s.k s.a s.b) r)
noncomputable def okD (D:Dr):Bool:=winB D.fn D.fl&&(decide (D.ss.length<=40)&&jA D.nn D.nl D.fn D.fl D.ss)
def z4X (w:World) (X Y:Nat) (v0 v1 v2 v3 v4:Value) (D:Dr) (res:Bool) (k:Nat) (wr:World):Prop:=
 ∃(N L:List Pr) (un ul:Value),Blk wr X 30 #[v0,v1,v2,v3,v4]/\Blk wr Y 27 #[un,ul]/\RP wr un N/\RP wr ul L/\N.length<=12/\L.length<=20+k/\
  jA D.nn D.nl N L (D.ss.drop k)=res/\Below w.heap.size w wr
theorem VW (F:Nat) (hF:F=136∨F=25) (v0 v1 v2 v3 v4:Value) (D:Dr) (res:Bool) (w:World) (h:RD w v0 v1 v2 v3 v4 D) (hx:Hid (okD D=res)):
  CB_ F #[.agg #[v0,v1,v2,v3,v4]] w (.bool res):=by
 rcases hF with rfl|rfl
 all_goals
  obtain⟨bw,gi⟩:∃bw,winB D.fn D.fl=bw:=⟨_,rfl⟩;obtain⟨A,c,e4,hc,hm,hcell⟩:=h.ss;unfold maxLen at hm;subst e4;obtain⟨A0,c0,e0,_⟩:=h.fn.form;obtain⟨A1,c1,e1,_⟩:=h.fl.form;subst e0 e1;have HD:=h_ h;have Mj:=h.fn;have Bk:=h.fl;clear h
  cases bw
  ·have er:res=false:=by rw[<-hx.out];unfold okD;rw[gi];rfl
   subst er;clear hx hcell
   first|(go_enter Tryz.func136,Tryz.ntmps136)|(go_enter Tryz.func25,Tryz.ntmps25)
   go_wp2_with fail
   first|(refine(zH _ _ D.fn D.fl false _ (Mj.below bel_) (Bk.below bel_) gi).mono ?_)|(refine(qb _ _ D.fn D.fl false _ (Mj.below bel_) (Bk.below bel_) gi).mono ?_)
   rintro e w1 ⟨rfl,Hb⟩;go_wp2;go_ret
   exact⟨rfl,by exact bel_⟩
  ·have Uk:=(zu.1 gi).2.1
   have YC:=(zu.1 gi).2.2.1
   by_cases Mp:40<D.ss.length
   ·have er:res=false:=by rw[<-hx.out];unfold okD;rw[gi,aaO o_];rfl
    subst er;have rR:(40:Int)<(D.ss.length:Int):=o_
    clear hx hcell Mp
    first|(go_enter Tryz.func136,Tryz.ntmps136)|(go_enter Tryz.func25,Tryz.ntmps25)
    go_wp2_with fail
    first|(refine(zH _ _ D.fn D.fl true _ (Mj.below bel_) (Bk.below bel_) gi).mono ?_)|(refine(qb _ _ D.fn D.fl true _ (Mj.below bel_) (Bk.below bel_) gi).mono ?_)
    rintro e w1 ⟨rfl,Hb⟩;have YD:Blk w1 w.heap.size 30 #[.slice A0 D.fn.length c0,.slice A1 D.fl.length c1,v2,v3,.slice A D.ss.length c]:=Blk.below (Blk.newAt rfl) Hb sz_;have Ha:Below w.heap.size w w1:=bel_
    clear Hb;obtain⟨a_0,a_1,a_2,a_3,a_4⟩:=YD.c5;go_wp2;go_ret
    exact⟨rfl,by exact bel_⟩
   ·have er:jA D.nn D.nl D.fn D.fl D.ss=res:=by rw[<-hx.out];unfold okD;rw[gi,aaQ o_];rfl
    have HR:=h_ er;clear hx er
    first|(go_enter Tryz.func136,Tryz.ntmps136)|(go_enter Tryz.func25,Tryz.ntmps25)
    go_wp2_with fail
    first|(refine(zH _ _ D.fn D.fl true _ (Mj.below bel_) (Bk.below bel_) gi).mono ?_)|(refine(qb _ _ D.fn D.fl true _ (Mj.below bel_) (Bk.below bel_) gi).mono ?_)
    rintro e w1 ⟨rfl,Hb⟩;have H7:=Hb.size;simp at H7
    have YD:Blk w1 w.heap.size 30 #[.slice A0 D.fn.length c0,.slice A1 D.fl.length c1,v2,v3,.slice A D.ss.length c]:=Blk.below (Blk.newAt rfl) Hb sz_;have Ha:Below w.heap.size w w1:=bel_
    clear Hb gi;obtain⟨a_0,a_1,a_2,a_3,a_4⟩:=YD.c5;have e0:w.heap.size<w1.heap.size:=o_
    go_wp2_with fail
    obtain⟨u1,NV⟩:∃u1,u1=w1.alloc (.cells #[.slice A0 D.fn.length c0,.slice A1 D.fl.length c1] 27):=⟨_,rfl⟩;rw[<-NV];have HS:Hid (z4X w w.heap.size w1.heap.size (.slice A0 D.fn.length c0) (.slice A1 D.fl.length c1) v2 v3 (.slice A D.ss.length c) D res 0 u1):=h_ ⟨D.fn,D.fl,.slice A0 D.fn.length c0,.slice A1 D.fl.length c1,NV▸YD.alloc _,NV▸Blk.newAt rfl,NV▸Mj.below (Ha.alloc o_ _),NV▸Bk.below (Ha.alloc o_ _),Uk,by omega,HR.out,NV▸Ha.alloc o_ _⟩;have hY:w.heap.size<w1.heap.size:=e0;generalize w1.heap.size=Y at*;clear NV Ha YD a_0 a_1 a_2 a_3 a_4 H7 e0 HR
    first|(go_loopw [4] (fun i wr=>∃k:Nat,k<=D.ss.length/\i= .int .i64 k/\Hid (z4X w w.heap.size Y (.slice A0 D.fn.length c0) (.slice A1 D.fl.length c1) v2 v3 (.slice A D.ss.length c) D res k wr)) (fun i _=>D.ss.length -(intOf i).toNat);(case atStart=>exact⟨0,aab _,rfl,HS⟩))|(go_loopw [23] (fun i wr=>∃k:Nat,k<=D.ss.length/\i= .int .i64 k/\Hid (z4X w w.heap.size Y (.slice A0 D.fn.length c0) (.slice A1 D.fl.length c1) v2 v3 (.slice A D.ss.length c) D res k wr)) (fun i _=>D.ss.length -(intOf i).toNat);(case atStart=>exact⟨0,aab _,rfl,HS⟩))
    case round=>
     obtain⟨k,hk,rfl,HT⟩:=hrel;clear HS;obtain⟨N,L,un,ul,Fl,gp,GV,hul,hN,hL,Ce,Hd⟩:=HT.out;have gI:=Hd.size;have hRD:=h_ (HD.out.below Hd);obtain⟨x_0,x_1,x_2,x_3,x_4⟩:=Fl.c5;obtain⟨y_0,y_1⟩:=gp.c2
     by_cases Hf:k<D.ss.length
     ·obtain⟨b,off,rfl,hb,Hz⟩:=hcell o_
      obtain⟨k0,k1,k2,vn,vl,k3,k4,hn,hl⟩:=Hz k Hf;have q0:=(Hd.cell (p:=⟨b,off+k*5,none⟩) hb).trans k0;have q1:=(Hd.cell (p:=⟨b,off+k*5+1,none⟩) hb).trans k1;have q2:=(Hd.cell (p:=⟨b,off+k*5+2,none⟩) hb).trans k2;have q3:=(Hd.cell (p:=⟨b,off+k*5+3,none⟩) hb).trans k3;have q4:=(Hd.cell (p:=⟨b,off+k*5+4,none⟩) hb).trans k4;obtain⟨Av,cv,ev,_⟩:=hn.form;obtain⟨Au,cu,eu,_⟩:=hl.form;subst ev eu;have bQ:=h_ (hn.below Hd);have Gq:=h_ (hl.below Hd);rw[aas Hf] at Ce;unfold jA at Ce;obtain⟨sw,hsw⟩:∃sw,qN D.ss[k].ns D.ss[k].ls N L=sw:=⟨_,rfl⟩;have M1:=h_ hsw;rw[hsw] at Ce;have MG:=h_ Ce;generalize D.ss[k]=s at*;clear k0 k1 k2 k3 k4 Hz hcell hn hl HT hsw Ce;have rS:=h_ GV;have rT:=h_ hul;have HXB:=h_ Fl;have HYB:=h_ gp
      have hylt:=gp.lt;clear GV hul Fl gp
      go_wp2_with fail
      obtain⟨w2,gw⟩:∃w2,w2=wr.alloc (.cells #[.int .i64 s.k,.int .i64 s.a,.int .i64 s.b,.slice Av s.ns.length cv,.slice Au s.ls.length cu] 113):=⟨_,rfl⟩;rw[<-gw];have Hc:Below w.heap.size w w2:=gw▸Hd.alloc gI _;have fV:Below wr.heap.size wr w2:=gw▸(aaj _ _).alloc (aaa _) _;have hZ:Blk w2 wr.heap.size 113 #[.int .i64 s.k,.int .i64 s.a,.int .i64 s.b,.slice Av s.ns.length cv,.slice Au s.ls.length cu]:=gw▸Blk.newAt rfl;have fi:=HXB.out.below fV HXB.out.lt;have RJ:=HYB.out.below fV hylt;clear gw q0 q1 q2 q3 q4 x_0 x_1 x_2 x_3 x_4 y_0 y_1
      first|(refine(yy _ _ _ _ s.ns s.ls N L sw _ (bQ.out.below fV) (Gq.out.below fV) (rS.out.below fV) (rT.out.below fV) M1).mono ?_)|(refine(xF _ _ _ _ s.ns s.ls N L sw _ (bQ.out.below fV) (Gq.out.below fV) (rS.out.below fV) (rT.out.below fV) M1).mono ?_)
      rintro e w3 ⟨rfl,Hg⟩;have He:Below w.heap.size w w3:=Hc.trans (Hg.mono Hc.size);have gS:=fi.below Hg fi.lt;have YE:=RJ.below Hg RJ.lt;have Fh:=hZ.below Hg hZ.lt;have bo:Below wr.heap.size wr w3:=fV.trans (Hg.mono fV.size);have Ul:=rS.out.below bo;have Um:=rT.out.below bo;clear Hg Hc fi RJ hZ fV bo bQ Gq rS rT HXB HYB;generalize wr.heap.size=Z at*
      cases sw
      ·have er:res=false:=MG.out.symm
       subst er;go_wp2;go_ret
       exact⟨rfl,He⟩
      ·have Nd:(ko N L s.k s.a s.b&&jA D.nn D.nl (yz N L s.k s.a s.b) (yD N L s.k s.a s.b) (D.ss.drop (k+1)))=res:=MG.out
       obtain⟨N',hN'⟩:∃N',yz N L s.k s.a s.b=N':=⟨_,rfl⟩;obtain⟨L',hL'⟩:∃L',yD N L s.k s.a s.b=L':=⟨_,rfl⟩;obtain⟨bb,H4⟩:∃bb,ko N L s.k s.a s.b=bb:=⟨_,rfl⟩;obtain⟨l1,l2⟩:=z77 N L s.k s.a s.b;rw[hN',hL',H4] at Nd;rw[hN'] at l1;rw[hL'] at l2;have H1:=h_ hN';have H2:=h_ hL';have H3:=h_ H4;have Wm:=h_ Nd;clear hN' hL' H4 Nd MG M1;obtain⟨z_0,z_1,z_2,z_3,z_4⟩:=Fh.c5;obtain⟨y_0,y_1⟩:=YE.c2
       go_wp2_with fail
       first|(refine(z1Y _ _ N L N' L' s.k s.a s.b bb _ Ul Um o_ o_ H1 H2 H3).mono ?_)|(refine(z3r _ _ N L N' L' s.k s.a s.b bb _ Ul Um o_ o_ H1 H2 H3).mono ?_)
       rintro e w4 ⟨An,cn,Al,cl,rfl,gz,H5⟩;have Ho:Below w.heap.size w w4:=He.trans (H5.mono He.size);have HX4:=h_ (gS.below H5 gS.lt);have hY4:=YE.below H5 YE.lt;have YF:=YE.lt;have fk:=h_ (((gz.setLow (p:=⟨Y,0,none⟩) YF (.slice An N'.length cn)).setLow (p:=⟨Y,1,none⟩) YF (.slice Al L'.length cl)).alloc' (.cells #[.slice An N'.length cn,.slice Al L'.length cl] 27));clear H5 gS YE Fh gz He z_0 z_1 z_2 z_3 z_4 y_0 y_1 Ul Um H1 H2 H3;have e4:Y<w4.heap.size:=hY4.lt
       cases bb
       ·have er:res=false:=Wm.out.symm
        subst er;go_wp2;go_ret
        exact⟨rfl,by exact bel_⟩
       ·have HR3:Hid (jA D.nn D.nl N' L' (D.ss.drop (k+1))=res):=h_ Wm.out
        have Un:Hid (z4X w w.heap.size Y (.slice A0 D.fn.length c0) (.slice A1 D.fl.length c1) v2 v3 (.slice (some ⟨b,off,none⟩) D.ss.length c) D res (k+1) (((w4.setCell ⟨Y,0,none⟩ (.slice An N'.length cn)).setCell ⟨Y,1,none⟩ (.slice Al L'.length cl)).alloc (.cells #[.slice An N'.length cn,.slice Al L'.length cl] 27))):=by
         have hY5:=((hY4.set_ 0 (.slice An N'.length cn)).set_ 1 (.slice Al L'.length cl)).alloc (.cells #[.slice An N'.length cn,.slice Al L'.length cl] 27);have Ca:=((HX4.out.far (p:=⟨Y,0,none⟩) (by show _≠Y;omega) (.slice An N'.length cn)).far (p:=⟨Y,1,none⟩) (by show _≠Y;omega) (.slice Al L'.length cl)).alloc (.cells #[.slice An N'.length cn,.slice Al L'.length cl] 27);exact h_ ⟨N',L',_,_,Ca,hY5,fk.out.1.reads,fk.out.2.1.reads,by omega,by omega,HR3.out,by exact bel_⟩
        obtain⟨y_0,y_1,y_f0,y_f1⟩:=hY4.b2;go_wp2;go_roundw
        case rel=>exact⟨k+1,by omega,by go_num,Un⟩
        case measure=>simp[intOf];omega
     ·have gn:k=D.ss.length:=o_
      subst gn;rw[List.drop_length] at Ce;unfold jA at Ce;have MG:=h_ Ce;have BQ:=hRD.out.nn;have fQ:=hRD.out.nl;clear Ce HT hcell
      go_wp2_with fail
      first|(refine(yy _ _ _ _ D.nn D.nl N L res _ BQ fQ GV hul MG).mono ?_)|(refine(xF _ _ _ _ D.nn D.nl N L res _ BQ fQ GV hul MG).mono ?_)
      rintro e w3 ⟨rfl,Hg⟩;have He:Below w.heap.size w w3:=Hd.trans (Hg.mono gI);clear Hg;go_wp2;go_ret
      exact⟨rfl,He⟩
theorem z1e (v0 v1 v2 v3 v4:Value) (D:Dr) (res:Bool) (w:World) (h:RD w v0 v1 v2 v3 v4 D) (hx:Hid (okD D=res)):
  CB_ 136 #[.agg #[v0,v1,v2,v3,v4]] w (.bool res):=VW _ (.inl rfl) v0 v1 v2 v3 v4 D res w h hx
theorem Z0 (v0 v1 v2 v3 v4:Value) (D:Dr) (res:Bool) (w:World) (h:RD w v0 v1 v2 v3 v4 D) (hx:Hid (okD D=res)):
  CB_ 25 #[.agg #[v0,v1,v2,v3,v4]] w (.bool res):=VW _ (.inr rfl) v0 v1 v2 v3 v4 D res w h hx
theorem z1j (f:SF) (A0 A1:Option Addr) (n0 c0 n1 c1:Nat) (h0:f.2.1= .slice A0 n0 c0) (h1:f.2.2= .slice A1 n1 c1):∀u∈sfc f,u.oneCell'=true:=by
 intro u hu;simp only[sfc,List.mem_cons,List.mem_nil_iff,or_false,h0,h1] at hu
 rcases hu with rfl|rfl|rfl|rfl|rfl<;>rfl
theorem xt {P:Program} {w:World} {t ty e:TypeId} {i:TypeInfo} {base:Nat} (ht:P.underlying t=some (.slice e)) (hi:P.info? e=some i) (hz:i.zero=some (.agg #[.int .i64 0,.int .i64 0,.int .i64 0,.slice none 0 0,.slice none 0 0])) (Hy:i.size=5) (gp:i.bytes=72)
  {v:Value} {fs:List SF} {f:SF} {a:Addr} {c:Nat} (hown:w.ownsRow base e 5 v fs.length (fs.flatMap sfc)) (hn:∀(j:Nat) (u:Value),(sfc f)[j]? =some u->w.cell? (a.add j)=some u) (FW:∀u∈sfc f,u.oneCell'=true)
  (Hm:fs.length<=1048576) (Hs:base<=w.heap.size):
  ∃A c' w',(Builtin.append_ #[t,t] ty #[v,.slice (some a) 1 c]).run P w= .ok (.slice A (fs.length+1) c') w'/\w'.ownsRow base e 5 (.slice A (fs.length+1) c') (fs.length+1) ((fs++[f]).flatMap sfc)/\w.grownBy w' v.ownBlock/\
   ((Value.slice A (fs.length+1) c').ownBlock =v.ownBlock∨(Value.slice A (fs.length+1) c').ownBlock =some w.heap.size):=by
 obtain⟨v',w',h1,h2,h3,_,h5⟩:=run_append_own_at (P:=P) w base t ty e i _ 5 72 ht hi hz Hy gp rfl (by decide) v fs.length (fs.flatMap sfc) hown a 1 c (sfc f) (by simp[sfc]) hn FW (by unfold maxLen;omega) o_ Hs
 have Rl:w'.ownsRow base e 5 v' (fs.length+1) ((fs++[f]).flatMap sfc):=by
  rw[aaX]
  simpa using h2
 rcases h2.2 with ⟨_,hz0⟩|⟨g,cap,cur,rfl,_⟩
 ·omega
 ·exact⟨_,cap,w',h1,Rl,h3,h5⟩
theorem vU {P:Program} {w:World} {ops:Array Oper} {rest:List Oper} {o:Oper} {a:Act} {Q:Exit->Act->World->Prop} (Fu:o.guard=none) (s x:Operand) (t:TypeId)
  (ho:o.op= .call { callee:= .builtin .append,args:= #[s,x],argTypes:= #[t,t] })
  (base:Nat) (e:TypeId) (i:TypeInfo) (ht:P.underlying t=some (.slice e)) (hi:P.info? e=some i) (hz:i.zero=some (.agg #[.int .i64 0,.int .i64 0,.int .i64 0,.slice none 0 0,.slice none 0 0])) (Hy:i.size=5) (gp:i.bytes=72)
  (v:Value) (fs:List SF) (f:SF) (ad:Addr) (c:Nat) (hs:a.eval s=v) (hx:a.eval x= .slice (some ad) 1 c) (hown:w.ownsRow base e 5 v fs.length (fs.flatMap sfc)) (hn:∀(j:Nat) (u:Value),(sfc f)[j]? =some u->w.cell? (ad.add j)=some u)
  (FW:∀u∈sfc f,u.oneCell'=true) (Hm:fs.length<=1048576) (Hs:base<=w.heap.size)
  (h:∀A c' w',w'.ownsRow base e 5 (.slice A (fs.length+1) c') (fs.length+1) ((fs++[f]).flatMap sfc)->w.grownBy w' v.ownBlock->((Value.slice A (fs.length+1) c').ownBlock =v.ownBlock∨(Value.slice A (fs.length+1) c').ownBlock =some w.heap.size)->wpList P ops Q rest (a.put o.dst (.slice A (fs.length+1) c')) w'):
  wpList P ops Q (o::rest) a w:=
 wpList_plain Fu fun K hK=>by
  obtain⟨A,c',w',fj,h2,h3,h4⟩:=xt (ty:=o.type) (c:=c) ht hi hz Hy gp hown hn FW Hm Hs;unfold Oper.wp execOp;simp only[ho,resolve,invoke,builtin,Sem.run_bind,Sem.run_pure,aaY,List.map_toArray,aaS,aaT,hs,hx,fj]
  exact hK _ _ (h A c' w' h2 h3 h4)
theorem OwnT.snoc {base:Nat} {w w':World} {v v':Value} {fs:List SF} {f:SF} (h:OwnT base w v fs) (hr:w'.ownsRow base 113 5 v' (fs.length+1) ((fs++[f]).flatMap sfc)) (hg:w.grownBy w' v.ownBlock)
  (hv:v'.ownBlock=v.ownBlock∨v'.ownBlock=some w.heap.size) (hf:OwnW base w f.2.1 f.2.2 f.1.ns f.1.ls) (bF:∀b,zp f.2.1 f.2.2 b->v.ownBlock≠some b) (hfw:∀j (hj:j<fs.length) b,zp f.2.1 f.2.2 b->¬zp fs[j].2.1 fs[j].2.2 b):
  OwnT base w' v' (fs++[f]):=by
 have ht:Turns (fun b=>v.ownBlock=some b) w w':=Turns.ofGrown hg (fun k hk=>hk)
 have G9:∀k (hk:k<(fs++[f]).length),k<fs.length∨(k=fs.length/\(fs++[f])[k]=f):=by
  intro k hk
  by_cases Hf:k<fs.length
  ·exact .inl Hf
  ·have:k=fs.length:=by simp at hk;omega
   subst this;exact .inr ⟨rfl,by simp⟩
 refine⟨by simpa using hr,fun k hk=>?_,fun k hk b hb=>?_,fun i j hi hj Hv b=>?_⟩
 ·rcases G9 k hk with Hf|⟨rfl,e⟩
  ·rw[aad Hf]
   exact(h.win k Hf).turned ht (fun b hb e=>h.rw_ k Hf b e hb)
  ·rw[e]
   exact hf.turned ht (fun b hb=>bF b hb)
 ·rcases G9 k hk with Hf|⟨rfl,e⟩
  ·rw[aad Hf]
   rcases hv with hv|hv
   ·exact h.rw_ k Hf b (hv▸hb)
   ·intro gH
    have:=((h.win k Hf).lt b gH).2;rw[hv] at hb
    cases hb
    omega
  ·rw[e]
   rcases hv with hv|hv
   ·exact fun gH=>bF b gH (hv▸hb)
   ·intro gH
    have:=(hf.lt b gH).2;rw[hv] at hb
    cases hb
    omega
 ·rcases G9 i hi with h1|⟨rfl,e1⟩<;>rcases G9 j hj with h2|⟨rfl,e2⟩
  ·rw[aad h1,aad h2]
   exact h.ww i j h1 h2 Hv b
  ·rw[aad h1,e2]
   exact fun a c=>hfw i h1 b c a
  ·rw[aad h2,e1]
   exact hfw j h2 b
  ·omega
theorem OwnD.mono {base base':Nat} {w:World} {a b c d e:Value} {D:Dr} {fs:List SF} (h:OwnD base w a b c d e D fs) (hb:base'<=base):OwnD base' w a b c d e D fs:=
 ⟨h.first.mono hb,h.now.mono hb,h.ss.mono hb,h.map,h.f_n,h.f_s,h.n_s⟩
theorem OwnD.setFar {base:Nat} {w:World} {a b c d e:Value} {D:Dr} {fs:List SF} (h:OwnD base w a b c d e D fs) {p:Addr} (hp:¬qE a b c d e fs p.block) (u:Value):OwnD base (w.setCell p u) a b c d e D fs:=
 h.turned (S:=fun k=>k=p.block) (Turns.ofGrown (jq w p u) (fun k hk=>by cases hk;rfl)) (fun k hk e=>hp (e▸hk))
theorem JI {w:World} {f:SF} {cs:Array Value} {t:TypeId} {g:Nat} (hg:g=w.heap.size) (Fm:cs.toList=sfc f):∀(j:Nat) (u:Value),(sfc f)[j]? =some u->(w.alloc (.cells cs t)).cell? ((⟨g,0,none⟩:Addr).add j)=some u:=by
 subst hg;intro j u hu;rw[<-Fm] at hu;have Be:cs[j]? =some u:=by simpa using hu
 rw[kL,aaF,cell_of_row _ _ _ cs t (0,0) (heap_alloc_new w _)];exact Be
theorem yq {e e':Value} {fs:List SF} {f:SF} {n k:Nat} (hv:e'.ownBlock=e.ownBlock∨e'.ownBlock=some n) (h:kH e' (fs++[f]) k):kH e fs k∨k=n∨zp f.2.1 f.2.2 k:=by
 rcases h with h|⟨i,hi,h⟩
 ·rcases hv with hv|hv
  ·exact .inl (.inl (hv▸h))
  ·rw[hv] at h;cases h;exact .inr (.inl rfl)
 ·by_cases Hf:i<fs.length
  ·rw[aad Hf] at h
   exact .inl (.inr ⟨i,Hf,h⟩)
  ·have:i=fs.length:=by simp at hi;omega
   subst this;simp at h
   exact .inr (.inr h)
theorem OwnD.snoc {base:Nat} {w w':World} {a b c d e e':Value} {D:Dr} {fs:List SF} {f:SF} (h:OwnD base w a b c d e D fs) (hr:w'.ownsRow base 113 5 e' (fs.length+1) ((fs++[f]).flatMap sfc)) (hg:w.grownBy w' e.ownBlock)
  (hv:e'.ownBlock=e.ownBlock∨e'.ownBlock=some w.heap.size) (hf:OwnW base w f.2.1 f.2.2 f.1.ns f.1.ls) (bF:∀k,zp f.2.1 f.2.2 k->¬qE a b c d e fs k):OwnD base w' a b c d e' ⟨D.fn,D.fl,D.nn,D.nl,D.ss++[f.1]⟩ (fs++[f]):=by
 have ht:Turns (fun b=>e.ownBlock=some b) w w':=Turns.ofGrown hg (fun k hk=>hk)
 refine⟨h.first.turned ht (fun k hk e1=>h.f_s k hk (.inl e1)),h.now.turned ht (fun k hk e1=>h.n_s k hk (.inl e1)),
  h.ss.snoc hr hg hv hf (fun k hk e1=>bF k hk (.inr (.inr (.inl e1)))) (fun j hj k hk FD=>bF k hk (.inr (.inr (.inr ⟨j,hj,FD⟩)))),by rw[aaz,h.map];rfl,h.f_n,fun k hk FD=>?_,fun k hk FD=>?_⟩
 ·rcases yq hv FD with h1|h1|h1
  ·exact h.f_s k hk h1
  ·have:=(h.first.lt k hk).2;omega
  ·exact bF k h1 (.inl hk)
 ·rcases yq hv FD with h1|h1|h1
  ·exact h.n_s k hk h1
  ·have:=(h.now.lt k hk).2;omega
  ·exact bF k h1 (.inr (.inl hk))
theorem X6 {a b c d e e':Value} {fs:List SF} {f:SF} {n k:Nat} (hv:e'.ownBlock=e.ownBlock∨e'.ownBlock=some n) (h:qE a b c d e' (fs++[f]) k):qE a b c d e fs k∨k=n∨zp f.2.1 f.2.2 k:=by
 rcases h with h|h|h
 ·exact .inl (.inl h)
 ·exact .inl (.inr (.inl h))
 ·rcases yq hv h with h|h|h
  ·exact .inl (.inr (.inr h))
  ·exact .inr (.inl h)
  ·exact .inr (.inr h)
def CpSt (w:World) (D:Dr) (v0 v1 v2 v3 v4:Value) (Z k:Nat) (wr:World):Prop:=
 ∃A0 c0 A1 c1 A2 c2 A3 c3 A4 c4 fs,OwnD (w.heap.size+1+1) wr (.slice A0 D.fn.length c0) (.slice A1 D.fl.length c1) (.slice A2 D.nn.length c2) (.slice A3 D.nl.length c3) (.slice A4 k c4) ⟨D.fn,D.fl,D.nn,D.nl,D.ss.take k⟩ fs/\
  Blk wr w.heap.size 30 #[v0,v1,v2,v3,v4]/\Blk wr (w.heap.size+1) 30 z5_/\
  Blk wr Z 30 #[.slice A0 D.fn.length c0,.slice A1 D.fl.length c1,.slice A2 D.nn.length c2,.slice A3 D.nl.length c3,.slice A4 k c4]/\
  w.heap.size+1<Z/\¬qE (.slice A0 D.fn.length c0) (.slice A1 D.fl.length c1) (.slice A2 D.nn.length c2) (.slice A3 D.nl.length c3) (.slice A4 k c4) fs Z/\Below w.heap.size w wr
theorem OwnW.setOff {base:Nat} {w:World} {a b:Value} {ns ls:List Pr} (h:OwnW base w a b ns ls) {p:Addr} (hp:¬zp a b p.block) (u:Value):OwnW base (w.setCell p u) a b ns ls:=
 h.turned (S:=fun k=>k=p.block) (Turns.ofGrown (jq w p u) (fun k hk=>by cases hk;rfl)) (fun k hk e=>hp (e▸hk))
theorem V1 {w wE:World} {v0 v1 v2 v3 v4:Value} {D:Dr} {A0 A1 A2 A3:Option Addr} {c0 c1 c2 c3 B1 B2 Z:Nat} (hX:Blk wE w.heap.size 30 #[v0,v1,v2,v3,v4]) (hR:Blk wE (w.heap.size+1) 30 z5_)
  (hZ:Blk wE Z 30 #[.slice A0 D.fn.length c0,.slice A1 D.fl.length c1,.slice A2 D.nn.length c2,.slice A3 D.nl.length c3,.slice none 0 0])
  (h1:OwnW B1 wE (.slice A0 D.fn.length c0) (.slice A1 D.fl.length c1) D.fn D.fl) (h2:OwnW B2 wE (.slice A2 D.nn.length c2) (.slice A3 D.nl.length c3) D.nn D.nl)
  (Hf:∀k,zp (.slice A0 D.fn.length c0) (.slice A1 D.fl.length c1) k->k<B2) (e1:w.heap.size+1+1<=B1) (e2:w.heap.size+1+1<=B2)
  (z1:¬zp (.slice A0 D.fn.length c0) (.slice A1 D.fl.length c1) Z) (z2:¬zp (.slice A2 D.nn.length c2) (.slice A3 D.nl.length c3) Z) (Gb:w.heap.size+1<Z) (hb:Below w.heap.size w wE):
  CpSt w D v0 v1 v2 v3 v4 Z 0 wE:=by
 have hn:∀k,¬kH (.slice none 0 0) [] k:=by
  rintro k (h|⟨i,hi,_⟩)
  ·simp[Value.ownBlock] at h
  ·simp at hi
 refine⟨A0,c0,A1,c1,A2,c2,A3,c3,none,0,[],⟨h1.mono e1,h2.mono e2,OwnT.nil _ _,by simp,fun k a b=>?_,fun k _ b=>hn k b,fun k _ b=>hn k b⟩,hX,hR,hZ,Gb,?_,hb⟩
 ·have:=Hf k a
  have:=(h2.lt k b).1;omega
 ·rintro(h|h|h)
  ·exact z1 h
  ·exact z2 h
  ·exact hn _ h
theorem z0p (F:Nat) (hF:F=135∨F=80) (v0 v1 v2 v3 v4:Value) (D:Dr) (w:World) (h:RD w v0 v1 v2 v3 v4 D) (hle:DrLe D):
  Calls Tryz.prog F #[.agg #[v0,v1,v2,v3,v4]] w (RetD D w):=by
 have gf:=h_ hle;have wX:=h.fn;have fK:=h.fl;have BQ:=h.nn;have fQ:=h.nl;obtain⟨A,c,e4,hc,hm,hcell⟩:=h.ss;subst e4;unfold maxLen at hm;clear hle h;obtain⟨i0,hi,iz0,iz1,iz2⟩:=info_parts VZ;have CB:w.heap.size<w.heap.size+1+1:=o_
 have gj:w.heap.size<w.heap.size+1+1+1:=o_
 have Gr:¬w.heap.size+1+1=w.heap.size:=o_
 have Wn:Hid (∀(G:Nat),G=110∨G=81->∀(vn vl:Value) (ns ls:List Pr) (w:World),RP w vn ns->RP w vl ls->ns.length<=1048576->ls.length<=1048576->Calls Tryz.prog G #[.agg #[vn,vl]] w (RetW ns ls w)):=h_ (by
  rintro G (rfl|rfl)
  ·exact zR
  ·exact qt)
 rcases hF with rfl|rfl
 go_enter Tryz.func135,Tryz.ntmps135
 rotate_left
 go_enter Tryz.func80,Tryz.ntmps80
 rotate_left
 all_goals
  go_wp2_with fail
  go_cut [3] (fun z wx=>∃Z,z= .pointer (some ⟨Z,0,none⟩)/\CpSt w D v0 v1 v2 v3 (.slice A D.ss.length c) Z 0 wx)
  case first=>
   go_region_held3 (fun w'=>w'.cell? ⟨w.heap.size,0,none⟩=some v0/\w'.cell? ⟨w.heap.size,1,none⟩=some v1/\w'.cell? ⟨w.heap.size,2,none⟩=some v2/\w'.cell? ⟨w.heap.size,3,none⟩=some v3)
    (go_keep)
    (first|(go_at_call 110;refine Calls.mono (zR _ _ D.fn D.fl _ ?a1 ?a2 gf.out.fn gf.out.fl) ?_;(case a1=>exact wX.below bel_);(case a2=>exact fK.below bel_);rintro e w1 ⟨An1,cn1,Al1,cl1,rfl,Hj,Hb⟩;(have gl:=bdC Hb);(have mE:=bdF Hb);have H7:=Hb.size;(try simp at H7);(try have gY:=p0_ w w1);(try have Gv:=p1_ w w1);(try have Fr:=p2_ w w1);(have rs:w.heap.size<w1.heap.size+1:=by omega);(have rt:¬w1.heap.size=w.heap.size:=by omega))|(go_at_call 110;refine Calls.mono (zR _ _ D.nn D.nl _ ?a3 ?a4 gf.out.nn gf.out.nl) ?_;(case a3=>exact BQ.below bel_);(case a4=>exact fQ.below bel_);rintro e w2 ⟨An2,cn2,Al2,cl2,rfl,Hn,Hh⟩;(have gV:=bcC Hh);(have Mv:=bcF Hh);have Gp:=Hh.size;(try simp at Gp);(try have Gc:=p0_ w w2);(try have Gd:=p1_ w w2))|(go_at_call 81;refine Calls.mono (qt _ _ D.fn D.fl _ ?a1 ?a2 gf.out.fn gf.out.fl) ?_;(case a1=>exact wX.below bel_);(case a2=>exact fK.below bel_);rintro e w1 ⟨An1,cn1,Al1,cl1,rfl,Hj,Hb⟩;(have gl:=bdC Hb);(have mE:=bdF Hb);have H7:=Hb.size;(try simp at H7);(try have gY:=p0_ w w1);(try have Gv:=p1_ w w1);(try have Fr:=p2_ w w1);(have rs:w.heap.size<w1.heap.size+1:=by omega);(have rt:¬w1.heap.size=w.heap.size:=by omega))|(go_at_call 81;refine Calls.mono (qt _ _ D.nn D.nl _ ?a3 ?a4 gf.out.nn gf.out.nl) ?_;(case a3=>exact BQ.below bel_);(case a4=>exact fQ.below bel_);rintro e w2 ⟨An2,cn2,Al2,cl2,rfl,Hn,Hh⟩;(have gV:=bcC Hh);(have Mv:=bcF Hh);have Gp:=Hh.size;(try simp at Gp);(try have Gc:=p0_ w w2);(try have Gd:=p1_ w w2)))
   all_goals go_wp2
   all_goals go_meet
   ·have cM:Below (w.heap.size+1+1) ((w.alloc (.cells #[v0,v1,v2,v3,.slice A D.ss.length c] 30)).alloc (.cells z5_ 30)) w2:=bel_
    have fi:=Blk.below ((Blk.newAt rfl).alloc _) cM (show w.heap.size<_ by omega);have go:=Blk.below (Blk.newAt (by simp)) cM (show w.heap.size+1<_ by omega);have FU:∀k,zp (.slice An1 D.fn.length cn1) (.slice Al1 D.fl.length cl1) k->w.heap.size+1+1<=k/\k<w1.heap.size:=fun k hk=>by have:=Hj.lt k hk;simp at this;omega
    have CI:=Hn.lt;exact⟨_,rfl,V1 (fi.alloc _) (go.alloc _) (Blk.newAt rfl) ((Hj.kept Hh).alloc' _) (Hn.alloc' _) (fun k hk=>(FU k hk).2) (by simp) o_ (fun hk=>by have:=(FU _ hk).2;omega) (fun hk=>by have:=(CI _ hk).2;omega) o_ bel_⟩
   ·have cM:Below (w.heap.size+1+1) ((w.alloc (.cells #[v0,v1,v2,v3,.slice A D.ss.length c] 30)).alloc (.cells z5_ 30)) w2:=bel_
    have fi:=Blk.below ((Blk.newAt rfl).alloc _) cM (show w.heap.size<_ by omega);have go:=Blk.below (Blk.newAt (by simp)) cM (show w.heap.size+1<_ by omega);have Nf:=Blk.below (Blk.newAt rfl) Hh (show w1.heap.size<_ by simp);have FU:∀k,zp (.slice An1 D.fn.length cn1) (.slice Al1 D.fl.length cl1) k->w.heap.size+1+1<=k/\k<w1.heap.size:=fun k hk=>by have:=Hj.lt k hk;simp at this;omega
    have CI:∀k,zp (.slice An2 D.nn.length cn2) (.slice Al2 D.nl.length cl2) k->w1.heap.size+1<=k/\k<w2.heap.size:=fun k hk=>by have:=Hn.lt k hk;simp at this;omega
    have z1:¬zp (.slice An1 D.fn.length cn1) (.slice Al1 D.fl.length cl1) w1.heap.size:=fun hk=>by have:=(FU _ hk).2;omega
    have z2:¬zp (.slice An2 D.nn.length cn2) (.slice Al2 D.nl.length cl2) w1.heap.size:=fun hk=>by have:=(CI _ hk).1;omega
    have n0:w.heap.size≠w1.heap.size:=o_
    have n1:w.heap.size+1≠w1.heap.size:=o_
    have gd:=(Hj.alloc' _).kept Hh
    exact⟨_,rfl,V1 (((((fi.far (p:=⟨w1.heap.size,0,none⟩) n0 _).far (p:=⟨w1.heap.size,1,none⟩) n0 _).far (p:=⟨w1.heap.size,2,none⟩) n0 _).far (p:=⟨w1.heap.size,3,none⟩) n0 _).far (p:=⟨w1.heap.size,4,none⟩) n0 _)
     (((((go.far (p:=⟨w1.heap.size,0,none⟩) n1 _).far (p:=⟨w1.heap.size,1,none⟩) n1 _).far (p:=⟨w1.heap.size,2,none⟩) n1 _).far (p:=⟨w1.heap.size,3,none⟩) n1 _).far (p:=⟨w1.heap.size,4,none⟩) n1 _)
     (((((Nf.set_ 0 _).set_ 1 _).set_ 2 _).set_ 3 _).set_ 4 _)
     (((((gd.setOff (p:=⟨w1.heap.size,0,none⟩) z1 _).setOff (p:=⟨w1.heap.size,1,none⟩) z1 _).setOff (p:=⟨w1.heap.size,2,none⟩) z1 _).setOff (p:=⟨w1.heap.size,3,none⟩) z1 _).setOff (p:=⟨w1.heap.size,4,none⟩) z1 _)
     (((((Hn.setOff (p:=⟨w1.heap.size,0,none⟩) z2 _).setOff (p:=⟨w1.heap.size,1,none⟩) z2 _).setOff (p:=⟨w1.heap.size,2,none⟩) z2 _).setOff (p:=⟨w1.heap.size,3,none⟩) z2 _).setOff (p:=⟨w1.heap.size,4,none⟩) z2 _)
     (fun k hk=>by have:=(FU k hk).2;simp;omega) (by simp) (by simp;omega) z1 z2 o_ bel_⟩
   ·have cM:Below (w.heap.size+1+1+1) (((w.alloc (.cells #[v0,v1,v2,v3,.slice A D.ss.length c] 30)).alloc (.cells z5_ 30)).alloc (.cells z5_ 30)) w2:=bel_
    have fi:=Blk.below (((Blk.newAt rfl).alloc _).alloc _) cM (show w.heap.size<_ by omega);have go:=Blk.below ((Blk.newAt (by simp)).alloc _) cM (show w.heap.size+1<_ by omega);have Nf:=Blk.below (Blk.newAt (by simp)) cM (show w.heap.size+1+1<_ by omega);have FU:∀k,zp (.slice An1 D.fn.length cn1) (.slice Al1 D.fl.length cl1) k->w.heap.size+1+1+1<=k/\k<w1.heap.size:=fun k hk=>by have:=Hj.lt k hk;simp at this;omega
    have CI:=Hn.lt;have z1:¬zp (.slice An1 D.fn.length cn1) (.slice Al1 D.fl.length cl1) (w.heap.size+1+1):=fun hk=>by have:=(FU _ hk).1;omega
    have z2:¬zp (.slice An2 D.nn.length cn2) (.slice Al2 D.nl.length cl2) (w.heap.size+1+1):=fun hk=>by have:=(CI _ hk).1;omega
    have n0:w.heap.size≠w.heap.size+1+1:=o_
    have n1:w.heap.size+1≠w.heap.size+1+1:=o_
    have gd:=Hj.kept Hh
    exact⟨_,rfl,V1 (((((fi.far (p:=⟨w.heap.size+1+1,0,none⟩) n0 _).far (p:=⟨w.heap.size+1+1,1,none⟩) n0 _).far (p:=⟨w.heap.size+1+1,2,none⟩) n0 _).far (p:=⟨w.heap.size+1+1,3,none⟩) n0 _).far (p:=⟨w.heap.size+1+1,4,none⟩) n0 _)
     (((((go.far (p:=⟨w.heap.size+1+1,0,none⟩) n1 _).far (p:=⟨w.heap.size+1+1,1,none⟩) n1 _).far (p:=⟨w.heap.size+1+1,2,none⟩) n1 _).far (p:=⟨w.heap.size+1+1,3,none⟩) n1 _).far (p:=⟨w.heap.size+1+1,4,none⟩) n1 _)
     (((((Nf.set_ 0 _).set_ 1 _).set_ 2 _).set_ 3 _).set_ 4 _)
     (((((gd.setOff (p:=⟨w.heap.size+1+1,0,none⟩) z1 _).setOff (p:=⟨w.heap.size+1+1,1,none⟩) z1 _).setOff (p:=⟨w.heap.size+1+1,2,none⟩) z1 _).setOff (p:=⟨w.heap.size+1+1,3,none⟩) z1 _).setOff (p:=⟨w.heap.size+1+1,4,none⟩) z1 _)
     (((((Hn.setOff (p:=⟨w.heap.size+1+1,0,none⟩) z2 _).setOff (p:=⟨w.heap.size+1+1,1,none⟩) z2 _).setOff (p:=⟨w.heap.size+1+1,2,none⟩) z2 _).setOff (p:=⟨w.heap.size+1+1,3,none⟩) z2 _).setOff (p:=⟨w.heap.size+1+1,4,none⟩) z2 _)
     (fun k hk=>(FU k hk).2) (by simp) o_ z1 z2 o_ bel_⟩
  case rest=>
   obtain⟨Z,rfl,bK⟩:=hcut;have HS:=h_ bK;clear bK;obtain⟨A0,c0,A1,c1,A2,c2,A3,c3,A4,c4,fs0,C8,F8,FS,hZ0,Gb,YG,FI⟩:=HS.out;obtain⟨x_0,x_1,x_2,x_3,x_4⟩:=F8.c5;clear C8 FS hZ0 YG
   go_wp2_with fail
   first|(go_loopw [4] (fun i wr=>∃k:Nat,k<=D.ss.length/\i= .int .i64 k/\Hid (CpSt w D v0 v1 v2 v3 (.slice A D.ss.length c) Z k wr)) (fun i _=>D.ss.length -(intOf i).toNat);(case atStart=>exact⟨0,aab _,rfl,HS⟩))|(go_loopw [16] (fun i wr=>∃k:Nat,k<=D.ss.length/\i= .int .i64 k/\Hid (CpSt w D v0 v1 v2 v3 (.slice A D.ss.length c) Z k wr)) (fun i _=>D.ss.length -(intOf i).toNat);(case atStart=>exact⟨0,aab _,rfl,HS⟩))
   case round=>
    obtain⟨k,hk,rfl,HT⟩:=hrel;clear HS F8 x_0 x_1 x_2 x_3 x_4 FI;clear A0 c0 A1 c1 A2 c2 A3 c3 A4 c4 fs0;obtain⟨A0,c0,A1,c1,A2,c2,A3,c3,A4,c4,fs,hO,hX,hR,hZ,Gb,YG,Hd⟩:=HT.out;clear HT
    have fK:fs.length=k:=by
     have:=congrArg List.length hO.map;simp at this
     omega
    subst fK;have gI:=Hd.size;have fW:=hZ.lt;have hXlt:=hX.lt;obtain⟨x_0,x_1,x_2,x_3,x_4⟩:=hX.c5
    by_cases Hf:fs.length<D.ss.length
    ·obtain⟨b,off,rfl,hb,Hz⟩:=hcell o_
     obtain⟨k0,k1,k2,vn,vl,k3,k4,hn,hl⟩:=Hz fs.length Hf;obtain⟨F9,gw⟩:=gf.out.ws fs.length Hf;obtain⟨Av,cv,ev,_⟩:=hn.form;obtain⟨Au,cu,eu,_⟩:=hl.form;subst ev eu;have q0:=(Hd.cell (p:=⟨b,off+fs.length*5,none⟩) hb).trans k0;have q1:=(Hd.cell (p:=⟨b,off+fs.length*5+1,none⟩) hb).trans k1;have q2:=(Hd.cell (p:=⟨b,off+fs.length*5+2,none⟩) hb).trans k2;have q3:=(Hd.cell (p:=⟨b,off+fs.length*5+3,none⟩) hb).trans k3;have q4:=(Hd.cell (p:=⟨b,off+fs.length*5+4,none⟩) hb).trans k4;have bQ:=h_ (hn.below Hd);have Gq:=h_ (hl.below Hd);have hsk:Hid (D.ss.take (fs.length+1)=D.ss.take fs.length++[D.ss[fs.length]]):=h_ (aax Hf);generalize D.ss[fs.length]=s at*;clear k0 k1 k2 k3 k4 Hz hcell hn hl;have HO:=h_ hO;have HX:=h_ hX;have HR:=h_ hR;have HZ:=h_ hZ;have Uo:=h_ YG;clear hO hX hR hZ YG
     go_wp2_with fail
     obtain⟨w2,rU⟩:∃w2,w2=wr.alloc (.cells #[.int .i64 s.k,.int .i64 s.a,.int .i64 s.b,.slice Av s.ns.length cv,.slice Au s.ls.length cu] 113):=⟨_,rfl⟩;rw[<-rU];have fV:Below wr.heap.size wr w2:=rU▸(aaj _ _).alloc (aaa _) _;have fT:Blk w2 wr.heap.size 113 #[.int .i64 s.k,.int .i64 s.a,.int .i64 s.b,.slice Av s.ns.length cv,.slice Au s.ls.length cu]:=rU▸Blk.newAt rfl;clear rU q0 q1 q2 q3 q4 x_0 x_1 x_2 x_3 x_4;have YH:=fT.lt;refine(Wn.out _ (by decide) _ _ s.ns s.ls _ (bQ.out.below fV) (Gq.out.below fV) F9 gw).mono ?_
     rintro e w3 ⟨An,cn,Al,cl,rfl,Hq,Hg⟩;have bo:Below wr.heap.size wr w3:=fV.trans (Hg.mono fV.size);have F5:=fT.below Hg YH;have GI:=HO.out.kept bo;have rV:=HO.out.lt;have gS:=HX.out.below bo hXlt;have Ga:=HR.out.below bo HR.out.lt;have Fh:=HZ.out.below bo fW;have He:=Hd.trans (bo.mono gI);have Hs:w.heap.size+1+1<=wr.heap.size:=o_
     have YI:=Hq.mono (show w.heap.size+1+1<=w2.heap.size from aai Hs fV.size);have gj:∀b,zp (.slice An s.ns.length cn) (.slice Al s.ls.length cl) b->wr.heap.size<b:=fun b hb=>by have:=(Hq.lt b hb).1;omega
     have hS3l:=F5.lt;have hnG:¬qE (.slice A0 D.fn.length c0) (.slice A1 D.fl.length c1) (.slice A2 D.nn.length c2) (.slice A3 D.nl.length c3) (.slice A4 fs.length c4) fs wr.heap.size:=fun hb=>by have:=(rV _ hb).2;omega
     have hnW:¬zp (.slice An s.ns.length cn) (.slice Al s.ls.length cl) wr.heap.size:=fun hb=>by have:=gj _ hb;omega
     have hnZ:¬zp (.slice An s.ns.length cn) (.slice Al s.ls.length cl) Z:=fun hb=>by have:=gj _ hb;omega
     have hHN:Hid (∀b,zp (.slice An s.ns.length cn) (.slice Al s.ls.length cl) b->¬qE (.slice A0 D.fn.length c0) (.slice A1 D.fl.length c1) (.slice A2 D.nn.length c2) (.slice A3 D.nl.length c3) (.slice A4 fs.length c4) fs b):=h_ (fun b hb gH=>by have:=gj b hb;have:=(rV b gH).2;omega);have rW:Hid (∀b,qE (.slice A0 D.fn.length c0) (.slice A1 D.fl.length c1) (.slice A2 D.nn.length c2) (.slice A3 D.nl.length c3) (.slice A4 fs.length c4) fs b->w.heap.size+1+1<=b):=h_ (fun b hb=>(rV b hb).1);have YJ:=h_ hnZ;have hZG:Z≠wr.heap.size:=o_
     have hXG:w.heap.size≠wr.heap.size:=o_
     have hRG:w.heap.size+1≠wr.heap.size:=o_
     obtain⟨w4,mm⟩:∃w4,w4=(w3.setCell ⟨wr.heap.size,3,none⟩ (.slice An s.ns.length cn)).setCell ⟨wr.heap.size,4,none⟩ (.slice Al s.ls.length cl):=⟨_,rfl⟩;have Mq:OwnD (w.heap.size+1+1) w4 _ _ _ _ _ _ fs:=mm▸(GI.setFar (p:=⟨wr.heap.size,3,none⟩) hnG _).setFar (p:=⟨wr.heap.size,4,none⟩) hnG _;have gz:OwnW (w.heap.size+1+1) w4 _ _ s.ns s.ls:=mm▸(YI.setOff (p:=⟨wr.heap.size,3,none⟩) hnW _).setOff (p:=⟨wr.heap.size,4,none⟩) hnW _;have G7:Blk w4 w.heap.size _ _:=mm▸(gS.far (p:=⟨wr.heap.size,3,none⟩) hXG _).far (p:=⟨wr.heap.size,4,none⟩) hXG _;have GY:Blk w4 (w.heap.size+1) _ _:=mm▸(Ga.far (p:=⟨wr.heap.size,3,none⟩) hRG _).far (p:=⟨wr.heap.size,4,none⟩) hRG _;have CL:Blk w4 Z _ _:=mm▸(Fh.far (p:=⟨wr.heap.size,3,none⟩) hZG _).far (p:=⟨wr.heap.size,4,none⟩) hZG _;have Ho:Below w.heap.size w w4:=mm▸(He.setCell (p:=⟨wr.heap.size,3,none⟩) (show w.heap.size<=wr.heap.size from gI) _).setCell (p:=⟨wr.heap.size,4,none⟩) (show w.heap.size<=wr.heap.size from gI) _;have Up:w4.heap.size=w3.heap.size:=by rw[mm];simp
     have Uq:=h_ (Mq.alloc (.cells #[.int .i64 s.k,.int .i64 s.a,.int .i64 s.b,.slice An s.ns.length cn,.slice Al s.ls.length cl] 113));have YK:=h_ (gz.alloc' (.cells #[.int .i64 s.k,.int .i64 s.a,.int .i64 s.b,.slice An s.ns.length cn,.slice Al s.ls.length cl] 113));have YL:=h_ (G7.alloc (.cells #[.int .i64 s.k,.int .i64 s.a,.int .i64 s.b,.slice An s.ns.length cn,.slice Al s.ls.length cl] 113));have YM:=h_ (GY.alloc (.cells #[.int .i64 s.k,.int .i64 s.a,.int .i64 s.b,.slice An s.ns.length cn,.slice Al s.ls.length cl] 113));have YO:=h_ (CL.alloc (.cells #[.int .i64 s.k,.int .i64 s.a,.int .i64 s.b,.slice An s.ns.length cn,.slice Al s.ls.length cl] 113));have hsE:(w4.alloc (.cells #[.int .i64 s.k,.int .i64 s.a,.int .i64 s.b,.slice An s.ns.length cn,.slice Al s.ls.length cl] 113)).heap.size =w3.heap.size+1:=by simp[Up]
     have BR:fs.length<=1048576:=by have:=gf.out.ss;omega
     have YP:Hid (∀(j:Nat) (u:Value),(sfc (s,.slice An s.ns.length cn,.slice Al s.ls.length cl))[j]? =some u->(w4.alloc (.cells #[.int .i64 s.k,.int .i64 s.a,.int .i64 s.b,.slice An s.ns.length cn,.slice Al s.ls.length cl] 113)).cell? ((⟨w3.heap.size,0,none⟩:Addr).add j)=some u):=h_ (JI Up.symm rfl);have Ur:=h_ (Ho.alloc Ho.size (.cells #[.int .i64 s.k,.int .i64 s.a,.int .i64 s.b,.slice An s.ns.length cn,.slice Al s.ls.length cl] 113));have Ng:w.heap.size+1+1<=(w4.alloc (.cells #[.int .i64 s.k,.int .i64 s.a,.int .i64 s.b,.slice An s.ns.length cn,.slice Al s.ls.length cl] 113)).heap.size :=by simp;omega
     obtain⟨s_0,s_1,s_2,s_3,s_4,s_f0,s_f1,s_f2,s_f3,s_f4⟩:=F5.b5;obtain⟨z_0,z_1,z_2,z_3,z_4⟩:=Fh.c5;have hz3l:=Fh.lt;clear Hg fT bQ Gq HO HX HR HZ Hd Hq YI GI gS Ga Fh bo fV He YH Mq gz G7 GY CL rV gj hnG hnW hnZ;clear Up;subst mm
     go_wp2_with (at_builtin;refine vU rfl _ _ _ rfl (w.heap.size+1+1) 113 i0 Tryz.underlying28 hi iz0 iz1 iz2 (.slice A4 fs.length c4) fs (s,.slice An s.ns.length cn,.slice Al s.ls.length cl) ⟨w3.heap.size,0,none⟩ 1 rfl rfl Uq.out.ss.row YP.out (z1j _ _ _ _ _ _ _ rfl rfl) BR Ng ?_)
     intro A5 c5 w5 hr5 Cb ha5;have Br:=Uq.out.snoc (f:=(s,.slice An s.ns.length cn,.slice Al s.ls.length cl)) (by rw[aaX];simpa using hr5) Cb (by rw[hsE];exact ha5) YK.out hHN.out;have Ca:=YL.out.grownR Cb (fun k hk e=>by have:=rW.out k (.inr (.inr (.inl hk)));omega);have fJ:=YM.out.grownR Cb (fun k hk e=>by have:=rW.out k (.inr (.inr (.inl hk)));omega);have M7:=YO.out.grownR Cb (fun k hk e=>Uo.out (e▸ .inr (.inr (.inl hk))));have gk:=Ur.out.grown Cb Ur.out.size (fun k hk=>by have:=rW.out k (.inr (.inr (.inl hk)));omega)
     have Us:¬qE (.slice A0 D.fn.length c0) (.slice A1 D.fl.length c1) (.slice A2 D.nn.length c2) (.slice A3 D.nl.length c3) (.slice A5 (fs.length+1) c5) (fs++[(s,.slice An s.ns.length cn,.slice Al s.ls.length cl)]) Z:=by
      intro hz
      rcases X6 ha5 hz with h1|h1|h1
      ·exact Uo.out h1
      ·omega
      ·exact YJ.out h1
     have bG:=Br.setFar (p:=⟨Z,4,none⟩) Us (.slice A5 (fs.length+1) c5)
     have Bo:OwnD (w.heap.size+1+1) (w5.setCell ⟨Z,4,none⟩ (.slice A5 (fs.length+1) c5)) (.slice A0 D.fn.length c0) (.slice A1 D.fl.length c1) (.slice A2 D.nn.length c2) (.slice A3 D.nl.length c3) (.slice A5 (fs.length+1) c5) ⟨D.fn,D.fl,D.nn,D.nl,D.ss.take (fs.length+1)⟩ (fs++[(s,.slice An s.ns.length cn,.slice Al s.ls.length cl)]):=by
      rw[hsk.out];exact bG
     have Un:Hid (CpSt w D v0 v1 v2 v3 (.slice (some ⟨b,off,none⟩) D.ss.length c) Z (fs.length+1) (w5.setCell ⟨Z,4,none⟩ (.slice A5 (fs.length+1) c5))):=
      h_ ⟨A0,c0,A1,c1,A2,c2,A3,c3,A5,c5,_,Bo,Ca.far (p:=⟨Z,4,none⟩) (by show _≠Z;omega) _,fJ.far (p:=⟨Z,4,none⟩) (by show _≠Z;omega) _,M7.set_ 4 _,Gb,Us,gk.setCell (p:=⟨Z,4,none⟩) (by show w.heap.size<=Z;omega) _⟩
     obtain⟨y_0,y_1,y_2,y_3,y_4,y_f0,y_f1,y_f2,y_f3,y_f4⟩:=M7.b5;clear Br bG Bo Ca fJ M7 gk Us hr5 Cb ha5 Uq YK YL YM YO YP Ur hHN rW YJ Uo hsk s_0 s_1 s_2 s_3 s_4 s_f0 s_f1 s_f2 s_f3 s_f4 z_0 z_1 z_2 z_3 z_4;go_wp2;go_roundw
     case rel=>exact⟨fs.length+1,by omega,by go_num,Un⟩
     case measure=>simp[intOf];omega
    ·have gn:fs.length=D.ss.length:=o_
     have hO':OwnD (w.heap.size+1+1) wr (.slice A0 D.fn.length c0) (.slice A1 D.fl.length c1) (.slice A2 D.nn.length c2) (.slice A3 D.nl.length c3) (.slice A4 D.ss.length c4) D fs:=by
      have:=hO;rw[gn,aaA] at this;exact this
     rw[gn] at hZ;obtain⟨z_0,z_1,z_2,z_3,z_4⟩:=hZ.c5;obtain⟨r_0,r_1,r_2,r_3,r_4,r_f0,r_f1,r_f2,r_f3,r_f4⟩:=hR.b5;have Hl:=hR.lt;have Cw:∀k,qE (.slice A0 D.fn.length c0) (.slice A1 D.fl.length c1) (.slice A2 D.nn.length c2) (.slice A3 D.nl.length c3) (.slice A4 D.ss.length c4) fs k->w.heap.size+1<k:=fun k hk=>(hO'.lt k hk).1
     have step:∀(W:World) (j:Nat) (u:Value),OwnD w.heap.size W (.slice A0 D.fn.length c0) (.slice A1 D.fl.length c1) (.slice A2 D.nn.length c2) (.slice A3 D.nl.length c3) (.slice A4 D.ss.length c4) D fs->OwnD w.heap.size (W.setCell ⟨w.heap.size+1,j,none⟩ u) (.slice A0 D.fn.length c0) (.slice A1 D.fl.length c1) (.slice A2 D.nn.length c2) (.slice A3 D.nl.length c3) (.slice A4 D.ss.length c4) D fs:=
      fun W j u hW=>hW.setFar (p:=⟨w.heap.size+1,j,none⟩) (fun hk=>by have h2:w.heap.size+1<w.heap.size+1:=Cw _ hk;omega) u
     have HH:∀u0 u1 u2 u3 u4,Hid (OwnD w.heap.size (((((wr.setCell ⟨w.heap.size+1,0,none⟩ u0).setCell ⟨w.heap.size+1,1,none⟩ u1).setCell ⟨w.heap.size+1,2,none⟩ u2).setCell ⟨w.heap.size+1,3,none⟩ u3).setCell ⟨w.heap.size+1,4,none⟩ u4) (.slice A0 D.fn.length c0) (.slice A1 D.fl.length c1) (.slice A2 D.nn.length c2) (.slice A3 D.nl.length c3) (.slice A4 D.ss.length c4) D fs):=fun u0 u1 u2 u3 u4=>
      h_ (step _ _ _ (step _ _ _ (step _ _ _ (step _ _ _ (step _ _ _ (hO'.mono o_))))))
     have HB:∀u0 u1 u2 u3 u4,Hid (Below w.heap.size w (((((wr.setCell ⟨w.heap.size+1,0,none⟩ u0).setCell ⟨w.heap.size+1,1,none⟩ u1).setCell ⟨w.heap.size+1,2,none⟩ u2).setCell ⟨w.heap.size+1,3,none⟩ u3).setCell ⟨w.heap.size+1,4,none⟩ u4)):=fun u0 u1 u2 u3 u4=>h_
      (((((Hd.setCell (p:=⟨w.heap.size+1,0,none⟩) sz_ u0).setCell (p:=⟨w.heap.size+1,1,none⟩) sz_ u1).setCell (p:=⟨w.heap.size+1,2,none⟩) sz_ u2).setCell (p:=⟨w.heap.size+1,3,none⟩) sz_ u3).setCell (p:=⟨w.heap.size+1,4,none⟩) sz_ u4)
     clear hO hO' Cw step hcell Hd hX hZ hR YG;go_wp2;exact bodyPost_ret (v:= .agg #[.slice A0 D.fn.length c0,.slice A1 D.fl.length c1,.slice A2 D.nn.length c2,.slice A3 D.nl.length c3,.slice A4 D.ss.length c4]) (by simp[results,Tryz.results135,Tryz.results80,go_sem,r_0,r_1,r_2,r_3,r_4,Hl]) rfl ⟨_,_,_,_,_,_,_,_,_,_,fs,rfl,(HH _ _ _ _ _).out,(HB _ _ _ _ _).out⟩
theorem QM (v0 v1 v2 v3 v4:Value) (D:Dr) (w:World) (h:RD w v0 v1 v2 v3 v4 D) (hle:DrLe D):
  Calls Tryz.prog 135 #[.agg #[v0,v1,v2,v3,v4]] w (RetD D w):=z0p _ (.inl rfl) _ _ _ _ _ D w h hle
theorem kY (v0 v1 v2 v3 v4:Value) (D:Dr) (w:World) (h:RD w v0 v1 v2 v3 v4 D) (hle:DrLe D):
  Calls Tryz.prog 80 #[.agg #[v0,v1,v2,v3,v4]] w (RetD D w):=z0p _ (.inr rfl) _ _ _ _ _ D w h hle
end Go.Proofs.YtnjcpljhmhdhkaaGreat
