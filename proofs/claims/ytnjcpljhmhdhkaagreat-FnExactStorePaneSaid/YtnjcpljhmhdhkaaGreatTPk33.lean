/- part 33 -/
import Derived.Test.YtnjcpljhmhdhkaaGreatTPk32
set_option linter.unusedSimpArgs false
set_option linter.unusedVariables false
set_option maxRecDepth 100000
set_option maxHeartbeats 8000000
namespace Go.Proofs.YtnjcpljhmhdhkaaGreat
open Go.RowKit
theorem RF.get {w:World} {v:Value} {F:List (List Nat)} (h:RF w v F):∃A c,v= .slice A F.length c∧F.length≤c∧F.length≤maxLen∧(0<F.length→∃b off,A=some ⟨b,off,none⟩∧b<w.heap.size∧∀k,k<F.length→∃u,w.cell? ⟨b,off+k,none⟩=some u∧RI w u (natI (F.getD k []))):=by
 obtain⟨vs,h1,h2⟩:=h;obtain⟨A,c,e1,e2,e3,e4⟩:=h1.get;refine⟨A,c,e1,e2,e3,fun hn=>?_⟩
 obtain⟨b,off,g1,g2,g3⟩:=e4 hn;exact⟨b,off,g1,g2,fun k hk=>⟨_,g3 k hk,h2 k hk⟩⟩
theorem ZF (ns ls:List Pr) (f:List Nat) (k:Nat):jH ns ls f (k+1)=jH ns ls f k+jP ns ls (f.getD k 0):=rfl
theorem z0K (vn vl u:Value) (ns ls:List Pr) (f:List Nat) (w:World) (hn:RP w vn ns) (hl:RP w vl ls) (hu:RI w u (natI f)) (hf:∀e∈f,e<2*ls.length) (hfl:f.length≤40) (hwin:q7 ns ls):
  Calls Tryz.prog 209 #[.agg #[vn,vl],u] w fun e w'=>e= .returned (.int .i64 (yj ns ls f))∧Below w.heap.size w w':=by
 have hm20:=hwin.2.2.1;have hld:∀j:Nat,j<ls.length→zj ns (ndI ls j)=true:=fun j hj=>(hwin.2.2.2.2.2 j hj).1
 obtain⟨An,cn,rfl,hcn,hmn,hcelln⟩:=hn.formI;obtain⟨bn,offn,rfl,hbn,hcc⟩:=hcelln (by have:=hwin.1;omega);obtain⟨Au,cu,rfl,hcu,hmu,hcellu⟩:=hu.form;rw[zc] at hcu hmu hcellu hu⊢;unfold maxLen at hmn hmu;have HBD:=Lib.hid (fun k hk=>J9 hwin hf k hk);have HTO:=Lib.hid (fun d (hd:d<2*ls.length)=>jh hld hd);have HFR:=Lib.hid (fun d (hd:d<2*ls.length)=>qh hld hd);have HND:=Lib.hid (fun t ht=>jn hwin.2.2.2.1 t ht);have HAS:=Lib.hid (ZF ns ls f);have HA0:Hid (jH ns ls f 0=0):=Lib.hid rfl;have HCC:=Lib.hid hcc;have HCU:=Lib.hid hcellu;have HTX:=Lib.hid (fun (e:Nat) (he:e<2*ls.length)=>vQ e (by omega));have HFM:=Lib.hid hf;clear hcelln hcc hcellu hwin hld hf
 go_enter Tryz.func209,Tryz.ntmps209
 go_wp2
 go_loopw [5,12] (fun n x wr=>∃k:Nat,k≤f.length∧x= .int .i64 k∧n= .int .i64 (jH ns ls f k)∧Blk wr w.heap.size 27 #[.slice (some ⟨bn,offn,none⟩) ns.length cn,vl]∧Below w.heap.size w wr) (fun _ x _=>f.length -(intOf x).toNat)
 case atStart=>exact⟨0,Nat.zero_le _,rfl,by rw[HA0.out],Blk.newAt rfl,by exact bel_⟩
 case round=>
  obtain⟨k,hk,rfl,rfl,hW,hbl⟩:=hrel;have hsz:=hW.lt
  by_cases hlt:k<f.length
  ·have hlt1:(k:Int)<(f.length:Int):=by omega
   have ik1:(0:Int)≤(k:Int):=by omega
   obtain⟨b4,off4,rfl,hb4,hcl4⟩:=HCU.out (by omega);have hx0:=hcl4 k hlt;rw[qQ] at hx0;have hx:=(hbl.cell (p:=⟨b4,off4+k,none⟩) hb4).trans hx0;have hem:f.getD k 0<2*ls.length:=HFM.out _ (by rw[List.getD,List.getElem?_eq_getElem hlt];exact List.getElem_mem hlt);have HSU:=Lib.hid (HAS.out k);have hbd:=HBD.out k hk;generalize f.getD k 0=d at*;obtain⟨u,hu',hun⟩:=HTO.out d hem;obtain⟨t,ht',htn⟩:=HFR.out d hem;obtain⟨a_0,a_1⟩:=hW.c2;have X2:=Lib.hid (HTX.out d hem);have hpt:=jw hem;have U0:=j5 ls d;rw[hu'] at U0;obtain⟨t0,t1⟩:=HCC.out t htn;obtain⟨u0,u1⟩:=HCC.out u hun;have HS0:Hid (∀v:World,Below wr.heap.size wr v→v.cell? ⟨w.heap.size,0,none⟩=some (.slice (some ⟨bn,offn,none⟩) ns.length cn)∧v.cell? ⟨w.heap.size,1,none⟩=some vl):=Lib.hid (fun v hv=>⟨(hv.cell (p:=⟨w.heap.size,0,none⟩) hsz).trans a_0,(hv.cell (p:=⟨w.heap.size,1,none⟩) hsz).trans a_1⟩)
   go_wp2_with fail
   refine xO (n:=18) (S:=fun v=>v.cell? ⟨w.heap.size,0,none⟩=some (.slice (some ⟨bn,offn,none⟩) ns.length cn)∧v.cell? ⟨w.heap.size,1,none⟩=some vl) (by kernel_rfl) (HS0.out _ (Below.refl _ _).drew) (fun hS=>?_)
   (refine zq (i:=0) (v:=?_) rfl rfl (by kernel_rfl) (by kernel_rfl) (by kernel_rfl) (by kernel_rfl) (by kernel_rfl) (fun _ _ _ h=>h) (Or.inl ⟨by rfl,?_⟩) (by assumption) ?_);rotate_left;(focus (intro w' hSw;(try dsimp only at hSw);go_simp;(try with_reducible rfl)));(try simp only[Act.put,List.setIfInBounds_toArray,List.set_cons_zero,List.set_cons_succ])
   (refine zq (i:=1) (v:=?_) rfl rfl (by kernel_rfl) (by kernel_rfl) (by kernel_rfl) (by kernel_rfl) (by kernel_rfl) (fun _ _ _ h=>h) (Or.inl ⟨by rfl,?_⟩) (by assumption) ?_);rotate_left;(focus (intro w' hSw;(try dsimp only at hSw);go_simp;(try with_reducible rfl)));(try simp only[Act.put,List.setIfInBounds_toArray,List.set_cons_zero,List.set_cons_succ])
   (refine zq (i:=2) (v:=?_) rfl rfl (by kernel_rfl) (by kernel_rfl) (by kernel_rfl) (by kernel_rfl) (by kernel_rfl) (fun _ _ _ h=>h) (Or.inl ⟨by rfl,?_⟩) (by assumption) ?_);rotate_left;(focus (intro w' hSw;(try dsimp only at hSw);go_simp;(try with_reducible rfl)));(try simp only[Act.put,List.setIfInBounds_toArray,List.set_cons_zero,List.set_cons_succ])
   (refine zq (i:=3) (v:=?_) rfl rfl (by kernel_rfl) (by kernel_rfl) (by kernel_rfl) (by kernel_rfl) (by kernel_rfl) (fun _ _ _ h=>h) (Or.inl ⟨by rfl,?_⟩) (by assumption) ?_);rotate_left;(focus (intro w' hSw;(try dsimp only at hSw);go_simp;(try with_reducible rfl)));(try simp only[Act.put,List.setIfInBounds_toArray,List.set_cons_zero,List.set_cons_succ])
   (refine zq (i:=7) (v:=?_) rfl rfl (by kernel_rfl) (by kernel_rfl) (by kernel_rfl) (by kernel_rfl) (by kernel_rfl) (fun _ _ _ h=>h) (Or.inl ⟨by rfl,?_⟩) (by assumption) ?_);rotate_left;(focus (intro w' hSw;(try dsimp only at hSw);go_simp;(try with_reducible rfl)));(try simp only[Act.put,List.setIfInBounds_toArray,List.set_cons_zero,List.set_cons_succ])
   (refine zq (i:=8) (v:=?_) rfl rfl (by kernel_rfl) (by kernel_rfl) (by kernel_rfl) (by kernel_rfl) (by kernel_rfl) (fun _ _ _ h=>h) (Or.inl ⟨by rfl,?_⟩) (by assumption) ?_);rotate_left;(focus (intro w' hSw;(try dsimp only at hSw);go_simp;(try with_reducible rfl)));(try simp only[Act.put,List.setIfInBounds_toArray,List.set_cons_zero,List.set_cons_succ])
   (refine zq (i:=9) (v:=?_) rfl rfl (by kernel_rfl) (by kernel_rfl) (by kernel_rfl) (by kernel_rfl) (by kernel_rfl) (fun _ _ _ h=>h) (Or.inl ⟨by rfl,?_⟩) (by assumption) ?_);rotate_left;(focus (intro w' hSw;(try dsimp only at hSw);go_simp;(try with_reducible rfl)));(try simp only[Act.put,List.setIfInBounds_toArray,List.set_cons_zero,List.set_cons_succ])
   (refine zq (i:=10) (v:=?_) rfl rfl (by kernel_rfl) (by kernel_rfl) (by kernel_rfl) (by kernel_rfl) (by kernel_rfl) (fun _ _ _ h=>h) (Or.inl ⟨by rfl,?_⟩) (by assumption) ?_);rotate_left;(focus (intro w' hSw;(try dsimp only at hSw);go_simp;(try with_reducible rfl)));(try simp only[Act.put,List.setIfInBounds_toArray,List.set_cons_zero,List.set_cons_succ])
   (refine zq (i:=11) (v:=?_) rfl rfl (by kernel_rfl) (by kernel_rfl) (by kernel_rfl) (by kernel_rfl) (by kernel_rfl) (fun _ _ _ h=>h) (Or.inl ⟨by rfl,?_⟩) (by assumption) ?_);rotate_left;(focus (intro w' hSw;(try dsimp only at hSw);go_simp;(try with_reducible rfl)));(try simp only[Act.put,List.setIfInBounds_toArray,List.set_cons_zero,List.set_cons_succ])
   rw[X2.out];have HC:=Lib.hid (fun (v:World) (hb:Below wr.heap.size wr v)=>jW (.slice (some ⟨bn,offn,none⟩) ns.length cn) vl ls d v (hl.below (hbl.trans (hb.mono hbl.size))) hem);have HD:=Lib.hid (fun (v:World) (hb:Below wr.heap.size wr v)=>jW (.slice (some ⟨bn,offn,none⟩) ns.length cn) vl ls (twin d) v (hl.below (hbl.trans (hb.mono hbl.size))) hpt);rw[ht'] at HC;rw[U0] at HD;have hbn2:bn<wr.heap.size:=Nat.lt_of_lt_of_le hbn hbl.size;have HT:Hid (∀v:World,Below wr.heap.size wr v→v.cell? ⟨bn,offn+t*2,none⟩=some (.int .i64 (ndI ns t).1)∧v.cell? ⟨bn,offn+t*2+1,none⟩=some (.int .i64 (ndI ns t).2)):=Lib.hid (fun v hv=>⟨(hv.cell (p:=⟨bn,offn+t*2,none⟩) hbn2).trans ((hbl.cell (p:=⟨bn,offn+t*2,none⟩) hbn).trans t0),(hv.cell (p:=⟨bn,offn+t*2+1,none⟩) hbn2).trans ((hbl.cell (p:=⟨bn,offn+t*2+1,none⟩) hbn).trans t1)⟩);have HU:Hid (∀v:World,Below wr.heap.size wr v→v.cell? ⟨bn,offn+u*2,none⟩=some (.int .i64 (ndI ns u).1)∧v.cell? ⟨bn,offn+u*2+1,none⟩=some (.int .i64 (ndI ns u).2)):=Lib.hid (fun v hv=>⟨(hv.cell (p:=⟨bn,offn+u*2,none⟩) hbn2).trans ((hbl.cell (p:=⟨bn,offn+u*2,none⟩) hbn).trans u0),(hv.cell (p:=⟨bn,offn+u*2+1,none⟩) hbn2).trans ((hbl.cell (p:=⟨bn,offn+u*2+1,none⟩) hbn).trans u1)⟩);have HS:Hid (∀v:World,Below wr.heap.size wr v→v.cell? ⟨w.heap.size,0,none⟩=some (.slice (some ⟨bn,offn,none⟩) ns.length cn)∧v.cell? ⟨w.heap.size,1,none⟩=some vl):=HS0
   have HCR:Hid (jP ns ls d=(ndI ns t).1*(ndI ns u).2 -(ndI ns t).2*(ndI ns u).1):=Lib.hid (by unfold jP;rw[ht',hu']);obtain⟨p0,p1,p2,p3⟩:=zr (HND.out t htn);obtain⟨q0,q1,q2,q3⟩:=zr (HND.out u hun);have it1:(0:Int)≤(t:Int):=by omega
   have it2:(t:Int)<(ns.length:Int):=by omega
   have iu1:(0:Int)≤(u:Int):=by omega
   have iu2:(u:Int)<(ns.length:Int):=by omega
   generalize twin d=pe at*;clear HS0 t0 t1 u0 u1 ht' hu' U0
   refine z22 (n:=18) (Inv:=fun L a v=>∃v8 v9 v20 v21 v22 v28 v29 v30,a= {
     tmps:= #[.agg #[.slice (some ⟨bn,offn,none⟩) ns.length cn,vl],.slice (some ⟨b4,off4,none⟩) f.length cu,.pointer (some ⟨w.heap.size,0,none⟩),undef,.int .i64 0,.int .i64 (jH ns ls f k),undef,.int .i64 d,v8,v9,
      .slice (some ⟨b4,off4,none⟩) f.length cu,.int .i64 f.length,.int .i64 k,.bool true,.pointer (some ⟨b4,off4+k,none⟩),.int .i64 d,.pointer (some ⟨w.heap.size,0,none⟩),.slice (some ⟨bn,offn,none⟩) ns.length cn,.agg #[.slice (some ⟨bn,offn,none⟩) ns.length cn,vl],.int .i64 d,v20,v21,v22,
      .pointer (some ⟨w.heap.size,0,none⟩),.slice (some ⟨bn,offn,none⟩) ns.length cn,.agg #[.slice (some ⟨bn,offn,none⟩) ns.length cn,vl],.int .i64 d,.int .i64 pe,v28,v29,v30,
      u31,u32,u33,u34,u35,u36,u37,u38,u39,u40,u41,u42,u43,u44,undef],defers:=[] }∧
     Below wr.heap.size wr v∧(∀j∈ [0,1,2,3,7,8,9,10,11],tk L j=true)∧
     Aft L 4 (v20= .int .i64 t)∧Aft L 5 (v21= .pointer (some ⟨bn,offn+t*2,none⟩))∧Aft L 6 (v22= .agg #[.int .i64 (ndI ns t).1,.int .i64 (ndI ns t).2])∧
     Aft L 12 (v28= .int .i64 u)∧Aft L 13 (v29= .pointer (some ⟨bn,offn+u*2,none⟩))∧Aft L 14 (v30= .agg #[.int .i64 (ndI ns u).1,.int .i64 (ndI ns u).2])∧
     One L 15 17 wr.heap.size 106 #[.int .i64 0,.int .i64 0] #[.int .i64 (ndI ns t).1,.int .i64 (ndI ns t).2] v8 v∧
     One L 16 18 wr.heap.size 106 #[.int .i64 0,.int .i64 0] #[.int .i64 (ndI ns u).1,.int .i64 (ndI ns u).2] v9 v∧
     Apart2 L 15 16 v8 v9) (by decide) (by kernel_rfl) (by kernel_rfl) ?_ ?_ 10 _ _ _ rfl ?_ (by kernel_rfl) ?_
   ·intro L a v hI i hi hr
    obtain⟨v8,v9,v20,v21,v22,v28,v29,v30,rfl,hb,hpre,f4,f5,f6,f12,f13,f14,o8,o9,p89⟩:=hI;have hun:=ZA hr;have hsv:=HS.out v hb
    rcases(show i=4∨i=5∨i=6∨i=12∨i=13∨i=14∨i=15∨i=16∨i=17∨i∈ [0,1,2,3,7,8,9,10,11] by simp only[List.mem_cons,List.mem_nil_iff,or_false];omega) with rfl|rfl|rfl|rfl|rfl|rfl|rfl|rfl|rfl|hm
    ·--4
     refine qj rfl (fun K hK=>?_)
     rw[if_pos (by rfl)];go_simp
     go_at_call 241
     refine(HC.out _ hb).mono ?_
     rintro en w1 ⟨rfl,hb1⟩
     go_wp2_with fail
     have hbw:=hb.trans (hb1.mono hb.size);exact⟨HS.out _ hbw,_,_,_,_,_,_,_,_,rfl,hbw,preS hpre,Aft.new rfl,f5.keep (by decide),f6.keep (by decide),f12.keep (by decide),f13.keep (by decide),f14.keep (by decide),o8.step (by decide) (by decide) hb1,o9.step (by decide) (by decide) hb1,p89.step (by decide) (by decide)⟩
    ·--5
     obtain rfl:=f4 (qq hr rfl (by kernel_rfl));refine qj rfl (fun K hK=>?_)
     rw[if_pos (by rfl)];go_simp;exact hK _ _ ⟨hsv,_,_,_,_,_,_,_,_,rfl,hb,preS hpre,f4.keep (by decide),Aft.new rfl,f6.keep (by decide),f12.keep (by decide),f13.keep (by decide),f14.keep (by decide),o8.step (by decide) (by decide) (Below.refl _ _),o9.step (by decide) (by decide) (Below.refl _ _),p89.step (by decide) (by decide)⟩
    ·--6
     obtain rfl:=f5 (qq hr rfl (by kernel_rfl));obtain⟨c0,c1⟩:=HT.out v hb;refine qj rfl (fun K hK=>?_)
     rw[if_pos (by rfl)];go_simp;exact hK _ _ ⟨hsv,_,_,_,_,_,_,_,_,rfl,hb,preS hpre,f4.keep (by decide),f5.keep (by decide),Aft.new rfl,f12.keep (by decide),f13.keep (by decide),f14.keep (by decide),o8.step (by decide) (by decide) (Below.refl _ _),o9.step (by decide) (by decide) (Below.refl _ _),p89.step (by decide) (by decide)⟩
    ·--12
     refine qj rfl (fun K hK=>?_)
     rw[if_pos (by rfl)];go_simp
     go_at_call 241
     refine(HD.out _ hb).mono ?_
     rintro en w1 ⟨rfl,hb1⟩
     go_wp2_with fail
     have hbw:=hb.trans (hb1.mono hb.size);exact⟨HS.out _ hbw,_,_,_,_,_,_,_,_,rfl,hbw,preS hpre,f4.keep (by decide),f5.keep (by decide),f6.keep (by decide),Aft.new rfl,f13.keep (by decide),f14.keep (by decide),o8.step (by decide) (by decide) hb1,o9.step (by decide) (by decide) hb1,p89.step (by decide) (by decide)⟩
    ·--13
     obtain rfl:=f12 (qq hr rfl (by kernel_rfl));refine qj rfl (fun K hK=>?_)
     rw[if_pos (by rfl)];go_simp;exact hK _ _ ⟨hsv,_,_,_,_,_,_,_,_,rfl,hb,preS hpre,f4.keep (by decide),f5.keep (by decide),f6.keep (by decide),f12.keep (by decide),Aft.new rfl,f14.keep (by decide),o8.step (by decide) (by decide) (Below.refl _ _),o9.step (by decide) (by decide) (Below.refl _ _),p89.step (by decide) (by decide)⟩
    ·--14
     obtain rfl:=f13 (qq hr rfl (by kernel_rfl));obtain⟨c0,c1⟩:=HU.out v hb;refine qj rfl (fun K hK=>?_)
     rw[if_pos (by rfl)];go_simp;exact hK _ _ ⟨hsv,_,_,_,_,_,_,_,_,rfl,hb,preS hpre,f4.keep (by decide),f5.keep (by decide),f6.keep (by decide),f12.keep (by decide),f13.keep (by decide),Aft.new rfl,o8.step (by decide) (by decide) (Below.refl _ _),o9.step (by decide) (by decide) (Below.refl _ _),p89.step (by decide) (by decide)⟩
    ·--15
     refine qj rfl (fun K hK=>?_)
     rw[if_pos (by rfl)];go_simp;have hb1:Below v.heap.size v (v.alloc (.cells #[.int .i64 0,.int .i64 0] 106)):=(Below.refl _ _).alloc (Nat.le_refl _) _;have hbw:=hb.trans (hb1.mono hb.size);exact hK _ _ ⟨HS.out _ hbw,_,_,_,_,_,_,_,_,rfl,hbw,preS hpre,f4.keep (by decide),f5.keep (by decide),f6.keep (by decide),f12.keep (by decide),f13.keep (by decide),f14.keep (by decide),o8.lay hun (by decide) hb.size,o9.step (by decide) (by decide) hb1,Apart2.newL o9 (by decide)⟩
    ·--16
     refine qj rfl (fun K hK=>?_)
     rw[if_pos (by rfl)];go_simp;have hb1:Below v.heap.size v (v.alloc (.cells #[.int .i64 0,.int .i64 0] 106)):=(Below.refl _ _).alloc (Nat.le_refl _) _;have hbw:=hb.trans (hb1.mono hb.size);exact hK _ _ ⟨HS.out _ hbw,_,_,_,_,_,_,_,_,rfl,hbw,preS hpre,f4.keep (by decide),f5.keep (by decide),f6.keep (by decide),f12.keep (by decide),f13.keep (by decide),f14.keep (by decide),o8.step (by decide) (by decide) hb1,o9.lay hun (by decide) hb.size,Apart2.newR o8 (by decide)⟩
    ·--17
     have h15:=qq (j:=15) hr rfl (by kernel_rfl);obtain⟨g,rfl,hg,hB⟩:=o8.zero h15 hun;obtain rfl:=f6 (qq hr rfl (by kernel_rfl));obtain⟨b_0,b_1,b_f0,b_f1⟩:=hB.b2;refine qj rfl (fun K hK=>?_)
     rw[if_pos (by rfl)];go_simp;have hbw:=(hb.setCell (p:=⟨g,0,none⟩) hg (.int .i64 (ndI ns t).1)).setCell (p:=⟨g,1,none⟩) hg (.int .i64 (ndI ns t).2);exact hK _ _ ⟨HS.out _ hbw,_,_,_,_,_,_,_,_,rfl,hbw,preS hpre,f4.keep (by decide),f5.keep (by decide),f6.keep (by decide),f12.keep (by decide),f13.keep (by decide),f14.keep (by decide),o8.fill h15 hun rfl (by decide),o9.far (by decide) (by decide) (fun h=>(p89 h15 h).symm) 0 1 _ _,p89.step (by decide) (by decide)⟩
    ·rw[hpre i hm] at hun;cases hun
   ·intro a v hI
    obtain⟨v8,v9,v20,v21,v22,v28,v29,v30,rfl,hb,hpre,f4,f5,f6,f12,f13,f14,o8,o9,p89⟩:=hI;obtain rfl:=f14 (by kernel_rfl);obtain⟨g9,rfl,hg9,hB⟩:=o9.zero (by kernel_rfl) (by kernel_rfl);obtain⟨g8,rfl,hg8,hB8⟩:=o8.full (by kernel_rfl);have n8:g8≠g9:=fun h=>p89 (by kernel_rfl) (by kernel_rfl) (by rw[h])
    obtain⟨b_0,b_1,b_f0,b_f1⟩:=hB.b2;refine yW (fuel:=0) (n:=18) (i:=18) rfl (by kernel_rfl) (fun K hK=>?_)
    rw[if_pos (by rfl)];go_simp;refine hK _ _ (fun h=>absurd h (by decide)) (fun _=>?_)
    clear hK K;refine VJ (by kernel_rfl) ?_ _
    have hbw:=(hb.setCell (p:=⟨g9,0,none⟩) hg9 (.int .i64 (ndI ns u).1)).setCell (p:=⟨g9,1,none⟩) hg9 (.int .i64 (ndI ns u).2)
    have hB9:Blk ((v.setCell ⟨g9,0,none⟩ (.int .i64 (ndI ns u).1)).setCell ⟨g9,1,none⟩ (.int .i64 (ndI ns u).2)) g9 106 #[.int .i64 (ndI ns u).1,.int .i64 (ndI ns u).2]:=by
     have:=(hB.set_ 0 (.int .i64 (ndI ns u).1)).set_ 1 (.int .i64 (ndI ns u).2)
     simpa using this
    have hB8':=(hB8.far (p:=⟨g9,0,none⟩) n8 (.int .i64 (ndI ns u).1)).far (p:=⟨g9,1,none⟩) n8 (.int .i64 (ndI ns u).2);generalize ((v.setCell ⟨g9,0,none⟩ (.int .i64 (ndI ns u).1)).setCell ⟨g9,1,none⟩ (.int .i64 (ndI ns u).2))=w3 at*;have hWW:=hW.below hbw hsz;have hbb:=hbl.trans (hbw.mono hbl.size);clear hB hB8 b_0 b_1 b_f0 b_f1 hb o8 o9 p89 f4 f5 f6 f12 f13 f14 hpre HC HD HT HU HS hW hbl hS a_0 a_1;obtain⟨c_0,c_1,c_f0,c_f1⟩:=hB8'.b2;obtain⟨e_0,e_1,e_f0,e_f1⟩:=hB9.b2;generalize (ndI ns t).1=X at*;generalize (ndI ns t).2=Y at*;generalize (ndI ns u).1=U at*;generalize (ndI ns u).2=V at*;have m1:=yV (u:=X) (v:=V) (by omega) (by omega) (by omega) (by omega);have m2:=yV (u:=Y) (v:=U) (by omega) (by omega) (by omega) (by omega);obtain⟨m1a,m1b⟩:=m1;obtain⟨m2a,m2b⟩:=m2;obtain⟨ba,bb⟩:=hbd;go_wp2;go_roundw
    case rel=>
     have hrl:∃k':Nat,k'≤f.length∧Value.int .i64 ((k:Int)+1)= .int .i64 k'∧Value.int .i64 (jH ns ls f k+(X*V -Y*U))= .int .i64 (jH ns ls f k')∧Blk w3 w.heap.size 27 #[.slice (some ⟨bn,offn,none⟩) ns.length cn,vl]∧Below w.heap.size w w3:=⟨k+1,by omega,by go_num,by rw[HSU.out,HCR.out],hWW,hbb⟩
     first|exact hrl|((repeat apply Exists.intro);exact⟨hrl,rfl⟩)
    case measure=>simp[intOf];omega
   ·intro j h1 h2
    have:j=18:=by
     have h3:j<19:=h2;omega
    subst this;rfl
   ·refine⟨_,_,_,_,_,_,_,_,rfl,(Below.refl _ _).drew,by decide,Aft.no rfl,Aft.no rfl,Aft.no rfl,Aft.no rfl,Aft.no rfl,Aft.no rfl,One.start rfl rfl,One.start rfl rfl,Apart2.start rfl⟩
  ·have hkk:k=f.length:=by omega
   subst hkk;have HR:Hid (yj ns ls f=jH ns ls f f.length):=Lib.hid rfl;go_wp2;go_ret
   exact⟨ze HR.out.symm,hbl⟩
attribute [local go_sem ↓] zY zZ
theorem z0E (vn vl u:Value) (ns ls:List Pr) (f:List Nat) (w:World) (hn:RP w vn ns) (hl:RP w vl ls) (hu:RI w u (natI f)) (hf:∀e∈f,e<2*ls.length) (hfl:f.length≤40) (hwin:q7 ns ls):
  Calls Tryz.prog 193 #[.agg #[vn,vl],u] w fun e w'=>e= .returned (.int .i64 (yj ns ls f))∧Below w.heap.size w w':=by
 have hm20:=hwin.2.2.1;have hld:∀j:Nat,j<ls.length→zj ns (ndI ls j)=true:=fun j hj=>(hwin.2.2.2.2.2 j hj).1
 obtain⟨An,cn,rfl,hcn,hmn,hcelln⟩:=hn.formI;obtain⟨bn,offn,rfl,hbn,hcc⟩:=hcelln (by have:=hwin.1;omega);obtain⟨Au,cu,rfl,hcu,hmu,hcellu⟩:=hu.form;rw[zc] at hcu hmu hcellu hu⊢;unfold maxLen at hmn hmu;have HBD:=Lib.hid (fun k hk=>J9 hwin hf k hk);have HTO:=Lib.hid (fun d (hd:d<2*ls.length)=>jh hld hd);have HFR:=Lib.hid (fun d (hd:d<2*ls.length)=>qh hld hd);have HND:=Lib.hid (fun t ht=>jn hwin.2.2.2.1 t ht);have HAS:=Lib.hid (ZF ns ls f);have HA0:Hid (jH ns ls f 0=0):=Lib.hid rfl;have HCC:=Lib.hid hcc;have HCU:=Lib.hid hcellu;have HFM:=Lib.hid hf;clear hcelln hcc hcellu hwin hld hf
 go_enter Tryz.func193,Tryz.ntmps193
 go_wp2
 go_loopw [5,6] (fun n x wr=>∃k:Nat,k≤f.length∧x= .int .i64 k∧n= .int .i64 (jH ns ls f k)∧Blk wr w.heap.size 27 #[.slice (some ⟨bn,offn,none⟩) ns.length cn,vl]∧Below w.heap.size w wr) (fun _ x _=>f.length -(intOf x).toNat)
 case atStart=>exact⟨0,Nat.zero_le _,rfl,by rw[HA0.out],Blk.newAt rfl,by exact bel_⟩
 case round=>
  obtain⟨k,hk,rfl,rfl,hW,hbl⟩:=hrel;have hsz:=hW.lt
  by_cases hlt:k<f.length
  ·have hlt1:(k:Int)<(f.length:Int):=by omega
   have ik1:(0:Int)≤(k:Int):=by omega
   obtain⟨b4,off4,rfl,hb4,hcl4⟩:=HCU.out (by omega);have hx0:=hcl4 k hlt;rw[qQ] at hx0;have hx:=(hbl.cell (p:=⟨b4,off4+k,none⟩) hb4).trans hx0;have hem:f.getD k 0<2*ls.length:=HFM.out _ (by rw[List.getD,List.getElem?_eq_getElem hlt];exact List.getElem_mem hlt);have HSU:=Lib.hid (HAS.out k);have hbd:=HBD.out k hk;generalize f.getD k 0=d at*;obtain⟨u,hu',hun⟩:=HTO.out d hem;obtain⟨t,ht',htn⟩:=HFR.out d hem;obtain⟨a_0,a_1⟩:=hW.c2;have hlr:RP wr vl ls:=hl.below hbl;have hb42:b4<wr.heap.size:=Nat.lt_of_lt_of_le hb4 hbl.size
   go_wp2_with fail
   (refine z9 (by kernel_rfl) (by kernel_rfl) (fun hG=>?_))
   repeat (go_big_quiet_step ((go_at_call 192;exact zv (vr _ _ ls d _ (RS.grw _ hlr) hem))))
   refine wpQuiet_nil ?_
   clear hG;rintro w3 ⟨⟨_,hb3⟩,rfl⟩;have hW3:=hW.below hb3 hsz;have hbl3:=hbl.trans (hb3.mono hbl.size);have HCR:Hid (jP ns ls d=(ndI ns t).1*(ndI ns u).2 -(ndI ns t).2*(ndI ns u).1):=Lib.hid (by unfold jP;rw[ht',hu']);obtain⟨p0,p1,p2,p3⟩:=zr (HND.out t htn);obtain⟨q0,q1,q2,q3⟩:=zr (HND.out u hun);have hbn3:bn<w3.heap.size:=Nat.lt_of_lt_of_le hbn hbl3.size;have hs3:=hW3.lt;have it1:(0:Int)≤(t:Int):=by omega
   have it2:(t:Int)<(ns.length:Int):=by omega
   have iu1:(0:Int)≤(u:Int):=by omega
   have iu2:(u:Int)<(ns.length:Int):=by omega
   obtain⟨t0,t1⟩:=HCC.out t htn;obtain⟨u0,u1⟩:=HCC.out u hun;have c0:=(hbl3.cell (p:=⟨bn,offn+t*2,none⟩) hbn).trans t0;have c1:=(hbl3.cell (p:=⟨bn,offn+t*2+1,none⟩) hbn).trans t1;have c2:=(hbl3.cell (p:=⟨bn,offn+u*2,none⟩) hbn).trans u0;have c3:=(hbl3.cell (p:=⟨bn,offn+u*2+1,none⟩) hbn).trans u1;rw[hu',ht'];clear hW hbl a_0 a_1 hb3 hlr hx t0 t1 u0 u1 hu' ht';obtain⟨a_0,a_1⟩:=hW3.c2;generalize (ndI ns t).1=X at*;generalize (ndI ns t).2=Y at*;generalize (ndI ns u).1=U at*;generalize (ndI ns u).2=V at*;obtain⟨m1a,m1b⟩:=yV (u:=X) (v:=V) (by omega) (by omega) (by omega) (by omega);obtain⟨m2a,m2b⟩:=yV (u:=Y) (v:=U) (by omega) (by omega) (by omega) (by omega);obtain⟨ba,bb⟩:=hbd
   go_wp2_with fail
   (refine z9 (by kernel_rfl) (by kernel_rfl) (fun hG=>?_))
   repeat (go_big_quiet_step (fail))
   refine wpQuiet_nil ?_
   clear hG;rintro w4 ⟨⟨_,hb4'⟩,rfl⟩;have hW4:=Lib.hid (hW3.below hb4' hW3.lt);have hbl4:=Lib.hid (hbl3.trans (hb4'.mono hbl3.size));clear hW3 hbl3 hb4' a_0 a_1 c0 c1 c2 c3;go_wp2;go_roundw
   case rel=>exact⟨k+1,by omega,by go_num,by rw[HSU.out,HCR.out];congr 1;omega,hW4.out,hbl4.out⟩
   case measure=>simp[intOf];omega
  ·have hkk:k=f.length:=by omega
   subst hkk;have HR:Hid (yj ns ls f=jH ns ls f f.length):=Lib.hid rfl;go_wp2;go_ret
   exact⟨ze HR.out.symm,hbl⟩
theorem jt {ns ls:List Pr} {k:Nat} (hk:k<(zb ns ls).length):q7 ns ls∧(∀e∈(zb ns ls).getD k [],e<2*ls.length)∧0<((zb ns ls).getD k []).length ∧((zb ns ls).getD k []).length ≤40:=by
 cases hw:zm ns ls
 ·simp[zb,hw] at hk
 ·have hwin:=(zW hw).1
  have hld:∀j:Nat,j<ls.length→zj ns (ndI ls j)=true:=fun j hj=>(hwin.2.2.2.2.2 j hj).1
  have hm20:=hwin.2.2.1;have hF:zb ns ls=zo ns ls (2*ls.length):=by simp[zb,hw];rfl
  rw[hF] at hk⊢;have hm:(zo ns ls (2*ls.length)).getD k []∈zo ns ls (2*ls.length):=by rw[List.getD,List.getElem?_eq_getElem hk];exact List.getElem_mem hk
  obtain⟨h1,h2,h3⟩:=Qa hld (2*ls.length) (Nat.le_refl _) _ hm;exact⟨hwin,h1,h2,by omega⟩
theorem zL (ns ls:List Pr):(zb ns ls).length ≤40:=by
 cases hw:zm ns ls
 ·simp[zb,hw]
 ·have hm20:=(zW hw).1.2.2.1
  have hF:zb ns ls=zo ns ls (2*ls.length):=by simp[zb,hw];rfl
  rw[hF];have:=vJ ns ls (2*ls.length);omega
noncomputable def qH (ns ls:List Pr):Int:=z4J ns ls (zb ns ls)
theorem ZO {ns ls:List Pr} {F:List (List Nat)} {m k:Nat} (h:yj ns ls (F.getD k [])≤0):qZ ns ls F (m+1) k=k:=by simp only[qZ];rw[if_pos h]
theorem JU {ns ls:List Pr} {F:List (List Nat)} {m k:Nat} (h:¬yj ns ls (F.getD k [])≤0):qZ ns ls F (m+1) k=qZ ns ls F m (k+1):=by simp only[qZ];rw[if_neg h]
theorem ZG (vn vl:Value) (ns ls:List Pr) (w:World) (hn:RP w vn ns) (hl:RP w vl ls):
  Calls Tryz.prog 149 #[.agg #[vn,vl]] w fun e w'=>e= .returned (.int .i64 (qH ns ls))∧Below w.heap.size w w':=by
 have hb0:Below w.heap.size w (w.alloc (.cells #[vn,vl] 27)):=by exact bel_
 have hW0:Blk (w.alloc (.cells #[vn,vl] 27)) w.heap.size 27 #[vn,vl]:=Blk.newAt rfl;have HAT:=Lib.hid (fun k hk=>jt (ns:=ns) (ls:=ls) (k:=k) hk);have hfl:=zL ns ls;have HR:Hid (qH ns ls=qZ ns ls (zb ns ls) (zb ns ls).length 0):=Lib.hid rfl;have HOY:=Lib.hid (fun m k h=>ZO (ns:=ns) (ls:=ls) (F:=zb ns ls) (m:=m) (k:=k) h);have HON:=Lib.hid (fun m k h=>JU (ns:=ns) (ls:=ls) (F:=zb ns ls) (m:=m) (k:=k) h);have HOZ:Hid (∀k,qZ ns ls (zb ns ls) 0 k= -1):=Lib.hid (fun _=>rfl)
 go_enter Tryz.func149,Tryz.ntmps149
 go_wp2_with fail
 refine(yC vn vl ns ls _ (hn.below hb0) (hl.below hb0)).mono ?_
 rintro e w1 ⟨v1,rfl,ho1,hb1⟩;have hbw1:=hb0.trans (hb1.mono hb0.size);have hW1:=hW0.below hb1 hW0.lt;have hF1:=ho1.reads;generalize zb ns ls=F at*;obtain⟨A1,c1,rfl,hc1,hm1,hcell1⟩:=hF1.get;unfold maxLen at hm1;clear hb1 hb0 hW0 ho1 hcell1;obtain⟨a_0,a_1⟩:=hW1.c2;go_wp2
 go_loopw [8] (fun x wr=>∃k:Nat,k≤F.length∧x= .int .i64 k∧Hid (qZ ns ls F F.length 0=qZ ns ls F (F.length -k) k)∧RF wr (.slice A1 F.length c1) F∧Blk wr w.heap.size 27 #[vn,vl]∧Below w.heap.size w wr) (fun x _=>F.length -(intOf x).toNat)
 case atStart=>exact⟨0,Nat.zero_le _,rfl,Lib.hid rfl,hF1,hW1,hbw1⟩
 case round=>
  clear hF1 hW1 hbw1 a_0 a_1;obtain⟨k,hk,rfl,HK,hF,hW,hbl⟩:=hrel;have hsz:=hW.lt
  by_cases hlt:k<F.length
  ·have hlt1:(k:Int)<(F.length:Int):=by omega
   have ik1:(0:Int)≤(k:Int):=by omega
   obtain⟨A2,c2,he2,_,_,hcell⟩:=hF.get
   cases he2
   obtain⟨b4,off4,rfl,hb4,hcl4⟩:=hcell (by omega);obtain⟨rr,hcr,hrr⟩:=hcl4 k hlt;obtain⟨hwin,hfe,hf0,hf40⟩:=HAT.out k hlt;have HAR:=Lib.hid (fun (v:World) (u:Value) (hb:Below w.heap.size w v) (hu:RI v u (natI (F.getD k [])))=>z0K vn vl u ns ls (F.getD k []) v (hn.below hb) (hl.below hb) hu hfe hf40 hwin);have HY:=Lib.hid (fun h=>HOY.out (F.length -(k+1)) k h);have HNo:=Lib.hid (fun h=>HON.out (F.length -(k+1)) k h);rw[show F.length -(k+1)+1=F.length -k by omega] at HY HNo;generalize yj ns ls (F.getD k [])=z at*;clear hcl4 hcell hwin hfe;obtain⟨a_0,a_1⟩:=hW.c2
   go_wp2_with fail
   refine(HAR.out wr rr hbl hrr).mono ?_
   rintro e w5 ⟨rfl,hb5⟩;have hW5:=hW.below hb5 hsz;have hF5:=hF.below hb5;have hbl5:=hbl.trans (hb5.mono hbl.size);clear hb5 hW hF hbl a_0 a_1 hcr hrr
   by_cases hz:z≤0
   ·have HX:=Lib.hid (HY.out hz)
    go_wp2;go_ret
    exact⟨ze (by rw[HR.out,HK.out,HX.out]),hbl5⟩
   ·have HX:=Lib.hid (HNo.out (by omega))
    go_wp2;go_roundw
    case rel=>exact⟨k+1,by omega,by go_num,Lib.hid (by rw[HK.out,HX.out]),hF5,hW5,hbl5⟩
    case measure=>simp[intOf];omega
  ·have hkk:k=F.length:=by omega
   have HX:Hid (qZ ns ls F (F.length -k) k= -1):=Lib.hid (by rw[hkk,Nat.sub_self];exact HOZ.out _);clear hkk;go_wp2;go_ret
   exact⟨ze (by rw[HR.out,HK.out,HX.out]),hbl⟩
theorem Jb (vn vl:Value) (ns ls:List Pr) (w:World) (hn:RP w vn ns) (hl:RP w vl ls):
  Calls Tryz.prog 115 #[.agg #[vn,vl]] w fun e w'=>e= .returned (.int .i64 (qH ns ls))∧Below w.heap.size w w':=by
 have hb0:Below w.heap.size w (w.alloc (.cells #[vn,vl] 27)):=by exact bel_
 have hW0:Blk (w.alloc (.cells #[vn,vl] 27)) w.heap.size 27 #[vn,vl]:=Blk.newAt rfl;have HAT:=Lib.hid (fun k hk=>jt (ns:=ns) (ls:=ls) (k:=k) hk);have hfl:=zL ns ls;have HR:Hid (qH ns ls=qZ ns ls (zb ns ls) (zb ns ls).length 0):=Lib.hid rfl;have HOY:=Lib.hid (fun m k h=>ZO (ns:=ns) (ls:=ls) (F:=zb ns ls) (m:=m) (k:=k) h);have HON:=Lib.hid (fun m k h=>JU (ns:=ns) (ls:=ls) (F:=zb ns ls) (m:=m) (k:=k) h);have HOZ:Hid (∀k,qZ ns ls (zb ns ls) 0 k= -1):=Lib.hid (fun _=>rfl)
 go_enter Tryz.func115,Tryz.ntmps115
 go_wp2_with fail
 refine(jF vn vl ns ls _ (hn.below hb0) (hl.below hb0)).mono ?_
 rintro e w1 ⟨v1,rfl,ho1,hb1⟩;have hbw1:=hb0.trans (hb1.mono hb0.size);have hW1:=hW0.below hb1 hW0.lt;have hF1:=ho1.reads;generalize zb ns ls=F at*;obtain⟨A1,c1,rfl,hc1,hm1,hcell1⟩:=hF1.get;unfold maxLen at hm1;clear hb1 hb0 hW0 ho1 hcell1;obtain⟨a_0,a_1⟩:=hW1.c2;go_wp2
 go_loopw [4] (fun x wr=>∃k:Nat,k≤F.length∧x= .int .i64 k∧Hid (qZ ns ls F F.length 0=qZ ns ls F (F.length -k) k)∧RF wr (.slice A1 F.length c1) F∧Blk wr w.heap.size 27 #[vn,vl]∧Below w.heap.size w wr) (fun x _=>F.length -(intOf x).toNat)
 case atStart=>exact⟨0,Nat.zero_le _,rfl,Lib.hid rfl,hF1,hW1,hbw1⟩
 case round=>
  clear hF1 hW1 hbw1 a_0 a_1;obtain⟨k,hk,rfl,HK,hF,hW,hbl⟩:=hrel;have hsz:=hW.lt
  by_cases hlt:k<F.length
  ·have hlt1:(k:Int)<(F.length:Int):=by omega
   have ik1:(0:Int)≤(k:Int):=by omega
   obtain⟨A2,c2,he2,_,_,hcell⟩:=hF.get
   cases he2
   obtain⟨b4,off4,rfl,hb4,hcl4⟩:=hcell (by omega);obtain⟨rr,hcr,hrr⟩:=hcl4 k hlt;obtain⟨hwin,hfe,hf0,hf40⟩:=HAT.out k hlt;have HAR:=Lib.hid (fun (v:World) (u:Value) (hb:Below w.heap.size w v) (hu:RI v u (natI (F.getD k [])))=>z0E vn vl u ns ls (F.getD k []) v (hn.below hb) (hl.below hb) hu hfe hf40 hwin);have HY:=Lib.hid (fun h=>HOY.out (F.length -(k+1)) k h);have HNo:=Lib.hid (fun h=>HON.out (F.length -(k+1)) k h);rw[show F.length -(k+1)+1=F.length -k by omega] at HY HNo;generalize yj ns ls (F.getD k [])=z at*;clear hcl4 hcell hwin hfe;obtain⟨a_0,a_1⟩:=hW.c2
   go_wp2_with fail
   (refine z9 (by kernel_rfl) (by kernel_rfl) (fun hG=>?_))
   repeat (go_big_quiet_step ((go_at_call 193;exact zv (HAR.out _ rr (hbl.trans (Below.mono (Grw.below _) hbl.size)) (RS.grw _ hrr)))))
   refine wpQuiet_nil ?_
   clear hG;rintro w5 ⟨⟨_,hb5⟩,rfl⟩;have hW5:=hW.below hb5 hsz;have hF5:=hF.below hb5;have hbl5:=hbl.trans (hb5.mono hbl.size);clear hb5 hW hF hbl a_0 a_1 hcr hrr
   by_cases hz:z≤0
   ·have HX:=Lib.hid (HY.out hz)
    go_wp2;go_ret
    exact⟨ze (by rw[HR.out,HK.out,HX.out]),hbl5⟩
   ·have HX:=Lib.hid (HNo.out (by omega))
    go_wp2;go_roundw
    case rel=>exact⟨k+1,by omega,by go_num,Lib.hid (by rw[HK.out,HX.out]),hF5,hW5,hbl5⟩
    case measure=>simp[intOf];omega
  ·have hkk:k=F.length:=by omega
   have HX:Hid (qZ ns ls F (F.length -k) k= -1):=Lib.hid (by rw[hkk,Nat.sub_self];exact HOZ.out _);clear hkk;go_wp2;go_ret
   exact⟨ze (by rw[HR.out,HK.out,HX.out]),hbl⟩
end Go.Proofs.YtnjcpljhmhdhkaaGreat
