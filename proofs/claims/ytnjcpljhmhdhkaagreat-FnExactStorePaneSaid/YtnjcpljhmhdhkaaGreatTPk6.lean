/- part 6 -/
import Derived.Test.YtnjcpljhmhdhkaaGreatTPk5
import Derived.Deep.DeepCutAuto
set_option linter.unusedSimpArgs false
set_option linter.unusedVariables false
set_option maxRecDepth 100000
set_option maxHeartbeats 8000000
namespace Go.Proofs.YtnjcpljhmhdhkaaGreat
open Go.RowKit
attribute [local go_sem ↓] zu zw zY zZ
theorem z27 {u v:Int} (h1: -800≤u∧u≤800) (h3: -800≤v∧v≤800): -640000≤u*v∧u*v≤640000:=by
 have h:(u*v).natAbs ≤800*800:=by
  rw[Int.natAbs_mul];exact Nat.mul_le_mul (by omega) (by omega)
 omega
theorem Vc {ns:List Pr} {l m:Pr} (h:zj ns l=false):qs ns l m=false:=by simp[qs,h]
theorem JK {ns:List Pr} {l m:Pr} (h:zj ns m=false):qs ns l m=false:=by simp[qs,h]
theorem z5K {ns:List Pr} {l n:Pr} (h:zj ns l=false):onB ns l n=false:=by simp[onB,h]
theorem V3 {ns:List Pr} {p q r s:Nat} {ax ay bx by' cx cy dx dy:Int} (h1:zj ns (p,q)=true) (h2:zj ns (r,s)=true)
  (ea:ndI ns p=(ax,ay)) (eb:ndI ns q=(bx,by')) (ec:ndI ns r=(cx,cy)) (ed:ndI ns s=(dx,dy)):
  qs ns (p,q) (r,s)=(((prB ax ay cx cy&&prB bx by' dx dy)||(prB ax ay dx dy&&prB bx by' cx cy))||(jQ ax ay bx by' cx cy||jQ ax ay bx by' dx dy||jQ cx cy dx dy ax ay||jQ cx cy dx dy bx by')||
   (decide (zK ax ay bx by' cx cy*zK ax ay bx by' dx dy<0)&&decide (zK cx cy dx dy ax ay*zK cx cy dx dy bx by'<0))):=by
 simp[qs,h1,h2,ea,eb,ec,ed,jf,qd,j8,zN]
theorem jV {w:World} {ns:List Pr} {b off:Nat} {a c:Int} (hl:zj ns (a,c)=true)
  (hcl:∀k:Nat,k<ns.length→w.cell? ⟨b,off+k*2,none⟩=some (.int .i64 (ndI ns k).1)∧w.cell? ⟨b,off+k*2+1,none⟩=some (.int .i64 (ndI ns k).2)):
  ∃(p q:Nat) (ax ay bx by':Int),a=(p:Int)∧c=(q:Int)∧p<q∧q<ns.length∧ndI ns p=(ax,ay)∧ndI ns q=(bx,by')∧zf ax ay=true∧zf bx by'=true∧
   w.cell? ⟨b,off+p*2,none⟩=some (.int .i64 ax)∧w.cell? ⟨b,off+p*2+1,none⟩=some (.int .i64 ay)∧w.cell? ⟨b,off+q*2,none⟩=some (.int .i64 bx)∧w.cell? ⟨b,off+q*2+1,none⟩=some (.int .i64 by'):=by
 obtain⟨h1,h2,h3,h4,h5,_⟩:=zR.1 hl;simp only at h1 h2 h3 h4 h5
 obtain⟨p,rfl⟩:=Int.eq_ofNat_of_zero_le h1;obtain⟨q,rfl⟩:=Int.eq_ofNat_of_zero_le (show 0≤c by omega);obtain⟨k0,k1⟩:=hcl p (by omega);obtain⟨j0,j1⟩:=hcl q (by omega);exact⟨p,q,(ndI ns p).1,(ndI ns p).2,(ndI ns q).1,(ndI ns q).2,rfl,rfl,by omega,by omega,rfl,rfl,h4,h5,k0,k1,j0,j1⟩
theorem Z2 (x:Int): -1≤Int.sign x∧Int.sign x≤1:=by
 rcases Int.lt_trichotomy x 0 with h|h|h
 ·rw[Int.sign_eq_neg_one_of_neg h];omega
 ·subst h;simp
 ·rw[Int.sign_eq_one_of_pos h];omega
theorem z24 {u v:Int} (h1: -1≤u∧u≤1) (h3: -1≤v∧v≤1): -1≤u*v∧u*v≤1:=by
 have h:(u*v).natAbs ≤1*1:=by
  rw[Int.natAbs_mul];exact Nat.mul_le_mul (by omega) (by omega)
 omega
theorem Vs (n:Int) (w:World):
  Calls Tryz.prog 242 #[.int .i64 n] w fun e w'=>e= .returned (.int .i64 (Int.sign n))∧w=w':=by
 go_enter Tryz.func242,Tryz.ntmps242
 go_wp2
 all_goals go_ret
 all_goals refine⟨ze ?_,rfl⟩
 all_goals symm
 ·exact Int.sign_eq_neg_one_of_neg (by omega)
 ·exact Int.sign_eq_one_of_pos (by omega)
 ·rw[show n=0 by omega];rfl
def z5B (ax ay bx by' cx cy dx dy:Int):Prop:=
 (prB ax ay cx cy=true→zK ax ay bx by' cx cy=0)∧(prB ax ay dx dy=true→zK ax ay bx by' dx dy=0)∧(prB bx by' cx cy=true→zK ax ay bx by' cx cy=0)∧(prB bx by' dx dy=true→zK ax ay bx by' dx dy=0)
theorem Vl (ax ay bx by' cx cy dx dy:Int):z5B ax ay bx by' cx cy dx dy:=by
 have t1:∀ax ay bx by' cx cy:Int,prB ax ay cx cy=true→zK ax ay bx by' cx cy=0:=by
  intro ax ay bx by' cx cy h
  have:=yP.1 h;simp only[Prod.mk.injEq] at this
  obtain⟨rfl,rfl⟩:=this;exact z1v (ax,ay) (bx,by')
 have t2:∀ax ay bx by' cx cy:Int,prB bx by' cx cy=true→zK ax ay bx by' cx cy=0:=by
  intro ax ay bx by' cx cy h
  have:=yP.1 h;simp only[Prod.mk.injEq] at this
  obtain⟨rfl,rfl⟩:=this;exact Zt (ax,ay) (bx,by')
 exact⟨t1 _ _ _ _ _ _,t1 _ _ _ _ _ _,t2 _ _ _ _ _ _,t2 _ _ _ _ _ _⟩
theorem z1R (v:Value) (ns:List Pr) (a b c d:Int) (w:World) (h:RP w v ns):
  Calls Tryz.prog 197 #[v,.agg #[.int .i64 a,.int .i64 b],.agg #[.int .i64 c,.int .i64 d]] w fun e w'=>e= .returned (.bool (qs ns (a,b) (c,d)))∧Below w.heap.size w w':=by
 cases hl:zj ns (a,b)
 ·have HR:=Lib.hid (Vc (m:=(c,d)) hl)
  go_enter Tryz.func197,Tryz.ntmps197
  go_wp2_with fail
  refine(qS _ ns _ _ _ (h.below (by exact bel_))).mono ?_
  rintro e w1 ⟨rfl,hb1⟩;(first|(with_reducible have hcf1:=z8 hb1)|have hcf1:=bcell hb1);obtain⟨hc1,hf1⟩:=hcf1;have hz1:=hb1.size;(try simp at hz1);(try have hp1_0:=p0_ w w1);(try have hp1_1:=p1_ w w1);(try have hp1_2:=p2_ w w1);(try have hp1_3:=p3_ w w1)
  rw[hl];go_wp2;go_ret
  exact⟨za HR.out.symm,by exact bel_⟩
 cases hm:zj ns (c,d)
 ·have HR:=Lib.hid (JK (l:=(a,b)) hm)
  go_enter Tryz.func197,Tryz.ntmps197
  go_wp2_with fail
  refine(qS _ ns _ _ _ (h.below (by exact bel_))).mono ?_
  rintro e w1 ⟨rfl,hb1⟩;(first|(with_reducible have hcf1:=z8 hb1)|have hcf1:=bcell hb1);obtain⟨hc1,hf1⟩:=hcf1;have hz1:=hb1.size;(try simp at hz1);(try have hp1_0:=p0_ w w1);(try have hp1_1:=p1_ w w1);(try have hp1_2:=p2_ w w1);(try have hp1_3:=p3_ w w1)
  rw[hl];have hbw1:Below w.heap.size w w1:=by exact bel_
  go_wp2_with fail
  refine(qS _ ns _ _ _ (h.below (by exact bel_))).mono ?_
  rintro e w2 ⟨rfl,hb2⟩;(first|(with_reducible have hcf2:=z8 hb2)|have hcf2:=bcell hb2);obtain⟨hc2,hf2⟩:=hcf2;have hz2:=hb2.size;(try simp at hz2);(try have hp2_0:=p0_ w w2);(try have hp2_1:=p1_ w w2);(try have hp2_2:=p2_ w w2);(try have hp2_3:=p3_ w w2)
  rw[hm];go_wp2;go_ret
  exact⟨za HR.out.symm,by exact bel_⟩
 obtain⟨A,cp,rfl,hc,hmx,hcell⟩:=h.formI;unfold maxLen at hmx
 have hpos:0<ns.length:=by
  obtain⟨h1,h2,h3,_⟩:=zR.1 hl;simp only at h1 h2 h3
  omega
 obtain⟨gb,off,rfl,hgb,hcl⟩:=hcell hpos;obtain⟨p,q,ax,ay,bx,by',rfl,rfl,hpq,hq,ea,eb,va,vb,k0,k1,k2,k3⟩:=jV hl hcl;obtain⟨r,s,cx,cy,dx,dy,rfl,rfl,hrs,hs,ec,ed,vc,vd,j0,j1,j2,j3⟩:=jV hm hcl;have HR:=Lib.hid (V3 hl hm ea eb ec ed);have HZ:=Lib.hid (Vl ax ay bx by' cx cy dx dy);have q1:=z24 (Z2 (zK ax ay bx by' cx cy)) (Z2 (zK ax ay bx by' dx dy));have q2:=z24 (Z2 (zK cx cy dx dy ax ay)) (Z2 (zK cx cy dx dy bx by'));have hp:p<ns.length:=by omega
 have hr:r<ns.length:=by omega
 have n1:gb<w.heap.size+1+1:=by omega
 clear hcl hcell hpos ea eb ec ed hc
 go_enter Tryz.func197,Tryz.ntmps197
 go_wp2_with fail
 refine(qS _ ns _ _ _ (h.below (by exact bel_))).mono ?_
 rintro e w1 ⟨rfl,hb1⟩;(first|(with_reducible have hcf1:=z8 hb1)|have hcf1:=bcell hb1);obtain⟨hc1,hf1⟩:=hcf1;have hz1:=hb1.size;(try simp at hz1);(try have hp1_0:=p0_ w w1);(try have hp1_1:=p1_ w w1);(try have hp1_2:=p2_ w w1);(try have hp1_3:=p3_ w w1)
 rw[hl];have hbw1:Below w.heap.size w w1:=by exact bel_
 go_wp2_with fail
 refine(qS _ ns _ _ _ (h.below (by exact bel_))).mono ?_
 rintro e w2 ⟨rfl,hb2⟩;(first|(with_reducible have hcf2:=z8 hb2)|have hcf2:=bcell hb2);obtain⟨hc2,hf2⟩:=hcf2;have hz2:=hb2.size;(try simp at hz2);(try have hp2_0:=p0_ w w2);(try have hp2_1:=p1_ w w2);(try have hp2_2:=p2_ w w2);(try have hp2_3:=p3_ w w2)
 rw[hm];have hbw2:Below w.heap.size w w2:=by exact bel_
 have m1:gb<w1.heap.size:=by omega
 have m2:gb<w2.heap.size:=by omega
 have m3:gb<w2.heap.size+1:=by omega
 have m4:gb<w2.heap.size+1+1:=by omega
 have m5:gb<w2.heap.size+1+1+1:=by omega
 clear h hl hm
 go_wp2_with (go_at_call 240;refine(vM _ _ _ _ _ _ _).mono ?_;rintro e w3 ⟨rfl,hb3⟩;(first|(with_reducible have hcf3:=z8 hb3)|have hcf3:=bcell hb3);obtain⟨hc3,hf3⟩:=hcf3;have hz3:=hb3.size;(try simp at hz3);(try have hp3_0:=p0_ w w3);(try have hp3_1:=p1_ w w3);(try have hp3_2:=p2_ w w3);(try have hp3_3:=p3_ w w3);(have hq3_0:w2.heap.size<w3.heap.size:=by omega);(have hq3_1:w2.heap.size+1<w3.heap.size:=by omega);(have hq3_2:w2.heap.size+1+1<w3.heap.size:=by omega);(have hq3_3:w2.heap.size+1+1+1<w3.heap.size:=by omega))
 all_goals first|(go_ret;exact⟨za (by rw[HR.out];have z:=HZ.out;unfold z5B at z;clear HR HZ;simp_all),by exact bel_⟩)|skip
 by_cases hneg:Int.sign (zK ax ay bx by' cx cy)*Int.sign (zK ax ay bx by' dx dy)<0
 ·have HN:=Lib.hid ((yo _ _).1 hneg)
  (refine z9 (by kernel_rfl) (by kernel_rfl) (fun hG=>?_))
  repeat (go_big_quiet_step (first|(go_at_call 243;exact zv (kB _ _ _ _ _ _ _ (by assumption) (by assumption) (by assumption)))|(go_at_call 242;exact zM (Vs _ _))))
  (refine wpQuiet_nil ?_);(clear hG);(rintro w4 ⟨⟨_,hb4⟩,rfl⟩);(try dsimp only);(first|(with_reducible have hcf4:=z8 hb4)|have hcf4:=bcell hb4);obtain⟨hc4,hf4⟩:=hcf4;have hz4:=hb4.size;(try simp at hz4);(try have hp4_0:=p0_ w w4);(try have hp4_1:=p1_ w w4);(try have hp4_2:=p2_ w w4);(try have hp4_3:=p3_ w w4)
  go_wp2;go_ret
  refine⟨za ?_,by exact bel_⟩
  rw[HR.out];have hn2:=HN.out
  (try simp only[yo])
  clear HR HZ HN hneg
  first|(simp_all;done)|(simp_all;intro hh;omega)
 ·have HN:=Lib.hid (fun h=>hneg ((yo _ _).2 h))
  (refine z9 (by kernel_rfl) (by kernel_rfl) (fun hG=>?_))
  repeat (go_big_quiet_step (first|(go_at_call 243;exact zv (kB _ _ _ _ _ _ _ (by assumption) (by assumption) (by assumption)))|(go_at_call 242;exact zM (Vs _ _))))
  (refine wpQuiet_nil ?_);(clear hG);(rintro w4 ⟨⟨_,hb4⟩,rfl⟩);(try dsimp only);(first|(with_reducible have hcf4:=z8 hb4)|have hcf4:=bcell hb4);obtain⟨hc4,hf4⟩:=hcf4;have hz4:=hb4.size;(try simp at hz4);(try have hp4_0:=p0_ w w4);(try have hp4_1:=p1_ w w4);(try have hp4_2:=p2_ w w4);(try have hp4_3:=p3_ w w4)
  go_wp2;go_ret
  refine⟨za ?_,by exact bel_⟩
  rw[HR.out];have hn2:=HN.out
  (try simp only[yo])
  clear HR HZ HN hneg
  first|(simp_all;done)|(simp_all;intro hh;omega)
theorem z1S (v:Value) (ns:List Pr) (a b c d:Int) (w:World) (h:RP w v ns) (hok:zO ns=true):
  Calls Tryz.prog 157 #[v,.agg #[.int .i64 a,.int .i64 b],.agg #[.int .i64 c,.int .i64 d]] w fun e w'=>e= .returned (.bool (qs ns (a,b) (c,d)))∧Below w.heap.size w w':=by
 cases hl:zj ns (a,b)
 ·have HR:=Lib.hid (Vc (m:=(c,d)) hl)
  go_enter Tryz.func157,Tryz.ntmps157
  go_wp2_with fail
  refine(qU _ ns _ _ _ (h.below (by exact bel_)) hok).mono ?_
  rintro e w1 ⟨rfl,hb1⟩;(first|(with_reducible have hcf1:=z8 hb1)|have hcf1:=bcell hb1);obtain⟨hc1,hf1⟩:=hcf1;have hz1:=hb1.size;(try simp at hz1);(try have hp1_0:=p0_ w w1);(try have hp1_1:=p1_ w w1);(try have hp1_2:=p2_ w w1);(try have hp1_3:=p3_ w w1)
  rw[hl];go_wp2;go_ret
  exact⟨za HR.out.symm,by exact bel_⟩
 cases hm:zj ns (c,d)
 ·have HR:=Lib.hid (JK (l:=(a,b)) hm)
  go_enter Tryz.func157,Tryz.ntmps157
  go_wp2_with fail
  refine(qU _ ns _ _ _ (h.below (by exact bel_)) hok).mono ?_
  rintro e w1 ⟨rfl,hb1⟩;(first|(with_reducible have hcf1:=z8 hb1)|have hcf1:=bcell hb1);obtain⟨hc1,hf1⟩:=hcf1;have hz1:=hb1.size;(try simp at hz1);(try have hp1_0:=p0_ w w1);(try have hp1_1:=p1_ w w1);(try have hp1_2:=p2_ w w1);(try have hp1_3:=p3_ w w1)
  rw[hl];have hbw1:Below w.heap.size w w1:=by exact bel_
  go_wp2_with fail
  refine(qU _ ns _ _ _ (h.below (by exact bel_)) hok).mono ?_
  rintro e w2 ⟨rfl,hb2⟩;(first|(with_reducible have hcf2:=z8 hb2)|have hcf2:=bcell hb2);obtain⟨hc2,hf2⟩:=hcf2;have hz2:=hb2.size;(try simp at hz2);(try have hp2_0:=p0_ w w2);(try have hp2_1:=p1_ w w2);(try have hp2_2:=p2_ w w2);(try have hp2_3:=p3_ w w2)
  rw[hm];go_wp2;go_ret
  exact⟨za HR.out.symm,by exact bel_⟩
 obtain⟨A,cp,rfl,hc,hmx,hcell⟩:=h.formI;unfold maxLen at hmx
 have hpos:0<ns.length:=by
  obtain⟨h1,h2,h3,_⟩:=zR.1 hl;simp only at h1 h2 h3
  omega
 obtain⟨gb,off,rfl,hgb,hcl⟩:=hcell hpos;obtain⟨p,q,ax,ay,bx,by',rfl,rfl,hpq,hq,ea,eb,va,vb,k0,k1,k2,k3⟩:=jV hl hcl;obtain⟨r,s,cx,cy,dx,dy,rfl,rfl,hrs,hs,ec,ed,vc,vd,j0,j1,j2,j3⟩:=jV hm hcl;have HR:=Lib.hid (V3 hl hm ea eb ec ed);have HZ:=Lib.hid (Vl ax ay bx by' cx cy dx dy);have q1:=z27 (xM va vb vc) (xM va vb vd);have q2:=z27 (xM vc vd va) (xM vc vd vb);have hp:p<ns.length:=by omega
 have hr:r<ns.length:=by omega
 clear hcl hcell hpos ea eb ec ed hc
 go_enter Tryz.func157,Tryz.ntmps157
 go_wp2_with fail
 refine(qU _ ns _ _ _ (h.below (by exact bel_)) hok).mono ?_
 rintro e w1 ⟨rfl,hb1⟩;(first|(with_reducible have hcf1:=z8 hb1)|have hcf1:=bcell hb1);obtain⟨hc1,hf1⟩:=hcf1;have hz1:=hb1.size;(try simp at hz1);(try have hp1_0:=p0_ w w1);(try have hp1_1:=p1_ w w1);(try have hp1_2:=p2_ w w1);(try have hp1_3:=p3_ w w1)
 rw[hl];have hbw1:Below w.heap.size w w1:=by exact bel_
 go_wp2_with fail
 refine(qU _ ns _ _ _ (h.below (by exact bel_)) hok).mono ?_
 rintro e w2 ⟨rfl,hb2⟩;(first|(with_reducible have hcf2:=z8 hb2)|have hcf2:=bcell hb2);obtain⟨hc2,hf2⟩:=hcf2;have hz2:=hb2.size;(try simp at hz2);(try have hp2_0:=p0_ w w2);(try have hp2_1:=p1_ w w2);(try have hp2_2:=p2_ w w2);(try have hp2_3:=p3_ w w2)
 rw[hm];have hbw2:Below w.heap.size w w2:=by exact bel_
 have hL1:Blk w1 w.heap.size 108 #[.int .i64 p,.int .i64 q]:=Blk.below ((Blk.newAt rfl).alloc _) hb1 sz_;have hM1:Blk w1 (w.heap.size+1) 108 #[.int .i64 r,.int .i64 s]:=Blk.below (Blk.newAt (by simp)) hb1 sz_;have hL2:=hL1.below hb2 (by omega);have hM2:=hM1.below hb2 (by omega);have m2:gb<w2.heap.size:=by omega
 have e0:=(hbw2.cell (p:=⟨gb,off+p*2,none⟩) hgb).trans k0;have e1:=(hbw2.cell (p:=⟨gb,off+p*2+1,none⟩) hgb).trans k1;have e2:=(hbw2.cell (p:=⟨gb,off+q*2,none⟩) hgb).trans k2;have e3:=(hbw2.cell (p:=⟨gb,off+q*2+1,none⟩) hgb).trans k3;have e4:=(hbw2.cell (p:=⟨gb,off+r*2,none⟩) hgb).trans j0;have e5:=(hbw2.cell (p:=⟨gb,off+r*2+1,none⟩) hgb).trans j1;have e6:=(hbw2.cell (p:=⟨gb,off+s*2,none⟩) hgb).trans j2;have e7:=(hbw2.cell (p:=⟨gb,off+s*2+1,none⟩) hgb).trans j3;have z1:w.heap.size<w2.heap.size:=by omega
 have z2:w.heap.size+1<w2.heap.size:=by omega
 have y3:w.heap.size<w2.heap.size+1:=by omega
 have y4:w.heap.size<w2.heap.size+1+1:=by omega
 have y5:gb<w2.heap.size+1:=by omega
 have y6:gb<w2.heap.size+1+1:=by omega
 clear h hl hm hb1 hc1 hf1 hz1 hb2 hc2 hf2 hbw1 hz2 k0 k1 k2 k3 j0 j1 j2 j3 hgb hL1 hM1 hp1_0 hp1_1 hp2_0 hp2_1;obtain⟨l_0,l_1⟩:=hL2.c2;generalize w.heap.size+1=B1 at*
 go_wp2_with fail
 go_cut [7,8] (fun s7 s8 wx=>∃x y:Nat,s7= .pointer (some ⟨x,0,none⟩)∧s8= .pointer (some ⟨y,0,none⟩)∧Below w2.heap.size w2 wx∧x<wx.heap.size∧y<wx.heap.size∧
   (wx.cell? ⟨x,0,none⟩=some (.int .i64 ax)∧wx.cell? ⟨x,1,none⟩=some (.int .i64 ay))∧(wx.cell? ⟨y,0,none⟩=some (.int .i64 bx)∧wx.cell? ⟨y,1,none⟩=some (.int .i64 by')))
 case first=>
  go_region
  all_goals go_wp2
  all_goals go_meet
  all_goals exact⟨_,_,rfl,rfl,by exact bel_,sz_,sz_,⟨by simp,by simp⟩,⟨by simp,by simp⟩⟩
 case rest=>
  obtain⟨x,y,rfl,rfl,hbc,hx,hy,⟨f0,f1⟩,⟨f2,f3⟩⟩:=hcut;obtain⟨w3,hw3⟩:∃w3:World,w3=wc:=⟨_,rfl⟩;subst hw3;have hM3:=hM2.below hbc z2;have d4:=(hbc.cell (p:=⟨gb,off+r*2,none⟩) m2).trans e4;have d5:=(hbc.cell (p:=⟨gb,off+r*2+1,none⟩) m2).trans e5;have d6:=(hbc.cell (p:=⟨gb,off+s*2,none⟩) m2).trans e6;have d7:=(hbc.cell (p:=⟨gb,off+s*2+1,none⟩) m2).trans e7;have hz3:=hbc.size;have z3:B1<w3.heap.size:=by omega
  have z4:B1<w3.heap.size+1:=by omega
  have z5:gb<w3.heap.size:=by omega
  have z6:gb<w3.heap.size+1:=by omega
  have z7:gb<w3.heap.size+1+1:=by omega
  have hbw3:Below w.heap.size w w3:=hbw2.trans (hbc.mono hbw2.size);clear e0 e1 e2 e3 e4 e5 e6 e7 hbc hM2 hL2 l_0 l_1 hbw2 m2;obtain⟨l_0,l_1⟩:=hM3.c2
  go_wp2_with fail
  go_cut [9,10] (fun s7 s8 wx=>∃u v:Nat,s7= .pointer (some ⟨u,0,none⟩)∧s8= .pointer (some ⟨v,0,none⟩)∧Below w3.heap.size w3 wx∧u<wx.heap.size∧v<wx.heap.size∧
    (wx.cell? ⟨u,0,none⟩=some (.int .i64 cx)∧wx.cell? ⟨u,1,none⟩=some (.int .i64 cy))∧(wx.cell? ⟨v,0,none⟩=some (.int .i64 dx)∧wx.cell? ⟨v,1,none⟩=some (.int .i64 dy)))
  case first=>
   go_region
   all_goals go_wp2
   all_goals go_meet
   all_goals exact⟨_,_,rfl,rfl,by exact bel_,sz_,sz_,⟨by simp,by simp⟩,⟨by simp,by simp⟩⟩
  case rest=>
   obtain⟨u,v,rfl,rfl,hbc,hu,hv,⟨f4,f5⟩,⟨f6,f7⟩⟩:=hcut;obtain⟨w4,hw4⟩:∃w4:World,w4=wc:=⟨_,rfl⟩;subst hw4;have g0:=(hbc.cell (p:=⟨x,0,none⟩) hx).trans f0;have g1:=(hbc.cell (p:=⟨x,1,none⟩) hx).trans f1;have g2:=(hbc.cell (p:=⟨y,0,none⟩) hy).trans f2;have g3:=(hbc.cell (p:=⟨y,1,none⟩) hy).trans f3;have hz4:=hbc.size;have hbw4:Below w.heap.size w w4:=hbw3.trans (hbc.mono hbw3.size);have hx4:x<w4.heap.size:=by omega
   have hy4:y<w4.heap.size:=by omega
   clear f0 f1 f2 f3 d4 d5 d6 d7 hbc hM3 l_0 l_1 hbw3 hx hy;obtain⟨E,hE⟩:∃E,((prB ax ay cx cy&&prB bx by' dx dy)||(prB ax ay dx dy&&prB bx by' cx cy))=E:=⟨_,rfl⟩;have HE:=Lib.hid hE;rw[hE] at HR;clear hE
   go_upto_region 5 with (fail)
   go_cut [58] (fun s58 wx=>s58= .bool E∧wx=w4)
   case first=>
    go_wp2
    all_goals go_meet
    all_goals exact⟨by rw[←HE.out];simp_all,rfl⟩
   case rest=>
    obtain⟨rfl,rfl⟩:=hcut;clear HE
    cases E
    ·go_wp2_with (go_at_call 213;refine(vL _ _ _ _ _ _ _).mono ?_;rintro e w5 ⟨rfl,hb5⟩;(first|(with_reducible have hcf5:=z8 hb5)|have hcf5:=bcell hb5);obtain⟨hc5,hf5⟩:=hcf5;have hz5:=hb5.size;(try simp at hz5);(try have hp5_0:=p0_ w w5);(try have hp5_1:=p1_ w w5);(try have hp5_2:=p2_ w w5);(try have hp5_3:=p3_ w w5);(have i1:x<w5.heap.size:=by omega);(have i2:y<w5.heap.size:=by omega);(have i3:u<w5.heap.size:=by omega);(have i4:v<w5.heap.size:=by omega))
     all_goals first|(go_ret;exact⟨za (by rw[HR.out];clear HR HZ;simp_all),by exact bel_⟩)|skip
     by_cases hneg:zK ax ay bx by' cx cy*zK ax ay bx by' dx dy<0
     ·have HN:=Lib.hid hneg
      (refine z9 (by kernel_rfl) (by kernel_rfl) (fun hG=>?_))
      repeat (go_big_quiet_step ((go_at_call 214;exact zv (kD _ _ _ _ _ _ _ (by assumption) (by assumption) (by assumption)))))
      (refine wpQuiet_nil ?_);(clear hG);(rintro w6 ⟨⟨_,hb6⟩,rfl⟩);(try dsimp only);(first|(with_reducible have hcf6:=z8 hb6)|have hcf6:=bcell hb6);obtain⟨hc6,hf6⟩:=hcf6;have hz6:=hb6.size;(try simp at hz6);(try have hp6_0:=p0_ w w6);(try have hp6_1:=p1_ w w6);(try have hp6_2:=p2_ w w6);(try have hp6_3:=p3_ w w6)
      go_wp2;go_ret
      refine⟨za ?_,by exact bel_⟩
      rw[HR.out];have hn2:=HN.out;clear HR HZ HN hneg
      first|(simp_all;done)|(simp_all;intro hh;omega)
     ·have HN:=Lib.hid hneg
      (refine z9 (by kernel_rfl) (by kernel_rfl) (fun hG=>?_))
      repeat (go_big_quiet_step ((go_at_call 214;exact zv (kD _ _ _ _ _ _ _ (by assumption) (by assumption) (by assumption)))))
      (refine wpQuiet_nil ?_);(clear hG);(rintro w6 ⟨⟨_,hb6⟩,rfl⟩);(try dsimp only);(first|(with_reducible have hcf6:=z8 hb6)|have hcf6:=bcell hb6);obtain⟨hc6,hf6⟩:=hcf6;have hz6:=hb6.size;(try simp at hz6);(try have hp6_0:=p0_ w w6);(try have hp6_1:=p1_ w w6);(try have hp6_2:=p2_ w w6);(try have hp6_3:=p3_ w w6)
      go_wp2;go_ret
      refine⟨za ?_,by exact bel_⟩
      rw[HR.out];have hn2:=HN.out;clear HR HZ HN hneg
      first|(simp_all;done)|(simp_all;intro hh;omega)
    ·go_wp2
     go_ret
     exact⟨za (by rw[HR.out];simp),by exact bel_⟩
attribute [local go_sem ↓] zu zw zY zZ
theorem z3Q {ns:List Pr} {p q:Nat} {ax ay bx by' nx ny:Int} (h1:zj ns (p,q)=true) (ea:ndI ns p=(ax,ay)) (eb:ndI ns q=(bx,by')):
  onB ns (p,q) (nx,ny)=(prB nx ny ax ay||prB nx ny bx by'||jQ ax ay bx by' nx ny):=by
 simp[onB,h1,ea,eb,qd,j8]
theorem XN (v:Value) (ns:List Pr) (a b nx ny:Int) (w:World) (h:RP w v ns):
  Calls Tryz.prog 198 #[v,.agg #[.int .i64 a,.int .i64 b],.agg #[.int .i64 nx,.int .i64 ny]] w fun e w'=>e= .returned (.bool (onB ns (a,b) (nx,ny)))∧Below w.heap.size w w':=by
 cases hl:zj ns (a,b)
 ·have HR:=Lib.hid (z5K (n:=(nx,ny)) hl)
  go_enter Tryz.func198,Tryz.ntmps198
  go_wp2_with fail
  refine(qS _ ns _ _ _ (h.below (by exact bel_))).mono ?_
  rintro e w1 ⟨rfl,hb1⟩;(first|(with_reducible have hcf1:=z8 hb1)|have hcf1:=bcell hb1);obtain⟨hc1,hf1⟩:=hcf1;have hz1:=hb1.size;(try simp at hz1);(try have hp1_0:=p0_ w w1);(try have hp1_1:=p1_ w w1);(try have hp1_2:=p2_ w w1);(try have hp1_3:=p3_ w w1)
  rw[hl];go_wp2;go_ret
  exact⟨za HR.out.symm,by exact bel_⟩
 obtain⟨A,cp,rfl,hc,hmx,hcell⟩:=h.formI;unfold maxLen at hmx
 have hpos:0<ns.length:=by
  obtain⟨h1,h2,h3,_⟩:=zR.1 hl;simp only at h1 h2 h3
  omega
 obtain⟨gb,off,rfl,hgb,hcl⟩:=hcell hpos;obtain⟨p,q,ax,ay,bx,by',rfl,rfl,hpq,hq,ea,eb,va,vb,k0,k1,k2,k3⟩:=jV hl hcl;have HR:=Lib.hid (z3Q (nx:=nx) (ny:=ny) hl ea eb);have hp:p<ns.length:=by omega
 have n1:gb<w.heap.size+1+1:=by omega
 clear hcl hcell hpos ea eb hc
 go_enter Tryz.func198,Tryz.ntmps198
 go_wp2_with fail
 refine(qS _ ns _ _ _ (h.below (by exact bel_))).mono ?_
 rintro e w1 ⟨rfl,hb1⟩;(first|(with_reducible have hcf1:=z8 hb1)|have hcf1:=bcell hb1);obtain⟨hc1,hf1⟩:=hcf1;have hz1:=hb1.size;(try simp at hz1);(try have hp1_0:=p0_ w w1);(try have hp1_1:=p1_ w w1);(try have hp1_2:=p2_ w w1);(try have hp1_3:=p3_ w w1)
 rw[hl];have m1:gb<w1.heap.size:=by omega
 have m3:gb<w1.heap.size+1:=by omega
 have m4:gb<w1.heap.size+1+1:=by omega
 clear h hl
 go_wp2_with (go_at_call 240;refine(vM _ _ _ _ _ _ _).mono ?_;rintro e w3 ⟨rfl,hb3⟩;(first|(with_reducible have hcf3:=z8 hb3)|have hcf3:=bcell hb3);obtain⟨hc3,hf3⟩:=hcf3;have hz3:=hb3.size;(try simp at hz3);(try have hp3_0:=p0_ w w3);(try have hp3_1:=p1_ w w3);(try have hp3_2:=p2_ w w3);(try have hp3_3:=p3_ w w3))
 all_goals go_ret
 all_goals exact⟨za (by rw[HR.out];clear HR;simp_all),by exact bel_⟩
theorem XQ (v:Value) (ns:List Pr) (a b nx ny:Int) (w:World) (h:RP w v ns) (hok:zO ns=true):
  Calls Tryz.prog 158 #[v,.agg #[.int .i64 a,.int .i64 b],.agg #[.int .i64 nx,.int .i64 ny]] w fun e w'=>e= .returned (.bool (onB ns (a,b) (nx,ny)))∧Below w.heap.size w w':=by
 cases hl:zj ns (a,b)
 ·have HR:=Lib.hid (z5K (n:=(nx,ny)) hl)
  go_enter Tryz.func158,Tryz.ntmps158
  go_wp2_with fail
  refine(qU _ ns _ _ _ (h.below (by exact bel_)) hok).mono ?_
  rintro e w1 ⟨rfl,hb1⟩;(first|(with_reducible have hcf1:=z8 hb1)|have hcf1:=bcell hb1);obtain⟨hc1,hf1⟩:=hcf1;have hz1:=hb1.size;(try simp at hz1);(try have hp1_0:=p0_ w w1);(try have hp1_1:=p1_ w w1);(try have hp1_2:=p2_ w w1);(try have hp1_3:=p3_ w w1)
  rw[hl];go_wp2;go_ret
  exact⟨za HR.out.symm,by exact bel_⟩
 obtain⟨A,cp,rfl,hc,hmx,hcell⟩:=h.formI;unfold maxLen at hmx
 have hpos:0<ns.length:=by
  obtain⟨h1,h2,h3,_⟩:=zR.1 hl;simp only at h1 h2 h3
  omega
 obtain⟨gb,off,rfl,hgb,hcl⟩:=hcell hpos;obtain⟨p,q,ax,ay,bx,by',rfl,rfl,hpq,hq,ea,eb,va,vb,k0,k1,k2,k3⟩:=jV hl hcl;have HR:=Lib.hid (z3Q (nx:=nx) (ny:=ny) hl ea eb);have hp:p<ns.length:=by omega
 clear hcl hcell hpos ea eb hc
 go_enter Tryz.func158,Tryz.ntmps158
 go_wp2_with fail
 refine(qU _ ns _ _ _ (h.below (by exact bel_)) hok).mono ?_
 rintro e w1 ⟨rfl,hb1⟩;(first|(with_reducible have hcf1:=z8 hb1)|have hcf1:=bcell hb1);obtain⟨hc1,hf1⟩:=hcf1;have hz1:=hb1.size;(try simp at hz1);(try have hp1_0:=p0_ w w1);(try have hp1_1:=p1_ w w1);(try have hp1_2:=p2_ w w1);(try have hp1_3:=p3_ w w1)
 rw[hl];have hbw1:Below w.heap.size w w1:=by exact bel_
 have hL1:Blk w1 w.heap.size 108 #[.int .i64 p,.int .i64 q]:=Blk.below ((Blk.newAt rfl).alloc _) hb1 sz_;have hM1:Blk w1 (w.heap.size+1) 106 #[.int .i64 nx,.int .i64 ny]:=Blk.below (Blk.newAt (by simp)) hb1 sz_;have m1:gb<w1.heap.size:=by omega
 have y5:gb<w1.heap.size+1:=by omega
 have y6:gb<w1.heap.size+1+1:=by omega
 have e0:=(hbw1.cell (p:=⟨gb,off+p*2,none⟩) hgb).trans k0;have e1:=(hbw1.cell (p:=⟨gb,off+p*2+1,none⟩) hgb).trans k1;have e2:=(hbw1.cell (p:=⟨gb,off+q*2,none⟩) hgb).trans k2;have e3:=(hbw1.cell (p:=⟨gb,off+q*2+1,none⟩) hgb).trans k3;have z1:w.heap.size<w1.heap.size:=by omega
 have z2:w.heap.size+1<w1.heap.size:=by omega
 have y3:w.heap.size<w1.heap.size+1:=by omega
 have y4:w.heap.size<w1.heap.size+1+1:=by omega
 clear h hl hb1 hc1 hf1 hz1 k0 k1 k2 k3 hgb hp1_0 hp1_1;obtain⟨l_0,l_1⟩:=hL1.c2;generalize w.heap.size+1=B1 at*
 go_wp2_with fail
 go_cut [7,8] (fun s7 s8 wx=>∃x y:Nat,s7= .pointer (some ⟨x,0,none⟩)∧s8= .pointer (some ⟨y,0,none⟩)∧Below w1.heap.size w1 wx∧x<wx.heap.size∧y<wx.heap.size∧
   (wx.cell? ⟨x,0,none⟩=some (.int .i64 ax)∧wx.cell? ⟨x,1,none⟩=some (.int .i64 ay))∧(wx.cell? ⟨y,0,none⟩=some (.int .i64 bx)∧wx.cell? ⟨y,1,none⟩=some (.int .i64 by')))
 case first=>
  go_region
  all_goals go_wp2
  all_goals go_meet
  all_goals exact⟨_,_,rfl,rfl,by exact bel_,sz_,sz_,⟨by simp,by simp⟩,⟨by simp,by simp⟩⟩
 case rest=>
  obtain⟨x,y,rfl,rfl,hbc,hx,hy,⟨f0,f1⟩,⟨f2,f3⟩⟩:=hcut;obtain⟨w3,hw3⟩:∃w3:World,w3=wc:=⟨_,rfl⟩;subst hw3;have hM3:=hM1.below hbc z2;have hz3:=hbc.size;have z3:B1<w3.heap.size:=by omega
  have hbw3:Below w.heap.size w w3:=hbw1.trans (hbc.mono hbw1.size);clear e0 e1 e2 e3 hbc hM1 hL1 l_0 l_1 hbw1 m1;obtain⟨l_0,l_1⟩:=hM3.c2
  go_wp2_with (go_at_call 213;refine(vL _ _ _ _ _ _ _).mono ?_;rintro e w5 ⟨rfl,hb5⟩;(first|(with_reducible have hcf5:=z8 hb5)|have hcf5:=bcell hb5);obtain⟨hc5,hf5⟩:=hcf5;have hz5:=hb5.size;(try simp at hz5);(try have hp5_0:=p0_ w w5);(try have hp5_1:=p1_ w w5);(try have hp5_2:=p2_ w w5);(try have hp5_3:=p3_ w w5))
  all_goals go_ret
  all_goals exact⟨za (by rw[HR.out];clear HR;simp_all),by exact bel_⟩
attribute [local go_sem ↓] zu xo zw xz
def idxP (l:List Pr) (p:Pr):Int:=if p∈l then(l.idxOf p:Int) else -1
theorem z4W {l:List Pr} {p:Pr} (h:p∉l):idxP l p= -1:=by simp[idxP,h]
theorem z5w {l:List Pr} {p:Pr} {k:Nat} (hk:k<l.length) (h:p∉l.take k) (hp:ndI l k=p):idxP l p=k:=by
 rw[zT l k hk] at hp
 have e:l=l.take k++p::l.drop (k+1):=by
  rw[←hp,←List.drop_eq_getElem_cons hk,List.take_append_drop]
 have hm:p∈l:=by rw[e];simp
 unfold idxP;rw[if_pos hm]
 have:l.idxOf p=k:=by
  rw[e,List.idxOf_append,if_neg h,List.idxOf_cons_self];simp;omega
 rw[this]
theorem XL {l:List Pr} {p:Pr}:(0≤idxP l p)↔p∈l:=by
 unfold idxP
 by_cases h:p∈l
 ·rw[if_pos h];exact⟨fun _=>h,fun _=>by omega⟩
 ·rw[if_neg h];exact⟨fun h'=>absurd h' (by omega),fun h'=>absurd h' h⟩
theorem RP.take {w:World} {A:Option Addr} {n c:Nat} {l:List (Int×Int)} (h:RP w (.slice A n c) l) (k:Nat) (hk:k≤l.length):RP w (.slice A k c) (l.take k):=by
 obtain⟨h0,A',c',hv,h1,h2,h3⟩:=h
 cases hv
 have hlen:(l.take k).length =k:=by simp;omega
 refine⟨zS prc 2 (fun _=>rfl) _,A,c,by rw[hlen],by omega,by omega,fun hn=>?_⟩
 obtain⟨b,off,e1,e2,e3⟩:=h3 (by omega);refine⟨b,off,e1,e2,fun j u hu=>e3 j u ?_⟩
 have hj:=(List.getElem?_eq_some_iff.1 hu).1;rw[zS prc 2 (fun _=>rfl),hlen] at hj;have g1:=qk prc 2 (fun _=>rfl) (l.take k) (j/2) (j%2) (by omega) (by omega);have g2:=qk prc 2 (fun _=>rfl) l (j/2) (j%2) (by omega) (by omega);rw[show j/2*2+j%2=j by omega] at g1 g2;rw[g2,←hu,g1];simp
theorem Js (v:Value) (l:List Pr) (x y:Int) (w:World) (h:RP w v l):
  Calls Tryz.prog 212 #[v,.agg #[.int .i64 x,.int .i64 y]] w fun e w'=>e= .returned (.int .i64 (idxP l (x,y)))∧Below w.heap.size w w':=by
 obtain⟨A,c,rfl,hc,hm,hcell⟩:=h.formI;unfold maxLen at hm;clear h
 go_enter Tryz.func212,Tryz.ntmps212
 go_wp2
 go_loopw [8] (fun i wr=>∃k:Nat,k≤l.length∧i= .int .i64 k∧Hid ((x,y)∉l.take k)∧Blk wr w.heap.size 106 #[.int .i64 x,.int .i64 y]∧Below w.heap.size w wr) (fun i _=>l.length -(intOf i).toNat)
 case atStart=>exact⟨0,Nat.zero_le _,rfl,Lib.hid (by simp),Blk.newAt rfl,by exact bel_⟩
 case round=>
  obtain⟨k,hk,rfl,HT,hB,hbl⟩:=hrel;have hsz:=hbl.size
  by_cases hlt:k<l.length
  ·obtain⟨b,off,rfl,hb,hcl⟩:=hcell (by omega)
   obtain⟨k0,k1⟩:=hcl k hlt;have q0:=(hbl.cell (p:=⟨b,off+k*2,none⟩) hb).trans k0;have q1:=(hbl.cell (p:=⟨b,off+k*2+1,none⟩) hb).trans k1;have hi1:(0:Int)≤(k:Int):=by omega
   have hi2:(k:Int)<(l.length:Int):=by omega
   obtain⟨a_0,a_1⟩:=hB.c2;clear k0 k1 hcl hcell
   cases hxy:prB x y (ndI l k).1 (ndI l k).2
   ·have HX:Hid ((x,y)∉l.take (k+1)):=Lib.hid (by
     rw[List.take_succ_eq_append_getElem hlt,List.mem_append,List.mem_singleton,←zT l k hlt];rintro(h|h)
     ·exact HT.out h
     ·rw[←h] at hxy
      simp[kh] at hxy)
    go_wp2
    go_quiet (fail)
    go_wp2;go_roundw
    case rel=>exact⟨k+1,by omega,by go_num,HX,hB,by exact bel_⟩
    case measure=>simp[intOf];omega
   ·have HX:Hid (idxP l (x,y)=k):=Lib.hid (z5w hlt HT.out (yP.1 hxy).symm)
    go_wp2
    go_quiet (fail)
    go_wp2;go_ret
    exact⟨ze HX.out.symm,by exact bel_⟩
  ·have hkk:l.length≤k:=by omega
   have h:=HT.out;rw[List.take_of_length_le hkk] at h;have HX:Hid (idxP l (x,y)= -1):=Lib.hid (z4W h);clear h hcell;go_wp2;go_ret
   exact⟨ze HX.out.symm,hbl⟩
theorem Q8 (v:Value) (l:List Pr) (x y:Int) (b:Bool) (w:World) (h:RP w v l) (hb:decide ((x,y)∈l)=b):
  Calls Tryz.prog 155 #[v,.agg #[.int .i64 x,.int .i64 y]] w fun e w'=>e= .returned (.bool b)∧Below w.heap.size w w':=by
 obtain⟨z,hz⟩:∃z,idxP l (x,y)=z:=⟨_,rfl⟩;have HZ:Hid (decide (0≤z)=b):=Lib.hid (by rw[←hz,←hb];simp[XL])
 go_enter Tryz.func155,Tryz.ntmps155
 go_wp2_with fail
 refine(Js _ l _ _ _ (h.below (by exact bel_))).mono ?_
 rw[hz];rintro e w1 ⟨rfl,hb1⟩;(first|(with_reducible have hcf1:=z8 hb1)|have hcf1:=bcell hb1);obtain⟨hc1,hf1⟩:=hcf1;have hz1:=hb1.size;(try simp at hz1);(try have hp1_0:=p0_ w w1);(try have hp1_1:=p1_ w w1);(try have hp1_2:=p2_ w w1);(try have hp1_3:=p3_ w w1)
 go_wp2;go_ret
 exact⟨za HZ.out,by exact bel_⟩
end Go.Proofs.YtnjcpljhmhdhkaaGreat
