/- part 5 -/
import Derived.Test.YtnjcpljhmhdhkaaGreatTPk3
set_option linter.unusedSimpArgs false
set_option linter.unusedVariables false
set_option maxRecDepth 100000
set_option maxHeartbeats 8000000
namespace Go.Proofs.YtnjcpljhmhdhkaaGreat
open Go.RowKit
attribute [local go_sem ↓] zr zq zU zT
theorem z4w {u v:Int} (h1: -800<=u/\u<=800) (h3: -800<=v/\v<=800): -640000<=u*v/\u*v<=640000:=by
 have h:(u*v).natAbs <=800*800:=by
  rw[Int.natAbs_mul];exact Nat.mul_le_mul o_ o_
 omega
theorem XP {ns:List Pr} {l m:Pr} (h:zt ns l=false):qO ns l m=false:=by simp[qO,h]
theorem z0c {ns:List Pr} {l m:Pr} (h:zt ns m=false):qO ns l m=false:=by simp[qO,h]
theorem z9n {ns:List Pr} {l n:Pr} (h:zt ns l=false):onB ns l n=false:=by simp[onB,h]
theorem XU {ns:List Pr} {p q r s:Nat} {ax ay bx by' cx cy dx dy:Int} (h1:zt ns (p,q)=true) (h2:zt ns (r,s)=true)
  (ea:ndI ns p=(ax,ay)) (eb:ndI ns q=(bx,by')) (ec:ndI ns r=(cx,cy)) (ed:ndI ns s=(dx,dy)):
  qO ns (p,q) (r,s)=(((prB ax ay cx cy&&prB bx by' dx dy)||(prB ax ay dx dy&&prB bx by' cx cy))||(yI ax ay bx by' cx cy||yI ax ay bx by' dx dy||yI cx cy dx dy ax ay||yI cx cy dx dy bx by')||
   (decide (q8 ax ay bx by' cx cy*q8 ax ay bx by' dx dy<0)&&decide (q8 cx cy dx dy ax ay*q8 cx cy dx dy bx by'<0))):=by
 simp[qO,h1,h2,ea,eb,ec,ed,jL,qz,jh,qa]
theorem yT {w:World} {ns:List Pr} {b off:Nat} {a c:Int} (hl:zt ns (a,c)=true)
  (Hz:∀k:Nat,k<ns.length->w.cell? ⟨b,off+k*2,none⟩=some (.int .i64 (ndI ns k).1)/\w.cell? ⟨b,off+k*2+1,none⟩=some (.int .i64 (ndI ns k).2)):
  ∃(p q:Nat) (ax ay bx by':Int),a=(p:Int)/\c=(q:Int)/\p<q/\q<ns.length/\ndI ns p=(ax,ay)/\ndI ns q=(bx,by')/\zh ax ay=true/\zh bx by'=true/\
   w.cell? ⟨b,off+p*2,none⟩=some (.int .i64 ax)/\w.cell? ⟨b,off+p*2+1,none⟩=some (.int .i64 ay)/\w.cell? ⟨b,off+q*2,none⟩=some (.int .i64 bx)/\w.cell? ⟨b,off+q*2+1,none⟩=some (.int .i64 by'):=by
 obtain⟨h1,h2,h3,h4,h5,_⟩:=zZ.1 hl;simp only at h1 h2 h3 h4 h5
 obtain⟨p,rfl⟩:=Int.eq_ofNat_of_zero_le h1;obtain⟨q,rfl⟩:=Int.eq_ofNat_of_zero_le (show 0<=c by omega);obtain⟨k0,k1⟩:=Hz p o_;obtain⟨j0,j1⟩:=Hz q o_;exact⟨p,q,(ndI ns p).1,(ndI ns p).2,(ndI ns q).1,(ndI ns q).2,rfl,rfl,by omega,by omega,rfl,rfl,h4,h5,k0,k1,j0,j1⟩
theorem Jt (x:Int): -1<=Int.sign x/\Int.sign x<=1:=by
 rcases Int.lt_trichotomy x 0 with h|h|h
 ·rw[Int.sign_eq_neg_one_of_neg h];omega
 ·subst h;simp
 ·rw[Int.sign_eq_one_of_pos h];omega
theorem z4u {u v:Int} (h1: -1<=u/\u<=1) (h3: -1<=v/\v<=1): -1<=u*v/\u*v<=1:=by
 have h:(u*v).natAbs <=1*1:=by
  rw[Int.natAbs_mul];exact Nat.mul_le_mul o_ o_
 omega
theorem z06 (n:Int) (w:World):
  Calls Tryz.prog 242 #[.int .i64 n] w fun e w'=>e= .returned (.int .i64 (Int.sign n))/\w=w':=by
 go_enter Tryz.func242,Tryz.ntmps242
 go_wp2
 all_goals go_ret
 all_goals refine⟨zi ?_,rfl⟩
 all_goals symm
 ·exact Int.sign_eq_neg_one_of_neg o_
 ·exact Int.sign_eq_one_of_pos o_
 ·rw[show n=0 by omega];rfl
def z9m (ax ay bx by' cx cy dx dy:Int):Prop:=
 (prB ax ay cx cy=true->q8 ax ay bx by' cx cy=0)/\(prB ax ay dx dy=true->q8 ax ay bx by' dx dy=0)/\(prB bx by' cx cy=true->q8 ax ay bx by' cx cy=0)/\(prB bx by' dx dy=true->q8 ax ay bx by' dx dy=0)
theorem z5B (ax ay bx by' cx cy dx dy:Int):z9m ax ay bx by' cx cy dx dy:=by
 have t1:∀ax ay bx by' cx cy:Int,prB ax ay cx cy=true->q8 ax ay bx by' cx cy=0:=by
  intro ax ay bx by' cx cy h
  have:=kl.1 h;simp only[Prod.mk.injEq] at this
  obtain⟨rfl,rfl⟩:=this;exact z46 (ax,ay) (bx,by')
 have t2:∀ax ay bx by' cx cy:Int,prB bx by' cx cy=true->q8 ax ay bx by' cx cy=0:=by
  intro ax ay bx by' cx cy h
  have:=kl.1 h;simp only[Prod.mk.injEq] at this
  obtain⟨rfl,rfl⟩:=this;exact X0 (ax,ay) (bx,by')
 exact⟨t1 _ _ _ _ _ _,t1 _ _ _ _ _ _,t2 _ _ _ _ _ _,t2 _ _ _ _ _ _⟩
theorem z48 (v:Value) (ns:List Pr) (a b c d:Int) (w:World) (h:RP w v ns):
  CB_ 197 #[v,.agg #[.int .i64 a,.int .i64 b],.agg #[.int .i64 c,.int .i64 d]] w (.bool (qO ns (a,b) (c,d))):=by
 cases hl:zt ns (a,b)
 ·have HR:=h_ (XP (m:=(c,d)) hl)
  go_enter Tryz.func197,Tryz.ntmps197
  go_wp2_with fail
  refine(jt _ ns _ _ _ (h.below bel_)).mono ?_
  rintro e w1 ⟨rfl,Hb⟩;rw[hl];go_wp2;go_ret
  exact⟨z8 HR.out.symm,by exact bel_⟩
 cases hm:zt ns (c,d)
 ·have HR:=h_ (z0c (l:=(a,b)) hm)
  go_enter Tryz.func197,Tryz.ntmps197
  go_wp2_with fail
  refine(jt _ ns _ _ _ (h.below bel_)).mono ?_
  rintro e w1 ⟨rfl,Hb⟩;(have gl:=bcC Hb);have H7:=Hb.size;(try simp at H7)
  rw[hl];have Ha:Below w.heap.size w w1:=bel_
  go_wp2_with fail
  refine(jt _ ns _ _ _ (h.below bel_)).mono ?_
  rintro e w2 ⟨rfl,Hh⟩;rw[hm];go_wp2;go_ret
  exact⟨z8 HR.out.symm,by exact bel_⟩
 obtain⟨A,cp,rfl,hc,ro,hcell⟩:=h.formI;unfold maxLen at ro
 have fZ:0<ns.length:=by
  obtain⟨h1,h2,h3,_⟩:=zZ.1 hl;simp only at h1 h2 h3
  omega
 obtain⟨gb,off,rfl,Fn,Hz⟩:=hcell fZ;obtain⟨p,q,ax,ay,bx,by',rfl,rfl,Ft,hq,ea,eb,va,vb,k0,k1,k2,k3⟩:=yT hl Hz;obtain⟨r,s,cx,cy,dx,dy,rfl,rfl,hrs,hs,ec,ed,vc,vd,j0,j1,j2,j3⟩:=yT hm Hz;have HR:=h_ (XU hl hm ea eb ec ed);have HZ:=h_ (z5B ax ay bx by' cx cy dx dy);have q1:=z4u (Jt (q8 ax ay bx by' cx cy)) (Jt (q8 ax ay bx by' dx dy));have q2:=z4u (Jt (q8 cx cy dx dy ax ay)) (Jt (q8 cx cy dx dy bx by'));have hp:p<ns.length:=o_
 have hr:r<ns.length:=o_
 have n1:gb<w.heap.size+1+1:=o_
 clear Hz hcell fZ ea eb ec ed hc
 go_enter Tryz.func197,Tryz.ntmps197
 go_wp2_with fail
 refine(jt _ ns _ _ _ (h.below bel_)).mono ?_
 rintro e w1 ⟨rfl,Hb⟩;(have gl:=bcC Hb);have H7:=Hb.size;(try simp at H7);(try have gY:=p0_ w w1);(try have Gv:=p1_ w w1)
 rw[hl];have Ha:Below w.heap.size w w1:=bel_
 go_wp2_with fail
 refine(jt _ ns _ _ _ (h.below bel_)).mono ?_
 rintro e w2 ⟨rfl,Hh⟩;(have gV:=bcC Hh);have Gp:=Hh.size;(try simp at Gp);(try have Gc:=p0_ w w2);(try have Gd:=p1_ w w2)
 rw[hm];have Hc:Below w.heap.size w w2:=bel_
 have m1:gb<w1.heap.size:=o_
 have m2:gb<w2.heap.size:=o_
 have m3:gb<w2.heap.size+1:=o_
 have m4:gb<w2.heap.size+1+1:=o_
 clear h hl hm
 go_wp2_with (go_at_call 240;refine(vA _ _ _ _ _ _ _).mono ?_;rintro e w3 ⟨rfl,Hg⟩;(have GK:=bcC Hg);have fC:=Hg.size;(try simp at fC);(try have F1:=p0_ w w3);(try have F2:=p1_ w w3);(try have Me:=p2_ w w3);(try have WE:=p3_ w w3);(have hq3_0:w2.heap.size<w3.heap.size:=by omega);(have hq3_1:w2.heap.size+1<w3.heap.size:=by omega);(have hq3_2:w2.heap.size+1+1<w3.heap.size:=by omega);(have hq3_3:w2.heap.size+1+1+1<w3.heap.size:=by omega))
 all_goals first|(go_ret;exact⟨z8 (by rw[HR.out];have z:=HZ.out;unfold z9m at z;clear HR HZ;simp_all),by exact bel_⟩)|skip
 by_cases bS:Int.sign (q8 ax ay bx by' cx cy)*Int.sign (q8 ax ay bx by' dx dy)<0
 ·have HN:=h_ ((vD _ _).1 bS)
  (refine z7 k_ k_ (fun hG=>?_))
  repeat (go_big_quiet_step (first|(go_at_call 243;exact zE (Qe _ _ _ _ _ _ _ (by assumption) (by assumption) (by assumption)))|(go_at_call 242;exact zY (z06 _ _))))
  (refine wpQuiet_nil ?_);(clear hG);(rintro w4 ⟨⟨_,H5⟩,rfl⟩);(try dsimp only)
  go_wp2;go_ret
  refine⟨z8 ?_,by exact bel_⟩
  rw[HR.out];have bE:=HN.out
  (try simp only[vD])
  clear HR HZ HN bS
  first|(simp_all;done)|(simp_all;intro hh;omega)
 ·have HN:=h_ (fun h=>bS ((vD _ _).2 h))
  (refine z7 k_ k_ (fun hG=>?_))
  repeat (go_big_quiet_step (first|(go_at_call 243;exact zE (Qe _ _ _ _ _ _ _ (by assumption) (by assumption) (by assumption)))|(go_at_call 242;exact zY (z06 _ _))))
  (refine wpQuiet_nil ?_);(clear hG);(rintro w4 ⟨⟨_,H5⟩,rfl⟩);(try dsimp only)
  go_wp2;go_ret
  refine⟨z8 ?_,by exact bel_⟩
  rw[HR.out];have bE:=HN.out
  (try simp only[vD])
  clear HR HZ HN bS
  first|(simp_all;done)|(simp_all;intro hh;omega)
theorem z4i (v:Value) (ns:List Pr) (a b c d:Int) (w:World) (h:RP w v ns) (Gn:q9 ns=true):
  CB_ 157 #[v,.agg #[.int .i64 a,.int .i64 b],.agg #[.int .i64 c,.int .i64 d]] w (.bool (qO ns (a,b) (c,d))):=by
 cases hl:zt ns (a,b)
 ·have HR:=h_ (XP (m:=(c,d)) hl)
  go_enter Tryz.func157,Tryz.ntmps157
  go_wp2_with fail
  refine(js _ ns _ _ _ (h.below bel_) Gn).mono ?_
  rintro e w1 ⟨rfl,Hb⟩;rw[hl];go_wp2;go_ret
  exact⟨z8 HR.out.symm,by exact bel_⟩
 cases hm:zt ns (c,d)
 ·have HR:=h_ (z0c (l:=(a,b)) hm)
  go_enter Tryz.func157,Tryz.ntmps157
  go_wp2_with fail
  refine(js _ ns _ _ _ (h.below bel_) Gn).mono ?_
  rintro e w1 ⟨rfl,Hb⟩;(have gl:=bcC Hb);have H7:=Hb.size;(try simp at H7)
  rw[hl];have Ha:Below w.heap.size w w1:=bel_
  go_wp2_with fail
  refine(js _ ns _ _ _ (h.below bel_) Gn).mono ?_
  rintro e w2 ⟨rfl,Hh⟩;rw[hm];go_wp2;go_ret
  exact⟨z8 HR.out.symm,by exact bel_⟩
 obtain⟨A,cp,rfl,hc,ro,hcell⟩:=h.formI;unfold maxLen at ro
 have fZ:0<ns.length:=by
  obtain⟨h1,h2,h3,_⟩:=zZ.1 hl;simp only at h1 h2 h3
  omega
 obtain⟨gb,off,rfl,Fn,Hz⟩:=hcell fZ;obtain⟨p,q,ax,ay,bx,by',rfl,rfl,Ft,hq,ea,eb,va,vb,k0,k1,k2,k3⟩:=yT hl Hz;obtain⟨r,s,cx,cy,dx,dy,rfl,rfl,hrs,hs,ec,ed,vc,vd,j0,j1,j2,j3⟩:=yT hm Hz;have HR:=h_ (XU hl hm ea eb ec ed);have q1:=z4w (QS va vb vc) (QS va vb vd);have q2:=z4w (QS vc vd va) (QS vc vd vb);have hp:p<ns.length:=o_
 have hr:r<ns.length:=o_
 clear Hz hcell fZ ea eb ec ed hc
 go_enter Tryz.func157,Tryz.ntmps157
 go_wp2_with fail
 refine(js _ ns _ _ _ (h.below bel_) Gn).mono ?_
 rintro e w1 ⟨rfl,Hb⟩;(have gl:=bcC Hb);have H7:=Hb.size;(try simp at H7);(try have gY:=p0_ w w1);(try have Gv:=p1_ w w1)
 rw[hl];have Ha:Below w.heap.size w w1:=bel_
 go_wp2_with fail
 refine(js _ ns _ _ _ (h.below bel_) Gn).mono ?_
 rintro e w2 ⟨rfl,Hh⟩;have Gp:=Hh.size;(try simp at Gp);(try have Gc:=p0_ w w2);(try have Gd:=p1_ w w2)
 rw[hm];have Hc:Below w.heap.size w w2:=bel_
 have NP:Blk w1 w.heap.size 108 #[.int .i64 p,.int .i64 q]:=Blk.below ((Blk.newAt rfl).alloc _) Hb sz_;have hM1:Blk w1 (w.heap.size+1) 108 #[.int .i64 r,.int .i64 s]:=Blk.below (Blk.newAt (by simp)) Hb sz_;have rp:=NP.below Hh o_;have hM2:=hM1.below Hh o_;have m2:gb<w2.heap.size:=o_
 have e0:=(Hc.cell (p:=⟨gb,off+p*2,none⟩) Fn).trans k0;have e1:=(Hc.cell (p:=⟨gb,off+p*2+1,none⟩) Fn).trans k1;have e2:=(Hc.cell (p:=⟨gb,off+q*2,none⟩) Fn).trans k2;have e3:=(Hc.cell (p:=⟨gb,off+q*2+1,none⟩) Fn).trans k3;have e4:=(Hc.cell (p:=⟨gb,off+r*2,none⟩) Fn).trans j0;have e5:=(Hc.cell (p:=⟨gb,off+r*2+1,none⟩) Fn).trans j1;have e6:=(Hc.cell (p:=⟨gb,off+s*2,none⟩) Fn).trans j2;have e7:=(Hc.cell (p:=⟨gb,off+s*2+1,none⟩) Fn).trans j3;have z1:w.heap.size<w2.heap.size:=o_
 have z2:w.heap.size+1<w2.heap.size:=o_
 have y3:w.heap.size<w2.heap.size+1:=o_
 have y5:gb<w2.heap.size+1:=o_
 clear h hl hm Hb gl H7 Hh Ha Gp k0 k1 k2 k3 j0 j1 j2 j3 Fn NP hM1 gY Gv Gc Gd;obtain⟨l_0,l_1⟩:=rp.c2;generalize w.heap.size+1=B1 at*
 go_wp2_with fail
 go_cut [7,8] (fun s7 s8 wx=>∃x y:Nat,s7= .pointer (some ⟨x,0,none⟩)/\s8= .pointer (some ⟨y,0,none⟩)/\Below w2.heap.size w2 wx/\x<wx.heap.size/\y<wx.heap.size/\
   (wx.cell? ⟨x,0,none⟩=some (.int .i64 ax)/\wx.cell? ⟨x,1,none⟩=some (.int .i64 ay))/\(wx.cell? ⟨y,0,none⟩=some (.int .i64 bx)/\wx.cell? ⟨y,1,none⟩=some (.int .i64 by')))
 case first=>
  go_region
  all_goals go_wp2
  all_goals go_meet
  all_goals exact⟨_,_,rfl,rfl,by exact bel_,sz_,sz_,⟨by simp,by simp⟩,⟨by simp,by simp⟩⟩
 case rest=>
  obtain⟨x,y,rfl,rfl,Gl,hx,hy,⟨f0,f1⟩,⟨f2,f3⟩⟩:=hcut;obtain⟨w3,f8⟩:∃w3:World,w3=wc:=⟨_,rfl⟩;subst f8;have hM3:=hM2.below Gl z2;have d4:=(Gl.cell (p:=⟨gb,off+r*2,none⟩) m2).trans e4;have d5:=(Gl.cell (p:=⟨gb,off+r*2+1,none⟩) m2).trans e5;have d6:=(Gl.cell (p:=⟨gb,off+s*2,none⟩) m2).trans e6;have d7:=(Gl.cell (p:=⟨gb,off+s*2+1,none⟩) m2).trans e7;have fC:=Gl.size;have z3:B1<w3.heap.size:=o_
  have z4:B1<w3.heap.size+1:=o_
  have z5:gb<w3.heap.size:=o_
  have z6:gb<w3.heap.size+1:=o_
  have He:Below w.heap.size w w3:=Hc.trans (Gl.mono Hc.size);clear e0 e1 e2 e3 e4 e5 e6 e7 Gl hM2 rp l_0 l_1 Hc m2;obtain⟨l_0,l_1⟩:=hM3.c2
  go_wp2_with fail
  go_cut [9,10] (fun s7 s8 wx=>∃u v:Nat,s7= .pointer (some ⟨u,0,none⟩)/\s8= .pointer (some ⟨v,0,none⟩)/\Below w3.heap.size w3 wx/\u<wx.heap.size/\v<wx.heap.size/\
    (wx.cell? ⟨u,0,none⟩=some (.int .i64 cx)/\wx.cell? ⟨u,1,none⟩=some (.int .i64 cy))/\(wx.cell? ⟨v,0,none⟩=some (.int .i64 dx)/\wx.cell? ⟨v,1,none⟩=some (.int .i64 dy)))
  case first=>
   go_region
   all_goals go_wp2
   all_goals go_meet
   all_goals exact⟨_,_,rfl,rfl,by exact bel_,sz_,sz_,⟨by simp,by simp⟩,⟨by simp,by simp⟩⟩
  case rest=>
   obtain⟨u,v,rfl,rfl,Gl,hu,hv,⟨f4,f5⟩,⟨f6,f7⟩⟩:=hcut;obtain⟨w4,mm⟩:∃w4:World,w4=wc:=⟨_,rfl⟩;subst mm;have g0:=(Gl.cell (p:=⟨x,0,none⟩) hx).trans f0;have g1:=(Gl.cell (p:=⟨x,1,none⟩) hx).trans f1;have g2:=(Gl.cell (p:=⟨y,0,none⟩) hy).trans f2;have g3:=(Gl.cell (p:=⟨y,1,none⟩) hy).trans f3;have BA:=Gl.size;have Ho:Below w.heap.size w w4:=He.trans (Gl.mono He.size);have hx4:x<w4.heap.size:=o_
   have hy4:y<w4.heap.size:=o_
   clear f0 f1 f2 f3 d4 d5 d6 d7 Gl hM3 l_0 l_1 He hx hy;obtain⟨E,hE⟩:∃E,((prB ax ay cx cy&&prB bx by' dx dy)||(prB ax ay dx dy&&prB bx by' cx cy))=E:=⟨_,rfl⟩;have HE:=h_ hE;rw[hE] at HR;clear hE
   go_upto_region 5 with (fail)
   go_cut [58] (fun s58 wx=>s58= .bool E/\wx=w4)
   case first=>
    go_wp2
    all_goals go_meet
    all_goals exact⟨by rw[<-HE.out];simp_all,rfl⟩
   case rest=>
    obtain⟨rfl,rfl⟩:=hcut;clear HE
    cases E
    ·go_wp2_with (go_at_call 213;refine(kO _ _ _ _ _ _ _).mono ?_;rintro e w5 ⟨rfl,gk⟩;(have Cs:=bcC gk);have nm:=gk.size;(try simp at nm);(try have hp5_0:=p0_ w w5);(have i1:x<w5.heap.size:=by omega);(have i2:y<w5.heap.size:=by omega);(have i3:u<w5.heap.size:=by omega);(have i4:v<w5.heap.size:=by omega))
     all_goals first|(go_ret;exact⟨z8 (by rw[HR.out];clear HR;simp_all),by exact bel_⟩)|skip
     by_cases bS:q8 ax ay bx by' cx cy*q8 ax ay bx by' dx dy<0
     ·have HN:=h_ bS
      (refine z7 k_ k_ (fun hG=>?_))
      repeat (go_big_quiet_step ((go_at_call 214;exact zE (Q3 _ _ _ _ _ _ _ (by assumption) (by assumption) (by assumption)))))
      (refine wpQuiet_nil ?_);(clear hG);(rintro w6 ⟨⟨_,gJ⟩,rfl⟩);(try dsimp only)
      go_wp2;go_ret
      refine⟨z8 ?_,by exact bel_⟩
      rw[HR.out];have bE:=HN.out;clear HR HN bS
      first|(simp_all;done)|(simp_all;intro hh;omega)
     ·have HN:=h_ bS
      (refine z7 k_ k_ (fun hG=>?_))
      repeat (go_big_quiet_step ((go_at_call 214;exact zE (Q3 _ _ _ _ _ _ _ (by assumption) (by assumption) (by assumption)))))
      (refine wpQuiet_nil ?_);(clear hG);(rintro w6 ⟨⟨_,gJ⟩,rfl⟩);(try dsimp only)
      go_wp2;go_ret
      refine⟨z8 ?_,by exact bel_⟩
      rw[HR.out];have bE:=HN.out;clear HR HN bS
      first|(simp_all;done)|(simp_all;intro hh;omega)
    ·go_wp2
     go_ret
     exact⟨z8 (by rw[HR.out];simp),by exact bel_⟩
attribute [local go_sem ↓] zr zq zU zT
theorem z7I {ns:List Pr} {p q:Nat} {ax ay bx by' nx ny:Int} (h1:zt ns (p,q)=true) (ea:ndI ns p=(ax,ay)) (eb:ndI ns q=(bx,by')):
  onB ns (p,q) (nx,ny)=(prB nx ny ax ay||prB nx ny bx by'||yI ax ay bx by' nx ny):=by
 simp[onB,h1,ea,eb,qz,jh]
theorem z2D (v:Value) (ns:List Pr) (a b nx ny:Int) (w:World) (h:RP w v ns):
  CB_ 198 #[v,.agg #[.int .i64 a,.int .i64 b],.agg #[.int .i64 nx,.int .i64 ny]] w (.bool (onB ns (a,b) (nx,ny))):=by
 cases hl:zt ns (a,b)
 ·have HR:=h_ (z9n (n:=(nx,ny)) hl)
  go_enter Tryz.func198,Tryz.ntmps198
  go_wp2_with fail
  refine(jt _ ns _ _ _ (h.below bel_)).mono ?_
  rintro e w1 ⟨rfl,Hb⟩;rw[hl];go_wp2;go_ret
  exact⟨z8 HR.out.symm,by exact bel_⟩
 obtain⟨A,cp,rfl,hc,ro,hcell⟩:=h.formI;unfold maxLen at ro
 have fZ:0<ns.length:=by
  obtain⟨h1,h2,h3,_⟩:=zZ.1 hl;simp only at h1 h2 h3
  omega
 obtain⟨gb,off,rfl,Fn,Hz⟩:=hcell fZ;obtain⟨p,q,ax,ay,bx,by',rfl,rfl,Ft,hq,ea,eb,va,vb,k0,k1,k2,k3⟩:=yT hl Hz;have HR:=h_ (z7I (nx:=nx) (ny:=ny) hl ea eb);have hp:p<ns.length:=o_
 have n1:gb<w.heap.size+1+1:=o_
 go_enter Tryz.func198,Tryz.ntmps198
 go_wp2_with fail
 refine(jt _ ns _ _ _ (h.below bel_)).mono ?_
 rintro e w1 ⟨rfl,Hb⟩;(have gl:=bcC Hb);have H7:=Hb.size;(try simp at H7);(try have gY:=p0_ w w1);(try have Gv:=p1_ w w1)
 rw[hl];have m1:gb<w1.heap.size:=o_
 go_wp2_with (go_at_call 240;refine(vA _ _ _ _ _ _ _).mono ?_;rintro e w3 ⟨rfl,Hg⟩)
 all_goals go_ret
 all_goals exact⟨z8 (by rw[HR.out];clear HR;simp_all),by exact bel_⟩
theorem z2U (v:Value) (ns:List Pr) (a b nx ny:Int) (w:World) (h:RP w v ns) (Gn:q9 ns=true):
  CB_ 158 #[v,.agg #[.int .i64 a,.int .i64 b],.agg #[.int .i64 nx,.int .i64 ny]] w (.bool (onB ns (a,b) (nx,ny))):=by
 cases hl:zt ns (a,b)
 ·have HR:=h_ (z9n (n:=(nx,ny)) hl)
  go_enter Tryz.func158,Tryz.ntmps158
  go_wp2_with fail
  refine(js _ ns _ _ _ (h.below bel_) Gn).mono ?_
  rintro e w1 ⟨rfl,Hb⟩;rw[hl];go_wp2;go_ret
  exact⟨z8 HR.out.symm,by exact bel_⟩
 obtain⟨A,cp,rfl,hc,ro,hcell⟩:=h.formI;unfold maxLen at ro
 have fZ:0<ns.length:=by
  obtain⟨h1,h2,h3,_⟩:=zZ.1 hl;simp only at h1 h2 h3
  omega
 obtain⟨gb,off,rfl,Fn,Hz⟩:=hcell fZ;obtain⟨p,q,ax,ay,bx,by',rfl,rfl,Ft,hq,ea,eb,va,vb,k0,k1,k2,k3⟩:=yT hl Hz;have HR:=h_ (z7I (nx:=nx) (ny:=ny) hl ea eb);have hp:p<ns.length:=o_
 go_enter Tryz.func158,Tryz.ntmps158
 go_wp2_with fail
 refine(js _ ns _ _ _ (h.below bel_) Gn).mono ?_
 rintro e w1 ⟨rfl,Hb⟩;have H7:=Hb.size;(try simp at H7);(try have gY:=p0_ w w1);(try have Gv:=p1_ w w1)
 rw[hl];have Ha:Below w.heap.size w w1:=bel_
 have NP:Blk w1 w.heap.size 108 #[.int .i64 p,.int .i64 q]:=Blk.below ((Blk.newAt rfl).alloc _) Hb sz_;have hM1:Blk w1 (w.heap.size+1) 106 #[.int .i64 nx,.int .i64 ny]:=Blk.below (Blk.newAt (by simp)) Hb sz_;have m1:gb<w1.heap.size:=o_
 have y5:gb<w1.heap.size+1:=o_
 have e0:=(Ha.cell (p:=⟨gb,off+p*2,none⟩) Fn).trans k0;have e1:=(Ha.cell (p:=⟨gb,off+p*2+1,none⟩) Fn).trans k1;have e2:=(Ha.cell (p:=⟨gb,off+q*2,none⟩) Fn).trans k2;have e3:=(Ha.cell (p:=⟨gb,off+q*2+1,none⟩) Fn).trans k3;have z1:w.heap.size<w1.heap.size:=o_
 have z2:w.heap.size+1<w1.heap.size:=o_
 have y3:w.heap.size<w1.heap.size+1:=o_
 obtain⟨l_0,l_1⟩:=NP.c2;generalize w.heap.size+1=B1 at*
 go_wp2_with fail
 go_cut [7,8] (fun s7 s8 wx=>∃x y:Nat,s7= .pointer (some ⟨x,0,none⟩)/\s8= .pointer (some ⟨y,0,none⟩)/\Below w1.heap.size w1 wx/\x<wx.heap.size/\y<wx.heap.size/\
   (wx.cell? ⟨x,0,none⟩=some (.int .i64 ax)/\wx.cell? ⟨x,1,none⟩=some (.int .i64 ay))/\(wx.cell? ⟨y,0,none⟩=some (.int .i64 bx)/\wx.cell? ⟨y,1,none⟩=some (.int .i64 by')))
 case first=>
  go_region
  all_goals go_wp2
  all_goals go_meet
  all_goals exact⟨_,_,rfl,rfl,by exact bel_,sz_,sz_,⟨by simp,by simp⟩,⟨by simp,by simp⟩⟩
 case rest=>
  obtain⟨x,y,rfl,rfl,Gl,hx,hy,⟨f0,f1⟩,⟨f2,f3⟩⟩:=hcut;obtain⟨w3,f8⟩:∃w3:World,w3=wc:=⟨_,rfl⟩;subst f8;have hM3:=hM1.below Gl z2;have fC:=Gl.size;have He:Below w.heap.size w w3:=Ha.trans (Gl.mono Ha.size);obtain⟨l_0,l_1⟩:=hM3.c2
  go_wp2_with (go_at_call 213;refine(kO _ _ _ _ _ _ _).mono ?_;rintro e w5 ⟨rfl,gk⟩)
  all_goals go_ret
  all_goals exact⟨z8 (by rw[HR.out];clear HR;simp_all),by exact bel_⟩
end Go.Proofs.YtnjcpljhmhdhkaaGreat
