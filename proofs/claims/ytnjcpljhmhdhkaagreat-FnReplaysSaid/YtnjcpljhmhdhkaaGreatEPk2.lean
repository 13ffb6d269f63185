/- part 2 -/
import Derived.Test.YtnjcpljhmhdhkaaGreatEPk0
set_option linter.unusedSimpArgs false
set_option linter.unusedVariables false
set_option maxRecDepth 100000
set_option maxHeartbeats 8000000
namespace Go.Proofs.YtnjcpljhmhdhkaaGreat
open Go.RowKit
attribute [local go_sem ↓] zr zt zR zQ
theorem z3M {u v:Int} (h1: -800<=u/\u<=800) (h3: -800<=v/\v<=800): -640000<=u*v/\u*v<=640000:=by
 have h:(u*v).natAbs <=800*800:=by
  rw[Int.natAbs_mul];exact Nat.mul_le_mul o_ o_
 omega
theorem XN {ns:List Pr} {l m:Pr} (h:zv ns l=false):qK ns l m=false:=by simp[qK,h]
theorem Xh {ns:List Pr} {l m:Pr} (h:zv ns m=false):qK ns l m=false:=by simp[qK,h]
theorem z8y {ns:List Pr} {l n:Pr} (h:zv ns l=false):onB ns l n=false:=by simp[onB,h]
theorem Xk {ns:List Pr} {p q r s:Nat} {ax ay bx by' cx cy dx dy:Int} (h1:zv ns (p,q)=true) (h2:zv ns (r,s)=true)
  (ea:ndI ns p=(ax,ay)) (eb:ndI ns q=(bx,by')) (ec:ndI ns r=(cx,cy)) (ed:ndI ns s=(dx,dy)):
  qK ns (p,q) (r,s)=(((prB ax ay cx cy&&prB bx by' dx dy)||(prB ax ay dx dy&&prB bx by' cx cy))||(yy ax ay bx by' cx cy||yy ax ay bx by' dx dy||yy cx cy dx dy ax ay||yy cx cy dx dy bx by')||
   (decide (q7 ax ay bx by' cx cy*q7 ax ay bx by' dx dy<0)&&decide (q7 cx cy dx dy ax ay*q7 cx cy dx dy bx by'<0))):=by
 simp[qK,h1,h2,ea,eb,ec,ed,jF,qt,jh,q9]
theorem z9R {w:World} {ns:List Pr} {b off:Nat} {a c:Int} (hl:zv ns (a,c)=true)
  (Hy:∀k:Nat,k<ns.length->w.cell? ⟨b,off+k*2,none⟩=some (.int .i64 (ndI ns k).1)/\w.cell? ⟨b,off+k*2+1,none⟩=some (.int .i64 (ndI ns k).2)):
  ∃(p q:Nat) (ax ay bx by':Int),a=(p:Int)/\c=(q:Int)/\p<q/\q<ns.length/\ndI ns p=(ax,ay)/\ndI ns q=(bx,by')/\zh ax ay=true/\zh bx by'=true/\
   w.cell? ⟨b,off+p*2,none⟩=some (.int .i64 ax)/\w.cell? ⟨b,off+p*2+1,none⟩=some (.int .i64 ay)/\w.cell? ⟨b,off+q*2,none⟩=some (.int .i64 bx)/\w.cell? ⟨b,off+q*2+1,none⟩=some (.int .i64 by'):=by
 obtain⟨h1,h2,h3,h4,h5,_⟩:=zZ.1 hl;simp only at h1 h2 h3 h4 h5
 obtain⟨p,rfl⟩:=Int.eq_ofNat_of_zero_le h1;obtain⟨q,rfl⟩:=Int.eq_ofNat_of_zero_le (show 0<=c by omega);obtain⟨k0,k1⟩:=Hy p o_;obtain⟨j0,j1⟩:=Hy q o_;exact⟨p,q,(ndI ns p).1,(ndI ns p).2,(ndI ns q).1,(ndI ns q).2,rfl,rfl,by omega,by omega,rfl,rfl,h4,h5,k0,k1,j0,j1⟩
theorem Ja (x:Int): -1<=Int.sign x/\Int.sign x<=1:=by
 rcases Int.lt_trichotomy x 0 with h|h|h
 ·rw[Int.sign_eq_neg_one_of_neg h];omega
 ·subst h;simp
 ·rw[Int.sign_eq_one_of_pos h];omega
theorem z4h {u v:Int} (h1: -1<=u/\u<=1) (h3: -1<=v/\v<=1): -1<=u*v/\u*v<=1:=by
 have h:(u*v).natAbs <=1*1:=by
  rw[Int.natAbs_mul];exact Nat.mul_le_mul o_ o_
 omega
theorem Xv (n:Int) (w:World):
  Calls Tryz.prog 242 #[.int .i64 n] w fun e w'=>e= .returned (.int .i64 (Int.sign n))/\w=w':=by
 go_enter Tryz.func242,Tryz.ntmps242
 go_wp2
 all_goals go_ret
 all_goals refine⟨zo ?_,rfl⟩
 all_goals symm
 ·exact Int.sign_eq_neg_one_of_neg o_
 ·exact Int.sign_eq_one_of_pos o_
 ·rw[show n=0 by omega];rfl
def z8z (ax ay bx by' cx cy dx dy:Int):Prop:=
 (prB ax ay cx cy=true->q7 ax ay bx by' cx cy=0)/\(prB ax ay dx dy=true->q7 ax ay bx by' dx dy=0)/\(prB bx by' cx cy=true->q7 ax ay bx by' cx cy=0)/\(prB bx by' dx dy=true->q7 ax ay bx by' dx dy=0)
theorem z53 (ax ay bx by' cx cy dx dy:Int):z8z ax ay bx by' cx cy dx dy:=by
 have t1:∀ax ay bx by' cx cy:Int,prB ax ay cx cy=true->q7 ax ay bx by' cx cy=0:=by
  intro ax ay bx by' cx cy h
  have:=vX.1 h;simp only[Prod.mk.injEq] at this
  obtain⟨rfl,rfl⟩:=this;exact z3C (ax,ay) (bx,by')
 have t2:∀ax ay bx by' cx cy:Int,prB bx by' cx cy=true->q7 ax ay bx by' cx cy=0:=by
  intro ax ay bx by' cx cy h
  have:=vX.1 h;simp only[Prod.mk.injEq] at this
  obtain⟨rfl,rfl⟩:=this;exact JW (ax,ay) (bx,by')
 exact⟨t1 _ _ _ _ _ _,t1 _ _ _ _ _ _,t2 _ _ _ _ _ _,t2 _ _ _ _ _ _⟩
theorem z2P (v:Value) (ns:List Pr) (a b c d:Int) (w:World) (h:RP w v ns):
  CB_ 197 #[v,.agg #[.int .i64 a,.int .i64 b],.agg #[.int .i64 c,.int .i64 d]] w (.bool (qK ns (a,b) (c,d))):=by
 cases hl:zv ns (a,b)
 ·have HR:=h_ (XN (m:=(c,d)) hl)
  go_enter Tryz.func197,Tryz.ntmps197
  go_wp2_with fail
  refine(jp _ ns _ _ _ (h.below bel_)).mono ?_
  rintro e w1 ⟨rfl,h9⟩;rw[hl];go_wp2;go_ret
  exact⟨z8 HR.out.symm,by exact bel_⟩
 cases hm:zv ns (c,d)
 ·have HR:=h_ (Xh (l:=(a,b)) hm)
  go_enter Tryz.func197,Tryz.ntmps197
  go_wp2_with fail
  refine(jp _ ns _ _ _ (h.below bel_)).mono ?_
  rintro e w1 ⟨rfl,h9⟩;(have gc:=bcC h9);have Ht:=h9.size;(try simp at Ht)
  rw[hl];have h8:Below w.heap.size w w1:=bel_
  go_wp2_with fail
  refine(jp _ ns _ _ _ (h.below bel_)).mono ?_
  rintro e w2 ⟨rfl,Hd⟩;rw[hm];go_wp2;go_ret
  exact⟨z8 HR.out.symm,by exact bel_⟩
 obtain⟨A,cp,rfl,hc,Ng,hcell⟩:=h.formI;unfold maxLen at Ng
 have fv:0<ns.length:=by
  obtain⟨h1,h2,h3,_⟩:=zZ.1 hl;simp only at h1 h2 h3
  omega
 obtain⟨gb,off,rfl,fM,Hy⟩:=hcell fv;obtain⟨p,q,ax,ay,bx,by',rfl,rfl,fZ,hq,ea,eb,va,vb,k0,k1,k2,k3⟩:=z9R hl Hy;obtain⟨r,s,cx,cy,dx,dy,rfl,rfl,hrs,hs,ec,ed,vc,vd,j0,j1,j2,j3⟩:=z9R hm Hy;have HR:=h_ (Xk hl hm ea eb ec ed);have HZ:=h_ (z53 ax ay bx by' cx cy dx dy);have q1:=z4h (Ja (q7 ax ay bx by' cx cy)) (Ja (q7 ax ay bx by' dx dy));have q2:=z4h (Ja (q7 cx cy dx dy ax ay)) (Ja (q7 cx cy dx dy bx by'));have hp:p<ns.length:=o_
 have hr:r<ns.length:=o_
 have n1:gb<w.heap.size+1+1:=o_
 clear Hy hcell fv ea eb ec ed hc
 go_enter Tryz.func197,Tryz.ntmps197
 go_wp2_with fail
 refine(jp _ ns _ _ _ (h.below bel_)).mono ?_
 rintro e w1 ⟨rfl,h9⟩;(have gc:=bcC h9);have Ht:=h9.size;(try simp at Ht);(try have gF:=p0_ w w1);(try have Ge:=p1_ w w1)
 rw[hl];have h8:Below w.heap.size w w1:=bel_
 go_wp2_with fail
 refine(jp _ ns _ _ _ (h.below bel_)).mono ?_
 rintro e w2 ⟨rfl,Hd⟩;(have gE:=bcC Hd);have Gh:=Hd.size;(try simp at Gh);(try have gI:=p0_ w w2);(try have gJ:=p1_ w w2)
 rw[hm];have Ha:Below w.heap.size w w2:=bel_
 have m1:gb<w1.heap.size:=o_
 have m2:gb<w2.heap.size:=o_
 have m3:gb<w2.heap.size+1:=o_
 have m4:gb<w2.heap.size+1+1:=o_
 clear h hl hm
 go_wp2_with (go_at_call 240;refine(vk _ _ _ _ _ _ _).mono ?_;rintro e w3 ⟨rfl,He⟩;(have Gy:=bcC He);have G5:=He.size;(try simp at G5);(try have Fw:=p0_ w w3);(try have Fy:=p1_ w w3);(try have ml:=p2_ w w3);(try have UV:=p3_ w w3);(have hq3_0:w2.heap.size<w3.heap.size:=by omega);(have hq3_1:w2.heap.size+1<w3.heap.size:=by omega);(have hq3_2:w2.heap.size+1+1<w3.heap.size:=by omega);(have hq3_3:w2.heap.size+1+1+1<w3.heap.size:=by omega))
 all_goals first|(go_ret;exact⟨z8 (by rw[HR.out];have z:=HZ.out;unfold z8z at z;clear HR HZ;simp_all),by exact bel_⟩)|skip
 by_cases CE:Int.sign (q7 ax ay bx by' cx cy)*Int.sign (q7 ax ay bx by' dx dy)<0
 ·have HN:=h_ ((z9Y _ _).1 CE)
  (refine z7 k_ k_ (fun hG=>?_))
  repeat (go_big_quiet_step (first|(go_at_call 243;exact zI (xX _ _ _ _ _ _ _ (by assumption) (by assumption) (by assumption)))|(go_at_call 242;exact zY (Xv _ _))))
  (refine wpQuiet_nil ?_);(clear hG);(rintro w4 ⟨⟨_,Hw⟩,rfl⟩);(try dsimp only)
  go_wp2;go_ret
  refine⟨z8 ?_,by exact bel_⟩
  rw[HR.out];have CT:=HN.out
  (try simp only[z9Y])
  clear HR HZ HN CE
  first|(simp_all;done)|(simp_all;intro hh;omega)
 ·have HN:=h_ (fun h=>CE ((z9Y _ _).2 h))
  (refine z7 k_ k_ (fun hG=>?_))
  repeat (go_big_quiet_step (first|(go_at_call 243;exact zI (xX _ _ _ _ _ _ _ (by assumption) (by assumption) (by assumption)))|(go_at_call 242;exact zY (Xv _ _))))
  (refine wpQuiet_nil ?_);(clear hG);(rintro w4 ⟨⟨_,Hw⟩,rfl⟩);(try dsimp only)
  go_wp2;go_ret
  refine⟨z8 ?_,by exact bel_⟩
  rw[HR.out];have CT:=HN.out
  (try simp only[z9Y])
  clear HR HZ HN CE
  first|(simp_all;done)|(simp_all;intro hh;omega)
theorem z3c (v:Value) (ns:List Pr) (a b c d:Int) (w:World) (h:RP w v ns) (gV:q8 ns=true):
  CB_ 157 #[v,.agg #[.int .i64 a,.int .i64 b],.agg #[.int .i64 c,.int .i64 d]] w (.bool (qK ns (a,b) (c,d))):=by
 cases hl:zv ns (a,b)
 ·have HR:=h_ (XN (m:=(c,d)) hl)
  go_enter Tryz.func157,Tryz.ntmps157
  go_wp2_with fail
  refine(jr _ ns _ _ _ (h.below bel_) gV).mono ?_
  rintro e w1 ⟨rfl,h9⟩;rw[hl];go_wp2;go_ret
  exact⟨z8 HR.out.symm,by exact bel_⟩
 cases hm:zv ns (c,d)
 ·have HR:=h_ (Xh (l:=(a,b)) hm)
  go_enter Tryz.func157,Tryz.ntmps157
  go_wp2_with fail
  refine(jr _ ns _ _ _ (h.below bel_) gV).mono ?_
  rintro e w1 ⟨rfl,h9⟩;(have gc:=bcC h9);have Ht:=h9.size;(try simp at Ht)
  rw[hl];have h8:Below w.heap.size w w1:=bel_
  go_wp2_with fail
  refine(jr _ ns _ _ _ (h.below bel_) gV).mono ?_
  rintro e w2 ⟨rfl,Hd⟩;rw[hm];go_wp2;go_ret
  exact⟨z8 HR.out.symm,by exact bel_⟩
 obtain⟨A,cp,rfl,hc,Ng,hcell⟩:=h.formI;unfold maxLen at Ng
 have fv:0<ns.length:=by
  obtain⟨h1,h2,h3,_⟩:=zZ.1 hl;simp only at h1 h2 h3
  omega
 obtain⟨gb,off,rfl,fM,Hy⟩:=hcell fv;obtain⟨p,q,ax,ay,bx,by',rfl,rfl,fZ,hq,ea,eb,va,vb,k0,k1,k2,k3⟩:=z9R hl Hy;obtain⟨r,s,cx,cy,dx,dy,rfl,rfl,hrs,hs,ec,ed,vc,vd,j0,j1,j2,j3⟩:=z9R hm Hy;have HR:=h_ (Xk hl hm ea eb ec ed);have q1:=z3M (Qv va vb vc) (Qv va vb vd);have q2:=z3M (Qv vc vd va) (Qv vc vd vb);have hp:p<ns.length:=o_
 have hr:r<ns.length:=o_
 clear Hy hcell fv ea eb ec ed hc
 go_enter Tryz.func157,Tryz.ntmps157
 go_wp2_with fail
 refine(jr _ ns _ _ _ (h.below bel_) gV).mono ?_
 rintro e w1 ⟨rfl,h9⟩;(have gc:=bcC h9);have Ht:=h9.size;(try simp at Ht);(try have gF:=p0_ w w1);(try have Ge:=p1_ w w1)
 rw[hl];have h8:Below w.heap.size w w1:=bel_
 go_wp2_with fail
 refine(jr _ ns _ _ _ (h.below bel_) gV).mono ?_
 rintro e w2 ⟨rfl,Hd⟩;have Gh:=Hd.size;(try simp at Gh);(try have gI:=p0_ w w2);(try have gJ:=p1_ w w2)
 rw[hm];have Ha:Below w.heap.size w w2:=bel_
 have nH:Blk w1 w.heap.size 108 #[.int .i64 p,.int .i64 q]:=Blk.below ((Blk.newAt rfl).alloc _) h9 sz_;have Yq:Blk w1 (w.heap.size+1) 108 #[.int .i64 r,.int .i64 s]:=Blk.below (Blk.newAt (by simp)) h9 sz_;have Nh:=nH.below Hd o_;have hM2:=Yq.below Hd o_;have m2:gb<w2.heap.size:=o_
 have e0:=(Ha.cell (p:=⟨gb,off+p*2,none⟩) fM).trans k0;have e1:=(Ha.cell (p:=⟨gb,off+p*2+1,none⟩) fM).trans k1;have e2:=(Ha.cell (p:=⟨gb,off+q*2,none⟩) fM).trans k2;have e3:=(Ha.cell (p:=⟨gb,off+q*2+1,none⟩) fM).trans k3;have e4:=(Ha.cell (p:=⟨gb,off+r*2,none⟩) fM).trans j0;have e5:=(Ha.cell (p:=⟨gb,off+r*2+1,none⟩) fM).trans j1;have e6:=(Ha.cell (p:=⟨gb,off+s*2,none⟩) fM).trans j2;have e7:=(Ha.cell (p:=⟨gb,off+s*2+1,none⟩) fM).trans j3;have z1:w.heap.size<w2.heap.size:=o_
 have z2:w.heap.size+1<w2.heap.size:=o_
 have y3:w.heap.size<w2.heap.size+1:=o_
 have y5:gb<w2.heap.size+1:=o_
 clear h hl hm h9 gc Ht Hd h8 Gh k0 k1 k2 k3 j0 j1 j2 j3 fM nH Yq gF Ge gI gJ;obtain⟨l_0,l_1⟩:=Nh.c2;generalize w.heap.size+1=B1 at*
 go_wp2_with fail
 go_cut [7,8] (fun s7 s8 wx=>∃x y:Nat,s7= .pointer (some ⟨x,0,none⟩)/\s8= .pointer (some ⟨y,0,none⟩)/\Below w2.heap.size w2 wx/\x<wx.heap.size/\y<wx.heap.size/\
   (wx.cell? ⟨x,0,none⟩=some (.int .i64 ax)/\wx.cell? ⟨x,1,none⟩=some (.int .i64 ay))/\(wx.cell? ⟨y,0,none⟩=some (.int .i64 bx)/\wx.cell? ⟨y,1,none⟩=some (.int .i64 by')))
 case first=>
  go_region
  all_goals go_wp2
  all_goals go_meet
  all_goals exact⟨_,_,rfl,rfl,by exact bel_,sz_,sz_,⟨by simp,by simp⟩,⟨by simp,by simp⟩⟩
 case rest=>
  obtain⟨x,y,rfl,rfl,Gn,hx,hy,⟨f0,f1⟩,⟨f2,f3⟩⟩:=hcut;obtain⟨w3,GT⟩:∃w3:World,w3=wc:=⟨_,rfl⟩;subst GT;have Yr:=hM2.below Gn z2;have d4:=(Gn.cell (p:=⟨gb,off+r*2,none⟩) m2).trans e4;have d5:=(Gn.cell (p:=⟨gb,off+r*2+1,none⟩) m2).trans e5;have d6:=(Gn.cell (p:=⟨gb,off+s*2,none⟩) m2).trans e6;have d7:=(Gn.cell (p:=⟨gb,off+s*2+1,none⟩) m2).trans e7;have G5:=Gn.size;have z3:B1<w3.heap.size:=o_
  have z4:B1<w3.heap.size+1:=o_
  have z5:gb<w3.heap.size:=o_
  have z6:gb<w3.heap.size+1:=o_
  have Hc:Below w.heap.size w w3:=Ha.trans (Gn.mono Ha.size);clear e0 e1 e2 e3 e4 e5 e6 e7 Gn hM2 Nh l_0 l_1 Ha m2;obtain⟨l_0,l_1⟩:=Yr.c2
  go_wp2_with fail
  go_cut [9,10] (fun s7 s8 wx=>∃u v:Nat,s7= .pointer (some ⟨u,0,none⟩)/\s8= .pointer (some ⟨v,0,none⟩)/\Below w3.heap.size w3 wx/\u<wx.heap.size/\v<wx.heap.size/\
    (wx.cell? ⟨u,0,none⟩=some (.int .i64 cx)/\wx.cell? ⟨u,1,none⟩=some (.int .i64 cy))/\(wx.cell? ⟨v,0,none⟩=some (.int .i64 dx)/\wx.cell? ⟨v,1,none⟩=some (.int .i64 dy)))
  case first=>
   go_region
   all_goals go_wp2
   all_goals go_meet
   all_goals exact⟨_,_,rfl,rfl,by exact bel_,sz_,sz_,⟨by simp,by simp⟩,⟨by simp,by simp⟩⟩
  case rest=>
   obtain⟨u,v,rfl,rfl,Gn,hu,hv,⟨f4,f5⟩,⟨f6,f7⟩⟩:=hcut;obtain⟨w4,Bm⟩:∃w4:World,w4=wc:=⟨_,rfl⟩;subst Bm;have g0:=(Gn.cell (p:=⟨x,0,none⟩) hx).trans f0;have g1:=(Gn.cell (p:=⟨x,1,none⟩) hx).trans f1;have g2:=(Gn.cell (p:=⟨y,0,none⟩) hy).trans f2;have g3:=(Gn.cell (p:=⟨y,1,none⟩) hy).trans f3;have bv:=Gn.size;have Hn:Below w.heap.size w w4:=Hc.trans (Gn.mono Hc.size);have hx4:x<w4.heap.size:=o_
   have hy4:y<w4.heap.size:=o_
   clear f0 f1 f2 f3 d4 d5 d6 d7 Gn Yr l_0 l_1 Hc hx hy;obtain⟨E,hE⟩:∃E,((prB ax ay cx cy&&prB bx by' dx dy)||(prB ax ay dx dy&&prB bx by' cx cy))=E:=⟨_,rfl⟩;have HE:=h_ hE;rw[hE] at HR;clear hE
   go_upto_region 5 with (fail)
   go_cut [58] (fun s58 wx=>s58= .bool E/\wx=w4)
   case first=>
    go_wp2
    all_goals go_meet
    all_goals exact⟨by rw[<-HE.out];simp_all,rfl⟩
   case rest=>
    obtain⟨rfl,rfl⟩:=hcut;clear HE
    cases E
    ·go_wp2_with (go_at_call 213;refine(kF _ _ _ _ _ _ _).mono ?_;rintro e w5 ⟨rfl,H0⟩;(have ci:=bcC H0);have UW:=H0.size;(try simp at UW);(try have hp5_0:=p0_ w w5);(have i1:x<w5.heap.size:=by omega);(have i2:y<w5.heap.size:=by omega);(have i3:u<w5.heap.size:=by omega);(have i4:v<w5.heap.size:=by omega))
     all_goals first|(go_ret;exact⟨z8 (by rw[HR.out];clear HR;simp_all),by exact bel_⟩)|skip
     by_cases CE:q7 ax ay bx by' cx cy*q7 ax ay bx by' dx dy<0
     ·have HN:=h_ CE
      (refine z7 k_ k_ (fun hG=>?_))
      repeat (go_big_quiet_step ((go_at_call 214;exact zI (xI _ _ _ _ _ _ _ (by assumption) (by assumption) (by assumption)))))
      (refine wpQuiet_nil ?_);(clear hG);(rintro w6 ⟨⟨_,gz⟩,rfl⟩);(try dsimp only)
      go_wp2;go_ret
      refine⟨z8 ?_,by exact bel_⟩
      rw[HR.out];have CT:=HN.out;clear HR HN CE
      first|(simp_all;done)|(simp_all;intro hh;omega)
     ·have HN:=h_ CE
      (refine z7 k_ k_ (fun hG=>?_))
      repeat (go_big_quiet_step ((go_at_call 214;exact zI (xI _ _ _ _ _ _ _ (by assumption) (by assumption) (by assumption)))))
      (refine wpQuiet_nil ?_);(clear hG);(rintro w6 ⟨⟨_,gz⟩,rfl⟩);(try dsimp only)
      go_wp2;go_ret
      refine⟨z8 ?_,by exact bel_⟩
      rw[HR.out];have CT:=HN.out;clear HR HN CE
      first|(simp_all;done)|(simp_all;intro hh;omega)
    ·go_wp2
     go_ret
     exact⟨z8 (by rw[HR.out];simp),by exact bel_⟩
attribute [local go_sem ↓] zr zt zR zQ
theorem z7a {ns:List Pr} {p q:Nat} {ax ay bx by' nx ny:Int} (h1:zv ns (p,q)=true) (ea:ndI ns p=(ax,ay)) (eb:ndI ns q=(bx,by')):
  onB ns (p,q) (nx,ny)=(prB nx ny ax ay||prB nx ny bx by'||yy ax ay bx by' nx ny):=by
 simp[onB,h1,ea,eb,qt,jh]
theorem z2r (v:Value) (ns:List Pr) (a b nx ny:Int) (w:World) (h:RP w v ns):
  CB_ 198 #[v,.agg #[.int .i64 a,.int .i64 b],.agg #[.int .i64 nx,.int .i64 ny]] w (.bool (onB ns (a,b) (nx,ny))):=by
 cases hl:zv ns (a,b)
 ·have HR:=h_ (z8y (n:=(nx,ny)) hl)
  go_enter Tryz.func198,Tryz.ntmps198
  go_wp2_with fail
  refine(jp _ ns _ _ _ (h.below bel_)).mono ?_
  rintro e w1 ⟨rfl,h9⟩;rw[hl];go_wp2;go_ret
  exact⟨z8 HR.out.symm,by exact bel_⟩
 obtain⟨A,cp,rfl,hc,Ng,hcell⟩:=h.formI;unfold maxLen at Ng
 have fv:0<ns.length:=by
  obtain⟨h1,h2,h3,_⟩:=zZ.1 hl;simp only at h1 h2 h3
  omega
 obtain⟨gb,off,rfl,fM,Hy⟩:=hcell fv;obtain⟨p,q,ax,ay,bx,by',rfl,rfl,fZ,hq,ea,eb,va,vb,k0,k1,k2,k3⟩:=z9R hl Hy;have HR:=h_ (z7a (nx:=nx) (ny:=ny) hl ea eb);have hp:p<ns.length:=o_
 have n1:gb<w.heap.size+1+1:=o_
 go_enter Tryz.func198,Tryz.ntmps198
 go_wp2_with fail
 refine(jp _ ns _ _ _ (h.below bel_)).mono ?_
 rintro e w1 ⟨rfl,h9⟩;(have gc:=bcC h9);have Ht:=h9.size;(try simp at Ht);(try have gF:=p0_ w w1);(try have Ge:=p1_ w w1)
 rw[hl];have m1:gb<w1.heap.size:=o_
 go_wp2_with (go_at_call 240;refine(vk _ _ _ _ _ _ _).mono ?_;rintro e w3 ⟨rfl,He⟩)
 all_goals go_ret
 all_goals exact⟨z8 (by rw[HR.out];clear HR;simp_all),by exact bel_⟩
theorem z1Q (v:Value) (ns:List Pr) (a b nx ny:Int) (w:World) (h:RP w v ns) (gV:q8 ns=true):
  CB_ 158 #[v,.agg #[.int .i64 a,.int .i64 b],.agg #[.int .i64 nx,.int .i64 ny]] w (.bool (onB ns (a,b) (nx,ny))):=by
 cases hl:zv ns (a,b)
 ·have HR:=h_ (z8y (n:=(nx,ny)) hl)
  go_enter Tryz.func158,Tryz.ntmps158
  go_wp2_with fail
  refine(jr _ ns _ _ _ (h.below bel_) gV).mono ?_
  rintro e w1 ⟨rfl,h9⟩;rw[hl];go_wp2;go_ret
  exact⟨z8 HR.out.symm,by exact bel_⟩
 obtain⟨A,cp,rfl,hc,Ng,hcell⟩:=h.formI;unfold maxLen at Ng
 have fv:0<ns.length:=by
  obtain⟨h1,h2,h3,_⟩:=zZ.1 hl;simp only at h1 h2 h3
  omega
 obtain⟨gb,off,rfl,fM,Hy⟩:=hcell fv;obtain⟨p,q,ax,ay,bx,by',rfl,rfl,fZ,hq,ea,eb,va,vb,k0,k1,k2,k3⟩:=z9R hl Hy;have HR:=h_ (z7a (nx:=nx) (ny:=ny) hl ea eb);have hp:p<ns.length:=o_
 go_enter Tryz.func158,Tryz.ntmps158
 go_wp2_with fail
 refine(jr _ ns _ _ _ (h.below bel_) gV).mono ?_
 rintro e w1 ⟨rfl,h9⟩;have Ht:=h9.size;(try simp at Ht);(try have gF:=p0_ w w1);(try have Ge:=p1_ w w1)
 rw[hl];have h8:Below w.heap.size w w1:=bel_
 have nH:Blk w1 w.heap.size 108 #[.int .i64 p,.int .i64 q]:=Blk.below ((Blk.newAt rfl).alloc _) h9 sz_;have Yq:Blk w1 (w.heap.size+1) 106 #[.int .i64 nx,.int .i64 ny]:=Blk.below (Blk.newAt (by simp)) h9 sz_;have m1:gb<w1.heap.size:=o_
 have y5:gb<w1.heap.size+1:=o_
 have e0:=(h8.cell (p:=⟨gb,off+p*2,none⟩) fM).trans k0;have e1:=(h8.cell (p:=⟨gb,off+p*2+1,none⟩) fM).trans k1;have e2:=(h8.cell (p:=⟨gb,off+q*2,none⟩) fM).trans k2;have e3:=(h8.cell (p:=⟨gb,off+q*2+1,none⟩) fM).trans k3;have z1:w.heap.size<w1.heap.size:=o_
 have z2:w.heap.size+1<w1.heap.size:=o_
 have y3:w.heap.size<w1.heap.size+1:=o_
 obtain⟨l_0,l_1⟩:=nH.c2;generalize w.heap.size+1=B1 at*
 go_wp2_with fail
 go_cut [7,8] (fun s7 s8 wx=>∃x y:Nat,s7= .pointer (some ⟨x,0,none⟩)/\s8= .pointer (some ⟨y,0,none⟩)/\Below w1.heap.size w1 wx/\x<wx.heap.size/\y<wx.heap.size/\
   (wx.cell? ⟨x,0,none⟩=some (.int .i64 ax)/\wx.cell? ⟨x,1,none⟩=some (.int .i64 ay))/\(wx.cell? ⟨y,0,none⟩=some (.int .i64 bx)/\wx.cell? ⟨y,1,none⟩=some (.int .i64 by')))
 case first=>
  go_region
  all_goals go_wp2
  all_goals go_meet
  all_goals exact⟨_,_,rfl,rfl,by exact bel_,sz_,sz_,⟨by simp,by simp⟩,⟨by simp,by simp⟩⟩
 case rest=>
  obtain⟨x,y,rfl,rfl,Gn,hx,hy,⟨f0,f1⟩,⟨f2,f3⟩⟩:=hcut;obtain⟨w3,GT⟩:∃w3:World,w3=wc:=⟨_,rfl⟩;subst GT;have Yr:=Yq.below Gn z2;have G5:=Gn.size;have Hc:Below w.heap.size w w3:=h8.trans (Gn.mono h8.size);obtain⟨l_0,l_1⟩:=Yr.c2
  go_wp2_with (go_at_call 213;refine(kF _ _ _ _ _ _ _).mono ?_;rintro e w5 ⟨rfl,H0⟩)
  all_goals go_ret
  all_goals exact⟨z8 (by rw[HR.out];clear HR;simp_all),by exact bel_⟩
end Go.Proofs.YtnjcpljhmhdhkaaGreat
