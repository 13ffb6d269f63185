/- part 2 -/
import Derived.Test.YtnjcpljhmhdhkaaGreatUPk0
set_option linter.unusedSimpArgs false
set_option linter.unusedVariables false
set_option maxRecDepth 100000
set_option maxHeartbeats 8000000
namespace Go.Proofs.YtnjcpljhmhdhkaaGreat
open Go.RowKit
attribute [local go_sem ↓] zv zu qb qf
theorem z6n {u v:Int} (h1: -800<=u/\u<=800) (h3: -800<=v/\v<=800): -640000<=u*v/\u*v<=640000:=by
 have h:(u*v).natAbs <=800*800:=by
  rw[Int.natAbs_mul];exact Nat.mul_le_mul o_ o_
 omega
theorem z1f {ns:List Pr} {l m:Pr} (h:zp ns l=false):qW ns l m=false:=by simp[qW,h]
theorem z0o {ns:List Pr} {l m:Pr} (h:zp ns m=false):qW ns l m=false:=by simp[qW,h]
theorem zaC {ns:List Pr} {l n:Pr} (h:zp ns l=false):onB ns l n=false:=by simp[onB,h]
theorem z1q {ns:List Pr} {p q r s:Nat} {ax ay bx by' cx cy dx dy:Int} (h1:zp ns (p,q)=true) (h2:zp ns (r,s)=true)
  (ea:ndI ns p=(ax,ay)) (eb:ndI ns q=(bx,by')) (ec:ndI ns r=(cx,cy)) (ed:ndI ns s=(dx,dy)):
  qW ns (p,q) (r,s)=(((prB ax ay cx cy&&prB bx by' dx dy)||(prB ax ay dx dy&&prB bx by' cx cy))||(yI ax ay bx by' cx cy||yI ax ay bx by' dx dy||yI cx cy dx dy ax ay||yI cx cy dx dy bx by')||
   (decide (zU ax ay bx by' cx cy*zU ax ay bx by' dx dy<0)&&decide (zU cx cy dx dy ax ay*zU cx cy dx dy bx by'<0))):=by
 simp[qW,h1,h2,ea,eb,ec,ed,jI,qz,jE,zV]
theorem yN {w:World} {ns:List Pr} {b off:Nat} {a c:Int} (hl:zp ns (a,c)=true)
  (Ho:∀k:Nat,k<ns.length->w.cell? ⟨b,off+k*2,none⟩=some (.int .i64 (ndI ns k).1)/\w.cell? ⟨b,off+k*2+1,none⟩=some (.int .i64 (ndI ns k).2)):
  ∃(p q:Nat) (ax ay bx by':Int),a=(p:Int)/\c=(q:Int)/\p<q/\q<ns.length/\ndI ns p=(ax,ay)/\ndI ns q=(bx,by')/\zh ax ay=true/\zh bx by'=true/\
   w.cell? ⟨b,off+p*2,none⟩=some (.int .i64 ax)/\w.cell? ⟨b,off+p*2+1,none⟩=some (.int .i64 ay)/\w.cell? ⟨b,off+q*2,none⟩=some (.int .i64 bx)/\w.cell? ⟨b,off+q*2+1,none⟩=some (.int .i64 by'):=by
 obtain⟨h1,h2,h3,h4,h5,_⟩:=q9.1 hl;simp only at h1 h2 h3 h4 h5
 obtain⟨p,rfl⟩:=Int.eq_ofNat_of_zero_le h1;obtain⟨q,rfl⟩:=Int.eq_ofNat_of_zero_le (show 0<=c by omega);obtain⟨k0,k1⟩:=Ho p o_;obtain⟨j0,j1⟩:=Ho q o_;exact⟨p,q,(ndI ns p).1,(ndI ns p).2,(ndI ns q).1,(ndI ns q).2,rfl,rfl,by omega,by omega,rfl,rfl,h4,h5,k0,k1,j0,j1⟩
theorem V8 (x:Int): -1<=Int.sign x/\Int.sign x<=1:=by
 rcases Int.lt_trichotomy x 0 with h|h|h
 ·rw[Int.sign_eq_neg_one_of_neg h];omega
 ·subst h;simp
 ·rw[Int.sign_eq_one_of_pos h];omega
theorem z6i {u v:Int} (h1: -1<=u/\u<=1) (h3: -1<=v/\v<=1): -1<=u*v/\u*v<=1:=by
 have h:(u*v).natAbs <=1*1:=by
  rw[Int.natAbs_mul];exact Nat.mul_le_mul o_ o_
 omega
theorem z0x (n:Int) (w:World):
  Calls Tryz.prog 242 #[.int .i64 n] w fun e w'=>e= .returned (.int .i64 (Int.sign n))/\w=w':=by
 go_enter Tryz.func242,Tryz.ntmps242
 go_wp2
 all_goals go_ret
 all_goals refine⟨zb ?_,rfl⟩
 all_goals symm
 ·exact Int.sign_eq_neg_one_of_neg o_
 ·exact Int.sign_eq_one_of_pos o_
 ·rw[show n=0 by omega];rfl
def zaG (ax ay bx by' cx cy dx dy:Int):Prop:=
 (prB ax ay cx cy=true->zU ax ay bx by' cx cy=0)/\(prB ax ay dx dy=true->zU ax ay bx by' dx dy=0)/\(prB bx by' cx cy=true->zU ax ay bx by' cx cy=0)/\(prB bx by' dx dy=true->zU ax ay bx by' dx dy=0)
theorem z7m (ax ay bx by' cx cy dx dy:Int):zaG ax ay bx by' cx cy dx dy:=by
 have t1:∀ax ay bx by' cx cy:Int,prB ax ay cx cy=true->zU ax ay bx by' cx cy=0:=by
  intro ax ay bx by' cx cy h
  have:=kh.1 h;simp only[Prod.mk.injEq] at this
  obtain⟨rfl,rfl⟩:=this;exact z52 (ax,ay) (bx,by')
 have t2:∀ax ay bx by' cx cy:Int,prB bx by' cx cy=true->zU ax ay bx by' cx cy=0:=by
  intro ax ay bx by' cx cy h
  have:=kh.1 h;simp only[Prod.mk.injEq] at this
  obtain⟨rfl,rfl⟩:=this;exact VD (ax,ay) (bx,by')
 exact⟨t1 _ _ _ _ _ _,t1 _ _ _ _ _ _,t2 _ _ _ _ _ _,t2 _ _ _ _ _ _⟩
theorem z4Z (v:Value) (ns:List Pr) (a b c d:Int) (w:World) (h:RP w v ns):
  CB_ 197 #[v,.agg #[.int .i64 a,.int .i64 b],.agg #[.int .i64 c,.int .i64 d]] w (.bool (qW ns (a,b) (c,d))):=by
 cases hl:zp ns (a,b)
 ·have HR:=h_ (z1f (m:=(c,d)) hl)
  go_enter Tryz.func197,Tryz.ntmps197
  go_wp2_with fail
  refine(jp _ ns _ _ _ (h.below bel_)).mono ?_
  rintro e w1 ⟨rfl,h9⟩;rw[hl];go_wp2;go_ret
  exact⟨z8 HR.out.symm,by exact bel_⟩
 cases hm:zp ns (c,d)
 ·have HR:=h_ (z0o (l:=(a,b)) hm)
  go_enter Tryz.func197,Tryz.ntmps197
  go_wp2_with fail
  refine(jp _ ns _ _ _ (h.below bel_)).mono ?_
  rintro e w1 ⟨rfl,h9⟩;(have Gb:=bcC h9);have H8:=h9.size;(try simp at H8)
  rw[hl];have h8:Below w.heap.size w w1:=bel_
  go_wp2_with fail
  refine(jp _ ns _ _ _ (h.below bel_)).mono ?_
  rintro e w2 ⟨rfl,He⟩;rw[hm];go_wp2;go_ret
  exact⟨z8 HR.out.symm,by exact bel_⟩
 obtain⟨A,cp,rfl,hc,WO,hcell⟩:=h.formI;unfold maxLen at WO
 have GD:0<ns.length:=by
  obtain⟨h1,h2,h3,_⟩:=q9.1 hl;simp only at h1 h2 h3
  omega
 obtain⟨gb,off,rfl,FG,Ho⟩:=hcell GD;obtain⟨p,q,ax,ay,bx,by',rfl,rfl,FI,hq,ea,eb,va,vb,k0,k1,k2,k3⟩:=yN hl Ho;obtain⟨r,s,cx,cy,dx,dy,rfl,rfl,hrs,hs,ec,ed,vc,vd,j0,j1,j2,j3⟩:=yN hm Ho;have HR:=h_ (z1q hl hm ea eb ec ed);have HZ:=h_ (z7m ax ay bx by' cx cy dx dy);have q1:=z6i (V8 (zU ax ay bx by' cx cy)) (V8 (zU ax ay bx by' dx dy));have q2:=z6i (V8 (zU cx cy dx dy ax ay)) (V8 (zU cx cy dx dy bx by'));have hp:p<ns.length:=o_
 have hr:r<ns.length:=o_
 have n1:gb<w.heap.size+1+1:=o_
 clear Ho hcell GD ea eb ec ed hc
 go_enter Tryz.func197,Tryz.ntmps197
 go_wp2_with fail
 refine(jp _ ns _ _ _ (h.below bel_)).mono ?_
 rintro e w1 ⟨rfl,h9⟩;(have Gb:=bcC h9);have H8:=h9.size;(try simp at H8);(try have gR:=p0_ w w1);(try have Gk:=p1_ w w1)
 rw[hl];have h8:Below w.heap.size w w1:=bel_
 go_wp2_with fail
 refine(jp _ ns _ _ _ (h.below bel_)).mono ?_
 rintro e w2 ⟨rfl,He⟩;(have fa:=bcC He);have Gd:=He.size;(try simp at Gd);(try have gX:=p0_ w w2);(try have gY:=p1_ w w2)
 rw[hm];have Ha:Below w.heap.size w w2:=bel_
 have m1:gb<w1.heap.size:=o_
 have m2:gb<w2.heap.size:=o_
 have m3:gb<w2.heap.size+1:=o_
 have m4:gb<w2.heap.size+1+1:=o_
 clear h hl hm
 go_wp2_with (go_at_call 240;refine(xw _ _ _ _ _ _ _).mono ?_;rintro e w3 ⟨rfl,Hf⟩;(have fU:=bcC Hf);have fA:=Hf.size;(try simp at fA);(try have cP:=p0_ w w3);(try have cQ:=p1_ w w3);(try have No:=p2_ w w3);(try have hp3_3:=p3_ w w3);(have hq3_0:w2.heap.size<w3.heap.size:=by omega);(have hq3_1:w2.heap.size+1<w3.heap.size:=by omega);(have hq3_2:w2.heap.size+1+1<w3.heap.size:=by omega);(have hq3_3:w2.heap.size+1+1+1<w3.heap.size:=by omega))
 all_goals first|(go_ret;exact⟨z8 (by rw[HR.out];have z:=HZ.out;unfold zaG at z;clear HR HZ;simp_all),by exact bel_⟩)|skip
 by_cases fS:Int.sign (zU ax ay bx by' cx cy)*Int.sign (zU ax ay bx by' dx dy)<0
 ·have HN:=h_ ((vH _ _).1 fS)
  (refine z7 k_ k_ (fun hG=>?_))
  repeat (go_big_quiet_step (first|(go_at_call 243;exact zy (Qw _ _ _ _ _ _ _ (by assumption) (by assumption) (by assumption)))|(go_at_call 242;exact zT (z0x _ _))))
  (refine wpQuiet_nil ?_);(clear hG);(rintro w4 ⟨⟨_,Hv⟩,rfl⟩);(try dsimp only)
  go_wp2;go_ret
  refine⟨z8 ?_,by exact bel_⟩
  rw[HR.out];have CK:=HN.out
  (try simp only[vH])
  clear HR HZ HN fS
  first|(simp_all;done)|(simp_all;intro hh;omega)
 ·have HN:=h_ (fun h=>fS ((vH _ _).2 h))
  (refine z7 k_ k_ (fun hG=>?_))
  repeat (go_big_quiet_step (first|(go_at_call 243;exact zy (Qw _ _ _ _ _ _ _ (by assumption) (by assumption) (by assumption)))|(go_at_call 242;exact zT (z0x _ _))))
  (refine wpQuiet_nil ?_);(clear hG);(rintro w4 ⟨⟨_,Hv⟩,rfl⟩);(try dsimp only)
  go_wp2;go_ret
  refine⟨z8 ?_,by exact bel_⟩
  rw[HR.out];have CK:=HN.out
  (try simp only[vH])
  clear HR HZ HN fS
  first|(simp_all;done)|(simp_all;intro hh;omega)
theorem z5i (v:Value) (ns:List Pr) (a b c d:Int) (w:World) (h:RP w v ns) (fv:zW ns=true):
  CB_ 157 #[v,.agg #[.int .i64 a,.int .i64 b],.agg #[.int .i64 c,.int .i64 d]] w (.bool (qW ns (a,b) (c,d))):=by
 cases hl:zp ns (a,b)
 ·have HR:=h_ (z1f (m:=(c,d)) hl)
  go_enter Tryz.func157,Tryz.ntmps157
  go_wp2_with fail
  refine(jn _ ns _ _ _ (h.below bel_) fv).mono ?_
  rintro e w1 ⟨rfl,h9⟩;rw[hl];go_wp2;go_ret
  exact⟨z8 HR.out.symm,by exact bel_⟩
 cases hm:zp ns (c,d)
 ·have HR:=h_ (z0o (l:=(a,b)) hm)
  go_enter Tryz.func157,Tryz.ntmps157
  go_wp2_with fail
  refine(jn _ ns _ _ _ (h.below bel_) fv).mono ?_
  rintro e w1 ⟨rfl,h9⟩;(have Gb:=bcC h9);have H8:=h9.size;(try simp at H8)
  rw[hl];have h8:Below w.heap.size w w1:=bel_
  go_wp2_with fail
  refine(jn _ ns _ _ _ (h.below bel_) fv).mono ?_
  rintro e w2 ⟨rfl,He⟩;rw[hm];go_wp2;go_ret
  exact⟨z8 HR.out.symm,by exact bel_⟩
 obtain⟨A,cp,rfl,hc,WO,hcell⟩:=h.formI;unfold maxLen at WO
 have GD:0<ns.length:=by
  obtain⟨h1,h2,h3,_⟩:=q9.1 hl;simp only at h1 h2 h3
  omega
 obtain⟨gb,off,rfl,FG,Ho⟩:=hcell GD;obtain⟨p,q,ax,ay,bx,by',rfl,rfl,FI,hq,ea,eb,va,vb,k0,k1,k2,k3⟩:=yN hl Ho;obtain⟨r,s,cx,cy,dx,dy,rfl,rfl,hrs,hs,ec,ed,vc,vd,j0,j1,j2,j3⟩:=yN hm Ho;have HR:=h_ (z1q hl hm ea eb ec ed);have q1:=z6n (ZO va vb vc) (ZO va vb vd);have q2:=z6n (ZO vc vd va) (ZO vc vd vb);have hp:p<ns.length:=o_
 have hr:r<ns.length:=o_
 clear Ho hcell GD ea eb ec ed hc
 go_enter Tryz.func157,Tryz.ntmps157
 go_wp2_with fail
 refine(jn _ ns _ _ _ (h.below bel_) fv).mono ?_
 rintro e w1 ⟨rfl,h9⟩;(have Gb:=bcC h9);have H8:=h9.size;(try simp at H8);(try have gR:=p0_ w w1);(try have Gk:=p1_ w w1)
 rw[hl];have h8:Below w.heap.size w w1:=bel_
 go_wp2_with fail
 refine(jn _ ns _ _ _ (h.below bel_) fv).mono ?_
 rintro e w2 ⟨rfl,He⟩;have Gd:=He.size;(try simp at Gd);(try have gX:=p0_ w w2);(try have gY:=p1_ w w2)
 rw[hm];have Ha:Below w.heap.size w w2:=bel_
 have ur:Blk w1 w.heap.size 108 #[.int .i64 p,.int .i64 q]:=Blk.below ((Blk.newAt rfl).alloc _) h9 sz_;have hM1:Blk w1 (w.heap.size+1) 108 #[.int .i64 r,.int .i64 s]:=Blk.below (Blk.newAt (by simp)) h9 sz_;have uP:=ur.below He o_;have hM2:=hM1.below He o_;have m2:gb<w2.heap.size:=o_
 have e0:=(Ha.cell (p:=⟨gb,off+p*2,none⟩) FG).trans k0;have e1:=(Ha.cell (p:=⟨gb,off+p*2+1,none⟩) FG).trans k1;have e2:=(Ha.cell (p:=⟨gb,off+q*2,none⟩) FG).trans k2;have e3:=(Ha.cell (p:=⟨gb,off+q*2+1,none⟩) FG).trans k3;have e4:=(Ha.cell (p:=⟨gb,off+r*2,none⟩) FG).trans j0;have e5:=(Ha.cell (p:=⟨gb,off+r*2+1,none⟩) FG).trans j1;have e6:=(Ha.cell (p:=⟨gb,off+s*2,none⟩) FG).trans j2;have e7:=(Ha.cell (p:=⟨gb,off+s*2+1,none⟩) FG).trans j3;have z1:w.heap.size<w2.heap.size:=o_
 have z2:w.heap.size+1<w2.heap.size:=o_
 have y3:w.heap.size<w2.heap.size+1:=o_
 have y5:gb<w2.heap.size+1:=o_
 clear h hl hm h9 Gb H8 He h8 Gd k0 k1 k2 k3 j0 j1 j2 j3 FG ur hM1 gR Gk gX gY;obtain⟨l_0,l_1⟩:=uP.c2;generalize w.heap.size+1=B1 at*
 go_wp2_with fail
 go_cut [7,8] (fun s7 s8 wx=>∃x y:Nat,s7= .pointer (some ⟨x,0,none⟩)/\s8= .pointer (some ⟨y,0,none⟩)/\Below w2.heap.size w2 wx/\x<wx.heap.size/\y<wx.heap.size/\
   (wx.cell? ⟨x,0,none⟩=some (.int .i64 ax)/\wx.cell? ⟨x,1,none⟩=some (.int .i64 ay))/\(wx.cell? ⟨y,0,none⟩=some (.int .i64 bx)/\wx.cell? ⟨y,1,none⟩=some (.int .i64 by')))
 case first=>
  go_region
  all_goals go_wp2
  all_goals go_meet
  all_goals exact⟨_,_,rfl,rfl,by exact bel_,sz_,sz_,⟨by simp,by simp⟩,⟨by simp,by simp⟩⟩
 case rest=>
  obtain⟨x,y,rfl,rfl,Gs,hx,hy,⟨f0,f1⟩,⟨f2,f3⟩⟩:=hcut;obtain⟨w3,FW⟩:∃w3:World,w3=wc:=⟨_,rfl⟩;subst FW;have hM3:=hM2.below Gs z2;have d4:=(Gs.cell (p:=⟨gb,off+r*2,none⟩) m2).trans e4;have d5:=(Gs.cell (p:=⟨gb,off+r*2+1,none⟩) m2).trans e5;have d6:=(Gs.cell (p:=⟨gb,off+s*2,none⟩) m2).trans e6;have d7:=(Gs.cell (p:=⟨gb,off+s*2+1,none⟩) m2).trans e7;have fA:=Gs.size;have z3:B1<w3.heap.size:=o_
  have z4:B1<w3.heap.size+1:=o_
  have z5:gb<w3.heap.size:=o_
  have z6:gb<w3.heap.size+1:=o_
  have Hc:Below w.heap.size w w3:=Ha.trans (Gs.mono Ha.size);clear e0 e1 e2 e3 e4 e5 e6 e7 Gs hM2 uP l_0 l_1 Ha m2;obtain⟨l_0,l_1⟩:=hM3.c2
  go_wp2_with fail
  go_cut [9,10] (fun s7 s8 wx=>∃u v:Nat,s7= .pointer (some ⟨u,0,none⟩)/\s8= .pointer (some ⟨v,0,none⟩)/\Below w3.heap.size w3 wx/\u<wx.heap.size/\v<wx.heap.size/\
    (wx.cell? ⟨u,0,none⟩=some (.int .i64 cx)/\wx.cell? ⟨u,1,none⟩=some (.int .i64 cy))/\(wx.cell? ⟨v,0,none⟩=some (.int .i64 dx)/\wx.cell? ⟨v,1,none⟩=some (.int .i64 dy)))
  case first=>
   go_region
   all_goals go_wp2
   all_goals go_meet
   all_goals exact⟨_,_,rfl,rfl,by exact bel_,sz_,sz_,⟨by simp,by simp⟩,⟨by simp,by simp⟩⟩
  case rest=>
   obtain⟨u,v,rfl,rfl,Gs,hu,hv,⟨f4,f5⟩,⟨f6,f7⟩⟩:=hcut;obtain⟨w4,mw⟩:∃w4:World,w4=wc:=⟨_,rfl⟩;subst mw;have g0:=(Gs.cell (p:=⟨x,0,none⟩) hx).trans f0;have g1:=(Gs.cell (p:=⟨x,1,none⟩) hx).trans f1;have g2:=(Gs.cell (p:=⟨y,0,none⟩) hy).trans f2;have g3:=(Gs.cell (p:=⟨y,1,none⟩) hy).trans f3;have Bg:=Gs.size;have Hp:Below w.heap.size w w4:=Hc.trans (Gs.mono Hc.size);have hx4:x<w4.heap.size:=o_
   have hy4:y<w4.heap.size:=o_
   clear f0 f1 f2 f3 d4 d5 d6 d7 Gs hM3 l_0 l_1 Hc hx hy;obtain⟨E,hE⟩:∃E,((prB ax ay cx cy&&prB bx by' dx dy)||(prB ax ay dx dy&&prB bx by' cx cy))=E:=⟨_,rfl⟩;have HE:=h_ hE;rw[hE] at HR;clear hE
   go_upto_region 5 with (fail)
   go_cut [58] (fun s58 wx=>s58= .bool E/\wx=w4)
   case first=>
    go_wp2
    all_goals go_meet
    all_goals exact⟨by rw[<-HE.out];simp_all,rfl⟩
   case rest=>
    obtain⟨rfl,rfl⟩:=hcut;clear HE
    cases E
    ·go_wp2_with (go_at_call 213;refine(xm _ _ _ _ _ _ _).mono ?_;rintro e w5 ⟨rfl,gf⟩;(have cV:=bcC gf);have Ns:=gf.size;(try simp at Ns);(try have hp5_0:=p0_ w w5);(have i1:x<w5.heap.size:=by omega);(have i2:y<w5.heap.size:=by omega);(have i3:u<w5.heap.size:=by omega);(have i4:v<w5.heap.size:=by omega))
     all_goals first|(go_ret;exact⟨z8 (by rw[HR.out];clear HR;simp_all),by exact bel_⟩)|skip
     by_cases fS:zU ax ay bx by' cx cy*zU ax ay bx by' dx dy<0
     ·have HN:=h_ fS
      (refine z7 k_ k_ (fun hG=>?_))
      repeat (go_big_quiet_step ((go_at_call 214;exact zy (QF _ _ _ _ _ _ _ (by assumption) (by assumption) (by assumption)))))
      (refine wpQuiet_nil ?_);(clear hG);(rintro w6 ⟨⟨_,gk⟩,rfl⟩);(try dsimp only)
      go_wp2;go_ret
      refine⟨z8 ?_,by exact bel_⟩
      rw[HR.out];have CK:=HN.out;clear HR HN fS
      first|(simp_all;done)|(simp_all;intro hh;omega)
     ·have HN:=h_ fS
      (refine z7 k_ k_ (fun hG=>?_))
      repeat (go_big_quiet_step ((go_at_call 214;exact zy (QF _ _ _ _ _ _ _ (by assumption) (by assumption) (by assumption)))))
      (refine wpQuiet_nil ?_);(clear hG);(rintro w6 ⟨⟨_,gk⟩,rfl⟩);(try dsimp only)
      go_wp2;go_ret
      refine⟨z8 ?_,by exact bel_⟩
      rw[HR.out];have CK:=HN.out;clear HR HN fS
      first|(simp_all;done)|(simp_all;intro hh;omega)
    ·go_wp2
     go_ret
     exact⟨z8 (by rw[HR.out];simp),by exact bel_⟩
attribute [local go_sem ↓] zv zu qb qf
theorem z8T {ns:List Pr} {p q:Nat} {ax ay bx by' nx ny:Int} (h1:zp ns (p,q)=true) (ea:ndI ns p=(ax,ay)) (eb:ndI ns q=(bx,by')):
  onB ns (p,q) (nx,ny)=(prB nx ny ax ay||prB nx ny bx by'||yI ax ay bx by' nx ny):=by
 simp[onB,h1,ea,eb,qz,jE]
theorem z2T (v:Value) (ns:List Pr) (a b nx ny:Int) (w:World) (h:RP w v ns):
  CB_ 198 #[v,.agg #[.int .i64 a,.int .i64 b],.agg #[.int .i64 nx,.int .i64 ny]] w (.bool (onB ns (a,b) (nx,ny))):=by
 cases hl:zp ns (a,b)
 ·have HR:=h_ (zaC (n:=(nx,ny)) hl)
  go_enter Tryz.func198,Tryz.ntmps198
  go_wp2_with fail
  refine(jp _ ns _ _ _ (h.below bel_)).mono ?_
  rintro e w1 ⟨rfl,h9⟩;rw[hl];go_wp2;go_ret
  exact⟨z8 HR.out.symm,by exact bel_⟩
 obtain⟨A,cp,rfl,hc,WO,hcell⟩:=h.formI;unfold maxLen at WO
 have GD:0<ns.length:=by
  obtain⟨h1,h2,h3,_⟩:=q9.1 hl;simp only at h1 h2 h3
  omega
 obtain⟨gb,off,rfl,FG,Ho⟩:=hcell GD;obtain⟨p,q,ax,ay,bx,by',rfl,rfl,FI,hq,ea,eb,va,vb,k0,k1,k2,k3⟩:=yN hl Ho;have HR:=h_ (z8T (nx:=nx) (ny:=ny) hl ea eb);have hp:p<ns.length:=o_
 have n1:gb<w.heap.size+1+1:=o_
 go_enter Tryz.func198,Tryz.ntmps198
 go_wp2_with fail
 refine(jp _ ns _ _ _ (h.below bel_)).mono ?_
 rintro e w1 ⟨rfl,h9⟩;(have Gb:=bcC h9);have H8:=h9.size;(try simp at H8);(try have gR:=p0_ w w1);(try have Gk:=p1_ w w1)
 rw[hl];have m1:gb<w1.heap.size:=o_
 go_wp2_with (go_at_call 240;refine(xw _ _ _ _ _ _ _).mono ?_;rintro e w3 ⟨rfl,Hf⟩)
 all_goals go_ret
 all_goals exact⟨z8 (by rw[HR.out];clear HR;simp_all),by exact bel_⟩
theorem z3V (v:Value) (ns:List Pr) (a b nx ny:Int) (w:World) (h:RP w v ns) (fv:zW ns=true):
  CB_ 158 #[v,.agg #[.int .i64 a,.int .i64 b],.agg #[.int .i64 nx,.int .i64 ny]] w (.bool (onB ns (a,b) (nx,ny))):=by
 cases hl:zp ns (a,b)
 ·have HR:=h_ (zaC (n:=(nx,ny)) hl)
  go_enter Tryz.func158,Tryz.ntmps158
  go_wp2_with fail
  refine(jn _ ns _ _ _ (h.below bel_) fv).mono ?_
  rintro e w1 ⟨rfl,h9⟩;rw[hl];go_wp2;go_ret
  exact⟨z8 HR.out.symm,by exact bel_⟩
 obtain⟨A,cp,rfl,hc,WO,hcell⟩:=h.formI;unfold maxLen at WO
 have GD:0<ns.length:=by
  obtain⟨h1,h2,h3,_⟩:=q9.1 hl;simp only at h1 h2 h3
  omega
 obtain⟨gb,off,rfl,FG,Ho⟩:=hcell GD;obtain⟨p,q,ax,ay,bx,by',rfl,rfl,FI,hq,ea,eb,va,vb,k0,k1,k2,k3⟩:=yN hl Ho;have HR:=h_ (z8T (nx:=nx) (ny:=ny) hl ea eb);have hp:p<ns.length:=o_
 go_enter Tryz.func158,Tryz.ntmps158
 go_wp2_with fail
 refine(jn _ ns _ _ _ (h.below bel_) fv).mono ?_
 rintro e w1 ⟨rfl,h9⟩;have H8:=h9.size;(try simp at H8);(try have gR:=p0_ w w1);(try have Gk:=p1_ w w1)
 rw[hl];have h8:Below w.heap.size w w1:=bel_
 have ur:Blk w1 w.heap.size 108 #[.int .i64 p,.int .i64 q]:=Blk.below ((Blk.newAt rfl).alloc _) h9 sz_;have hM1:Blk w1 (w.heap.size+1) 106 #[.int .i64 nx,.int .i64 ny]:=Blk.below (Blk.newAt (by simp)) h9 sz_;have m1:gb<w1.heap.size:=o_
 have y5:gb<w1.heap.size+1:=o_
 have e0:=(h8.cell (p:=⟨gb,off+p*2,none⟩) FG).trans k0;have e1:=(h8.cell (p:=⟨gb,off+p*2+1,none⟩) FG).trans k1;have e2:=(h8.cell (p:=⟨gb,off+q*2,none⟩) FG).trans k2;have e3:=(h8.cell (p:=⟨gb,off+q*2+1,none⟩) FG).trans k3;have z1:w.heap.size<w1.heap.size:=o_
 have z2:w.heap.size+1<w1.heap.size:=o_
 have y3:w.heap.size<w1.heap.size+1:=o_
 obtain⟨l_0,l_1⟩:=ur.c2;generalize w.heap.size+1=B1 at*
 go_wp2_with fail
 go_cut [7,8] (fun s7 s8 wx=>∃x y:Nat,s7= .pointer (some ⟨x,0,none⟩)/\s8= .pointer (some ⟨y,0,none⟩)/\Below w1.heap.size w1 wx/\x<wx.heap.size/\y<wx.heap.size/\
   (wx.cell? ⟨x,0,none⟩=some (.int .i64 ax)/\wx.cell? ⟨x,1,none⟩=some (.int .i64 ay))/\(wx.cell? ⟨y,0,none⟩=some (.int .i64 bx)/\wx.cell? ⟨y,1,none⟩=some (.int .i64 by')))
 case first=>
  go_region
  all_goals go_wp2
  all_goals go_meet
  all_goals exact⟨_,_,rfl,rfl,by exact bel_,sz_,sz_,⟨by simp,by simp⟩,⟨by simp,by simp⟩⟩
 case rest=>
  obtain⟨x,y,rfl,rfl,Gs,hx,hy,⟨f0,f1⟩,⟨f2,f3⟩⟩:=hcut;obtain⟨w3,FW⟩:∃w3:World,w3=wc:=⟨_,rfl⟩;subst FW;have hM3:=hM1.below Gs z2;have fA:=Gs.size;have Hc:Below w.heap.size w w3:=h8.trans (Gs.mono h8.size);obtain⟨l_0,l_1⟩:=hM3.c2
  go_wp2_with (go_at_call 213;refine(xm _ _ _ _ _ _ _).mono ?_;rintro e w5 ⟨rfl,gf⟩)
  all_goals go_ret
  all_goals exact⟨z8 (by rw[HR.out];clear HR;simp_all),by exact bel_⟩
end Go.Proofs.YtnjcpljhmhdhkaaGreat
