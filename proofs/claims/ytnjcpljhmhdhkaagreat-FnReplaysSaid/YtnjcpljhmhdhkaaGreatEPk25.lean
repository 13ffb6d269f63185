/- part 25 -/
import Derived.Test.YtnjcpljhmhdhkaaGreatEPk19
import Derived.Test.YtnjcpljhmhdhkaaGreatEPk23
set_option linter.unusedSimpArgs false
set_option linter.unusedVariables false
set_option maxRecDepth 100000
set_option maxHeartbeats 32000000
namespace Go.Proofs.YtnjcpljhmhdhkaaGreat
open Go.RowKit
theorem XT (v:Value) (zs:List Int) (x y:Int) (w:World) (h:RI w v zs):
  Calls Tryz.prog 146 #[v,.int .i64 x,.int .i64 y] w fun e w'=>e= .returned (.bool (yT zs x y))/\w=w':=by
 obtain⟨A,c,rfl,hc,hm,hcell⟩:=h.form;unfold maxLen at hm;clear h;have CP:=h_ (fun k (hk:k<zs.length) h=>XP (a:=x) (b:=y) hk h);have Cm:=h_ (fun (h:kD zs x y zs.length)=>jL.2 h)
 go_enter Tryz.func146,Tryz.ntmps146
 go_wp2
 go_loop [11] (fun i=>∃k:Nat,k<=zs.length/\i= .int .i64 k/\Hid (kD zs x y k)) (fun i=>zs.length -(intOf i).toNat)
 case atStart=>exact⟨0,aab _,rfl,h_ (fun j hj=>absurd hj o_)⟩
 case round=>
  obtain⟨k,hk,rfl,HT⟩:=hrel
  by_cases Hf:k<zs.length
  ·obtain⟨b,off,rfl,hb,Hy⟩:=hcell o_
   have G8:=Hy k Hf;have Hp:(k:Int)<(zs.length:Int):=o_
   have ik1:(0:Int)<=(k:Int):=o_
   have be:=h_ (CP.out k Hf)
   have GW:Hid (inB (zs.getD k 0) x y=true->kD zs x y (k+1)):=h_ (fun h j hj=>by
    by_cases e:j=k
    ·subst e;exact h
    ·exact HT.out j o_)
   clear Hy hcell;generalize zs.getD k 0=z at*
   cases hq:inB z x y
   ·have HX:=h_ (be.out hq)
    have HQ:=h_ hq;clear hq
    go_wp2_with fail
    refine(zu z x y false _ HQ.out).mono ?_
    rintro e w' ⟨rfl,rfl⟩;go_wp2;go_ret
    exact⟨z8 HX.out.symm,rfl⟩
   ·have HX:=h_ (GW.out hq)
    have HQ:=h_ hq;clear hq
    go_wp2_with fail
    refine(zu z x y true _ HQ.out).mono ?_
    rintro e w' ⟨rfl,rfl⟩;go_wp2;go_round
    case rel=>exact⟨k+1,by omega,by go_num,HX⟩
    case measure=>simp[intOf];omega
  ·have gi:k=zs.length:=o_
   subst gi;have HX:=h_ (Cm.out HT.out);clear hcell;go_wp2;go_ret
   exact⟨z8 HX.out.symm,rfl⟩
theorem kx (v:Value) (zs:List Int) (n:Nat) (w:World) (h:RI w v zs) (hn:n<=40):
  Calls Tryz.prog 120 #[.int .i64 n,v] w fun e w'=>e= .returned (.bool (decide (zs.length=n)&&yT zs 0 5))/\w=w':=by
 obtain⟨A,c,rfl,hc,hm,hcell⟩:=h.form;unfold maxLen at hm;clear h;obtain⟨bl,Hb⟩:∃x,decide (zs.length=n)=x:=⟨_,rfl⟩;have Gb:((zs.length:Int)==(n:Int))=bl:=by rw[<-Hb,aaZ];simp;omega
 rw[Hb];have nW:=h_ Gb;have CP:Hid (∀k,k<zs.length->inB (zs.getD k 0) 0 5=false->(bl&&yT zs 0 5)=false):=h_ (fun k (hk:k<zs.length) h=>by rw[XP (a:=0) (b:=5) hk h];cases bl<;>rfl);have Cm:Hid (kD zs 0 5 zs.length->(bl&&yT zs 0 5)=bl):=h_ (fun (h:kD zs 0 5 zs.length)=>by rw[jL.2 h];cases bl<;>rfl);clear Hb Gb
 go_enter Tryz.func120,Tryz.ntmps120
 go_wp2
 go_loop [5] (fun i=>∃k:Nat,k<=zs.length/\i= .int .i64 k/\Hid (kD zs 0 5 k)) (fun i=>zs.length -(intOf i).toNat)
 case atStart=>exact⟨0,aab _,rfl,h_ (fun j hj=>absurd hj o_)⟩
 case round=>
  obtain⟨k,hk,rfl,HT⟩:=hrel
  by_cases Hf:k<zs.length
  ·obtain⟨b,off,rfl,hb,Hy⟩:=hcell o_
   have G8:=Hy k Hf;have Hp:(k:Int)<(zs.length:Int):=o_
   have ik1:(0:Int)<=(k:Int):=o_
   have be:=h_ (CP.out k Hf)
   have GW:Hid (inB (zs.getD k 0) 0 5=true->kD zs 0 5 (k+1)):=h_ (fun h j hj=>by
    by_cases e:j=k
    ·subst e;exact h
    ·exact HT.out j o_)
   clear Hy hcell;generalize zs.getD k 0=z at*
   cases hq:inB z 0 5
   ·have HX:=h_ (be.out hq)
    have HQ:=h_ hq;clear hq
    go_wp2_with fail
    refine(zP z 0 5 false _ HQ.out).mono ?_
    rintro e w' ⟨rfl,rfl⟩;go_wp2;go_ret
    exact⟨z8 HX.out.symm,rfl⟩
   ·have HX:=h_ (GW.out hq)
    have HQ:=h_ hq;clear hq
    go_wp2_with fail
    refine(zP z 0 5 true _ HQ.out).mono ?_
    rintro e w' ⟨rfl,rfl⟩;go_wp2;go_round
    case rel=>exact⟨k+1,by omega,by go_num,HX⟩
    case measure=>simp[intOf];omega
  ·have gi:k=zs.length:=o_
   have HX:=h_ (Cm.out (gi▸HT.out));have HQ:=nW.out;subst gi;clear hcell;go_wp2;go_ret
   exact⟨z8 HX.out.symm,rfl⟩
theorem kO {ns ls:List Pr} {cs:List Int} (h:qk ns ls cs=true):ze ns ls=true/\cs.length=(z9 ns ls).length /\yT cs 0 5=true:=by
 unfold qk at h;rw[aaG,aaG,aa4] at h;exact h
theorem z2h (vn vl vc:Value) (ns ls:List Pr) (cs:List Int) (w:World) (hn:RP w vn ns) (hl:RP w vl ls) (hc:RI w vc cs):
  CB_ 82 #[.agg #[vn,vl],vc] w (.bool (qk ns ls cs)):=by
 obtain⟨Ac,cc,rfl,Gj,M1,_⟩:=hc.form;unfold maxLen at M1;have Hg:Below w.heap.size w (w.alloc (.cells #[vn,vl] 27)):=bel_
 have gy:Blk (w.alloc (.cells #[vn,vl] 27)) w.heap.size 27 #[vn,vl]:=Blk.newAt rfl
 cases hw:ze ns ls
 ·have HR:Hid (qk ns ls cs=false):=h_ (by unfold qk;rw[hw];rfl)
  go_enter Tryz.func82,Tryz.ntmps82
  go_wp2_with fail
  refine(j8 _ _ ns ls _ _ (hn.below Hg) (hl.below Hg) hw).mono ?_
  rintro e w1 ⟨rfl,h9⟩;have h8:=Hg.trans (h9.mono Hg.size);go_wp2;go_ret
  exact⟨z8 HR.out.symm,h8⟩
 ·have fc:=zJ ns ls
  have Ck:=h_ (fun (v:World) (h1:RP v vn ns) (h2:RP v vl ls)=>jK vn vl ns ls v h1 h2);have HR:Hid (qk ns ls cs=(decide (cs.length=(z9 ns ls).length)&&yT cs 0 5)):=h_ (by unfold qk;rw[hw];rfl);generalize z9 ns ls=F at*
  by_cases Hj:cs.length=F.length
  ·have HX:Hid (qk ns ls cs=yT cs 0 5):=h_ (by rw[HR.out,aaQ Hj];rfl)
   have e1:((cs.length:Int)==(F.length:Int))=true:=beq_iff_eq.2 o_;have HE1:=h_ e1;clear e1 Hj
   go_enter Tryz.func82,Tryz.ntmps82
   go_wp2_with fail
   refine(j8 _ _ ns ls _ _ (hn.below Hg) (hl.below Hg) hw).mono ?_
   rintro e w1 ⟨rfl,h9⟩;have h8:=Hg.trans (h9.mono Hg.size);have Hz:=gy.below h9 gy.lt;clear h9;obtain⟨a_0,a_1⟩:=Hz.c2
   go_wp2_with fail
   refine(Ck.out _ (hn.below h8) (hl.below h8)).mono ?_
   rintro e w2 ⟨v2,rfl,Hk,Hd⟩;obtain⟨A2,c2,rfl⟩:=Hk.form;have Ha:=h8.trans (Hd.mono h8.size);have e1:=HE1.out
   go_wp2_with fail
   refine(XT _ cs 0 5 _ (hc.below Ha)).mono ?_
   rintro e w' ⟨rfl,rfl⟩;clear e1;go_wp2;go_ret
   exact⟨z8 HX.out.symm,Ha⟩
  ·have HX:Hid (qk ns ls cs=false):=h_ (by rw[HR.out,aaO Hj];rfl)
   have e1:((cs.length:Int)==(F.length:Int))=false:=beq_eq_false_iff_ne.2 o_;have HE1:=h_ e1;clear e1 Hj
   go_enter Tryz.func82,Tryz.ntmps82
   go_wp2_with fail
   refine(j8 _ _ ns ls _ _ (hn.below Hg) (hl.below Hg) hw).mono ?_
   rintro e w1 ⟨rfl,h9⟩;have h8:=Hg.trans (h9.mono Hg.size);have Hz:=gy.below h9 gy.lt;clear h9;obtain⟨a_0,a_1⟩:=Hz.c2
   go_wp2_with fail
   refine(Ck.out _ (hn.below h8) (hl.below h8)).mono ?_
   rintro e w2 ⟨v2,rfl,Hk,Hd⟩;obtain⟨A2,c2,rfl⟩:=Hk.form;have Ha:=h8.trans (Hd.mono h8.size);have e1:=HE1.out;go_wp2;go_ret
   exact⟨z8 HX.out.symm,Ha⟩
theorem kQ (vn vl vc:Value) (ns ls:List Pr) (cs:List Int) (b:Bool) (w:World) (hn:RP w vn ns) (hl:RP w vl ls) (hc:RI w vc cs) (hb:qk ns ls cs=b):
  CB_ 82 #[.agg #[vn,vl],vc] w (.bool b):=by
 subst hb;exact z2h vn vl vc ns ls cs w hn hl hc
theorem V5 {ns ls:List Pr} {cs:List Int} {m k:Nat} (h:z9V ns ls cs k=true):je ns ls cs (m+1) k=k:=by simp only[je];rw[aao h]
theorem XC {ns ls:List Pr} {cs:List Int} {m k:Nat} (h:z9V ns ls cs k=false):je ns ls cs (m+1) k=je ns ls cs m (k+1):=by simp only[je];rw[aaq (by rw[h];simp)]
theorem z2A {ns ls:List Pr} {cs:List Int} (h:qk ns ls cs=true) {k:Nat} (hk:k<ls.length):
  ∃p q:Nat,(zN ns ls).getD (2*k) 0=(p:Int)/\(zN ns ls).getD (2*k+1) 0=(q:Int)/\p<cs.length/\q<cs.length/\z9V ns ls cs k=(decide (¬p=q)&&decide (cs.getD p 0=cs.getD q 0)):=by
 obtain⟨h1,h2,_⟩:=kO h;have CB:=ym h1;obtain⟨p,hp,Wr⟩:=kh CB (show 2*k<2*ls.length by omega);obtain⟨q,hq,Br⟩:=kh CB (show 2*k+1<2*ls.length by omega);refine⟨p,q,hp,hq,by omega,by omega,?_⟩
 unfold z9V;rw[hp,hq,aa5,aa5]
 congr 1
 rw[aaZ];simp only[aa4]
 omega
theorem z2R (vn vl vc:Value) (ns ls:List Pr) (cs:List Int) (w:World) (hn:RP w vn ns) (hl:RP w vl ls) (hc:RI w vc cs):
  CB_ 83 #[.agg #[vn,vl],vc] w (.int .i64 (jE ns ls cs)):=by
 obtain⟨Ac,cc,rfl,Gj,M1,hcell⟩:=hc.form;unfold maxLen at M1;obtain⟨Al,cl,rfl,Hy,Gz,_⟩:=hl.formI;unfold maxLen at Gz;have Hg:Below w.heap.size w (w.alloc (.cells #[vn,.slice Al ls.length cl] 27)):=bel_
 have gy:Blk (w.alloc (.cells #[vn,.slice Al ls.length cl] 27)) w.heap.size 27 #[vn,.slice Al ls.length cl]:=Blk.newAt rfl
 cases hw:qk ns ls cs
 ·have HR:Hid (jE ns ls cs= -1):=h_ (by unfold jE;rw[hw];rfl)
  go_enter Tryz.func83,Tryz.ntmps83
  go_wp2_with fail
  refine(kQ _ _ _ ns ls cs _ _ (hn.below Hg) (hl.below Hg) (hc.below Hg) hw).mono ?_
  rintro e w1 ⟨rfl,h9⟩;have h8:=Hg.trans (h9.mono Hg.size);go_wp2;go_ret
  exact⟨zo HR.out.symm,h8⟩
 ·have HR:Hid (jE ns ls cs=je ns ls cs ls.length 0):=h_ (by unfold jE;rw[hw];rfl)
  obtain⟨B7,Hj,GJ⟩:=kO hw;have GD:=(zM B7).1.2.2.1;have Fg:=h_ (fun k (hk:k<ls.length)=>z2A hw hk);have HY:=h_ (fun m k h=>V5 (ns:=ns) (ls:=ls) (cs:=cs) (m:=m) (k:=k) h);have BO:=h_ (fun m k h=>XC (ns:=ns) (ls:=ls) (cs:=cs) (m:=m) (k:=k) h);have HZ:Hid (∀k,je ns ls cs 0 k= -1):=h_ (fun _=>rfl);have BY:=h_ (vp ns ls);have HSI:Hid (kK ns ls=zN ns ls):=h_ (by unfold kK;rw[B7];rfl);have fc:=zJ ns ls;have hlc:cs.length<=40:=o_
  clear B7 GJ Hj fc
  go_enter Tryz.func83,Tryz.ntmps83
  go_wp2_with fail
  refine(kQ _ _ _ ns ls cs _ _ (hn.below Hg) (hl.below Hg) (hc.below Hg) hw).mono ?_
  rintro e w1 ⟨rfl,h9⟩;have h8:=Hg.trans (h9.mono Hg.size);have Hz:=gy.below h9 gy.lt;clear h9 hw;obtain⟨a_0,a_1⟩:=Hz.c2
  go_wp2_with fail
  refine(JF _ _ ns ls _ (hn.below h8) (hl.below h8)).mono ?_
  rw[HSI.out];rintro e w2 ⟨v2,rfl,Hk,Hd⟩;have Ha:=h8.trans (Hd.mono h8.size);have gM:=Hz.below Hd Hz.lt;have F6:=Hk.reads;clear Hd Hk Hz h8 a_0 a_1;obtain⟨As,cS,rfl,fU,YW,GR⟩:=F6.form;rw[BY.out] at GR⊢;clear F6 fU YW;obtain⟨a_0,a_1⟩:=gM.c2;go_wp2
  go_loopw [18] (fun x wr=>∃k:Nat,k<=ls.length/\x= .int .i64 k/\Hid (je ns ls cs ls.length 0=je ns ls cs (ls.length -k) k)/\Below w2.heap.size w2 wr) (fun x _=>ls.length -(intOf x).toNat)
  case atStart=>exact⟨0,aab _,rfl,h_ rfl,aaj _ _⟩
  case round=>
   clear a_0 a_1;obtain⟨k,hk,rfl,HK,Hb⟩:=hrel;have nY:=gM.below Hb gM.lt;obtain⟨a_0,a_1⟩:=nY.c2
   by_cases Hf:k<ls.length
   ·obtain⟨p,q,hp,hq,Wr,Br,nG⟩:=Fg.out k Hf
    obtain⟨b,off,rfl,hb,Gp⟩:=GR o_;obtain⟨b3,off3,rfl,He,cF⟩:=hcell o_;have FE:=(Hb.cell (p:=⟨b,off+2*k,none⟩) hb).trans (Gp (2*k) o_);have CY:=(Hb.cell (p:=⟨b,off+(2*k+1),none⟩) hb).trans (Gp (2*k+1) o_);rw[hp] at FE;rw[hq] at CY;have gj:=Ha.trans (Hb.mono Ha.size);have NS:=(gj.cell (p:=⟨b3,off3+p,none⟩) He).trans (cF p Wr);have nZ:=(gj.cell (p:=⟨b3,off3+q,none⟩) He).trans (cF q Br);have uu:=aaD hb Hb.size;have B8:=aaD He gj.size;have Gx:IntKind.i64.wrap (2*(k:Int))=((2*k:Nat):Int):=by rw[show 2*(k:Int)=((2*k:Nat):Int) by omega];exact aaP _ o_
    have i4:(0:Int)<=(p:Int):=o_
    have i5:(p:Int)<(cs.length:Int):=o_
    have i6:(0:Int)<=(q:Int):=o_
    have i7:(q:Int)<(cs.length:Int):=o_
    have ik:(k:Int)<(ls.length:Int):=o_
    have Mj:=h_ (fun h=>HY.out (ls.length -(k+1)) k h);have FV:=h_ (fun h=>BO.out (ls.length -(k+1)) k h);rw[show ls.length -(k+1)+1=ls.length -k by omega] at Mj FV;rw[nG] at Mj FV;clear Gp cF GR hcell hp hq nG;generalize cs.getD p 0=cp at*;generalize cs.getD q 0=cq at*
    by_cases fZ:p=q
    ·have e1:((p:Int)==(q:Int))=true:=beq_iff_eq.2 o_
     have e2:((p:Int) != (q:Int))=false:=by rw[bne,e1];rfl
     have HX:=h_ (FV.out (by rw[aaO (by simp[fZ])];rfl));clear fZ
     go_wp2_with fail
     (refine z7 k_ k_ (fun hG=>?_))
     repeat (go_big_quiet_step (fail))
     refine wpQuiet_nil ?_
     clear hG;rintro w5 ⟨⟨_,G1⟩,rfl⟩;clear FE CY NS nZ Gx a_0 a_1
     go_wp2_with fail
     (refine z7 k_ k_ (fun hG=>?_))
     repeat (go_big_quiet_step (fail))
     refine wpQuiet_nil ?_
     clear hG;rintro w6 ⟨⟨_,rM⟩,rfl⟩;have cJ:=Hb.trans ((G1.trans (rM.mono G1.size)).mono Hb.size);clear G1 rM Hb gj;go_wp2;go_roundw
     case rel=>exact⟨k+1,by omega,by go_num,h_ (by rw[HK.out,HX.out]),cJ⟩
     case measure=>simp[intOf];omega
    ·have e1:((p:Int)==(q:Int))=false:=beq_eq_false_iff_ne.2 o_
     have e2:((p:Int) != (q:Int))=true:=by rw[bne,e1];rfl
     by_cases mC:cp=cq
     ·have e3:(cp==cq)=true:=beq_iff_eq.2 mC
      have HX:=h_ (Mj.out (by rw[aaQ fZ,aaQ mC];rfl));clear fZ mC
      go_wp2_with fail
      (refine z7 k_ k_ (fun hG=>?_))
      repeat (go_big_quiet_step (fail))
      refine wpQuiet_nil ?_
      clear hG;rintro w5 ⟨⟨_,G1⟩,rfl⟩;have uD:=(G1.cell (p:=⟨b3,off3+p,none⟩) B8).trans NS;have uE:=(G1.cell (p:=⟨b3,off3+q,none⟩) B8).trans nZ;have Ws:=aaD B8 G1.size;clear FE CY NS nZ Gx a_0 a_1
      go_wp2_with fail
      (refine z7 k_ k_ (fun hG=>?_))
      repeat (go_big_quiet_step (fail))
      refine wpQuiet_nil ?_
      clear hG;rintro w6 ⟨⟨_,rM⟩,rfl⟩;have cJ:=Hb.trans ((G1.trans (rM.mono G1.size)).mono Hb.size);clear uD uE G1 rM Hb gj;go_wp2;go_ret
      exact⟨zo (by rw[HR.out,HK.out,HX.out]),Ha.trans (cJ.mono Ha.size)⟩
     ·have e3:(cp==cq)=false:=beq_eq_false_iff_ne.2 mC
      have HX:=h_ (FV.out (by rw[aaO mC];simp));clear fZ mC
      go_wp2_with fail
      (refine z7 k_ k_ (fun hG=>?_))
      repeat (go_big_quiet_step (fail))
      refine wpQuiet_nil ?_
      clear hG;rintro w5 ⟨⟨_,G1⟩,rfl⟩;have uD:=(G1.cell (p:=⟨b3,off3+p,none⟩) B8).trans NS;have uE:=(G1.cell (p:=⟨b3,off3+q,none⟩) B8).trans nZ;have Ws:=aaD B8 G1.size;clear FE CY NS nZ Gx a_0 a_1
      go_wp2_with fail
      (refine z7 k_ k_ (fun hG=>?_))
      repeat (go_big_quiet_step (fail))
      refine wpQuiet_nil ?_
      clear hG;rintro w6 ⟨⟨_,rM⟩,rfl⟩;have cJ:=Hb.trans ((G1.trans (rM.mono G1.size)).mono Hb.size);clear uD uE G1 rM Hb gj;go_wp2;go_roundw
      case rel=>exact⟨k+1,by omega,by go_num,h_ (by rw[HK.out,HX.out]),cJ⟩
      case measure=>simp[intOf];omega
   ·have gi:k=ls.length:=o_
    have HE:=h_ (HK.out);subst gi;rw[aae,HZ.out] at HE;have gj:=Ha.trans (Hb.mono Ha.size);clear GR hcell;go_wp2;go_ret
    exact⟨zo (by rw[HR.out,HE.out]),gj⟩
theorem z2V (vn vl vc:Value) (ns ls:List Pr) (cs:List Int) (w:World) (hn:RP w vn ns) (hl:RP w vl ls) (hc:RI w vc cs):
  CB_ 122 #[.agg #[vn,vl],vc] w (.int .i64 (jE ns ls cs)):=by
 obtain⟨Ac,cc,rfl,Gj,M1,hcell⟩:=hc.form;unfold maxLen at M1;obtain⟨Al,cl,rfl,Hy,Gz,_⟩:=hl.formI;unfold maxLen at Gz;have Hg:Below w.heap.size w (w.alloc (.cells #[vn,.slice Al ls.length cl] 27)):=bel_
 have gy:Blk (w.alloc (.cells #[vn,.slice Al ls.length cl] 27)) w.heap.size 27 #[vn,.slice Al ls.length cl]:=Blk.newAt rfl
 cases hw:qk ns ls cs
 ·have HR:Hid (jE ns ls cs= -1):=h_ (by unfold jE;rw[hw];rfl)
  cases B7:ze ns ls
  ·go_enter Tryz.func122,Tryz.ntmps122
   go_wp2_with fail
   refine(qR _ _ ns ls _ _ (hn.below Hg) (hl.below Hg) B7).mono ?_
   rintro e w1 ⟨rfl,h9⟩;have h8:=Hg.trans (h9.mono Hg.size);go_wp2;go_ret
   exact⟨zo HR.out.symm,h8⟩
  ·have fc:=zJ ns ls
   have Ck:=h_ (fun (v:World) (h1:RP v vn ns) (h2:RP v (.slice Al ls.length cl) ls)=>jJ vn (.slice Al ls.length cl) ns ls v h1 h2);have HL:Hid ((decide (cs.length=(z9 ns ls).length)&&yT cs 0 5)=false):=h_ (by unfold qk at hw;rw[B7] at hw;exact hw);generalize z9 ns ls=F at*
   go_enter Tryz.func122,Tryz.ntmps122
   go_wp2_with fail
   refine(qR _ _ ns ls _ _ (hn.below Hg) (hl.below Hg) B7).mono ?_
   rintro e w1 ⟨rfl,h9⟩;have h8:=Hg.trans (h9.mono Hg.size);have Hz:=gy.below h9 gy.lt;clear h9;obtain⟨a_0,a_1⟩:=Hz.c2
   go_wp2_with fail
   refine(Ck.out _ (hn.below h8) (hl.below h8)).mono ?_
   rintro e w2 ⟨v2,rfl,Hk,Hd⟩;obtain⟨A2,c2,rfl⟩:=Hk.form;have Ha:=h8.trans (Hd.mono h8.size)
   go_wp2_with fail
   refine(kx _ cs F.length _ (hc.below Ha) fc).mono ?_
   rw[HL.out];rintro e w' ⟨rfl,rfl⟩;go_wp2;go_ret
   exact⟨zo HR.out.symm,Ha⟩
 ·have HR:Hid (jE ns ls cs=je ns ls cs ls.length 0):=h_ (by unfold jE;rw[hw];rfl)
  obtain⟨B7,Hj,GJ⟩:=kO hw;have GD:=(zM B7).1.2.2.1;have Fg:=h_ (fun k (hk:k<ls.length)=>z2A hw hk);have HY:=h_ (fun m k h=>V5 (ns:=ns) (ls:=ls) (cs:=cs) (m:=m) (k:=k) h);have BO:=h_ (fun m k h=>XC (ns:=ns) (ls:=ls) (cs:=cs) (m:=m) (k:=k) h);have HZ:Hid (∀k,je ns ls cs 0 k= -1):=h_ (fun _=>rfl);have BY:=h_ (vp ns ls);have fc:=zJ ns ls;have hlc:cs.length<=40:=o_
  have Ck:=h_ (fun (v:World) (h1:RP v vn ns) (h2:RP v (.slice Al ls.length cl) ls)=>jJ vn (.slice Al ls.length cl) ns ls v h1 h2);have HL:Hid ((decide (cs.length=(z9 ns ls).length)&&yT cs 0 5)=true):=h_ (by rw[aaQ Hj,GJ];rfl);have Wt:=h_ B7;have NR:=h_ (fun (v:World) (h1:RP v vn ns) (h2:RP v (.slice Al ls.length cl) ls)=>Vm vn (.slice Al ls.length cl) ns ls v h1 h2 B7);clear GJ Hj hw B7;generalize z9 ns ls=F at*
  go_enter Tryz.func122,Tryz.ntmps122
  go_wp2_with fail
  refine(qR _ _ ns ls _ _ (hn.below Hg) (hl.below Hg) Wt.out).mono ?_
  rintro e w1 ⟨rfl,h9⟩;have bV:=Hg.trans (h9.mono Hg.size);have NT:=gy.below h9 gy.lt;clear h9;obtain⟨a_0,a_1⟩:=NT.c2
  go_wp2_with fail
  refine(Ck.out _ (hn.below bV) (hl.below bV)).mono ?_
  rintro e w1b ⟨v2,rfl,Hk,Hd⟩;obtain⟨A2,c2,rfl⟩:=Hk.form;have h8:=bV.trans (Hd.mono bV.size);have Hz:=NT.below Hd NT.lt;clear Hd Hk NT bV a_0 a_1
  go_wp2_with fail
  refine(kx _ cs F.length _ (hc.below h8) fc).mono ?_
  rw[HL.out];rintro e w' ⟨rfl,rfl⟩;obtain⟨a_0,a_1⟩:=Hz.c2
  go_wp2_with fail
  refine(NR.out _ (hn.below h8) (hl.below h8)).mono ?_
  rintro e w2 ⟨v2,rfl,Hk,Hd⟩;have Ha:=h8.trans (Hd.mono h8.size);have gM:=Hz.below Hd Hz.lt;have F6:=Hk.reads;clear Hd Hk Hz h8 a_0 a_1;obtain⟨As,cS,rfl,fU,YW,GR⟩:=F6.form;rw[BY.out] at GR⊢;clear F6 fU YW;obtain⟨a_0,a_1⟩:=gM.c2;go_wp2
  go_loopw [6] (fun x wr=>∃k:Nat,k<=ls.length/\x= .int .i64 k/\Hid (je ns ls cs ls.length 0=je ns ls cs (ls.length -k) k)/\Below w2.heap.size w2 wr) (fun x _=>ls.length -(intOf x).toNat)
  case atStart=>exact⟨0,aab _,rfl,h_ rfl,aaj _ _⟩
  case round=>
   clear a_0 a_1;obtain⟨k,hk,rfl,HK,Hb⟩:=hrel;have nY:=gM.below Hb gM.lt;obtain⟨a_0,a_1⟩:=nY.c2
   by_cases Hf:k<ls.length
   ·obtain⟨p,q,hp,hq,Wr,Br,nG⟩:=Fg.out k Hf
    obtain⟨b,off,rfl,hb,Gp⟩:=GR o_;obtain⟨b3,off3,rfl,He,cF⟩:=hcell o_;have FE:=(Hb.cell (p:=⟨b,off+2*k,none⟩) hb).trans (Gp (2*k) o_);have CY:=(Hb.cell (p:=⟨b,off+(2*k+1),none⟩) hb).trans (Gp (2*k+1) o_);rw[hp] at FE;rw[hq] at CY;have gj:=Ha.trans (Hb.mono Ha.size);have NS:=(gj.cell (p:=⟨b3,off3+p,none⟩) He).trans (cF p Wr);have nZ:=(gj.cell (p:=⟨b3,off3+q,none⟩) He).trans (cF q Br);have uu:=aaD hb Hb.size;have B8:=aaD He gj.size;have Gx:IntKind.i64.wrap (2*(k:Int))=((2*k:Nat):Int):=by rw[show 2*(k:Int)=((2*k:Nat):Int) by omega];exact aaP _ o_
    have i4:(0:Int)<=(p:Int):=o_
    have i5:(p:Int)<(cs.length:Int):=o_
    have i6:(0:Int)<=(q:Int):=o_
    have i7:(q:Int)<(cs.length:Int):=o_
    have ik:(k:Int)<(ls.length:Int):=o_
    have Mj:=h_ (fun h=>HY.out (ls.length -(k+1)) k h);have FV:=h_ (fun h=>BO.out (ls.length -(k+1)) k h);rw[show ls.length -(k+1)+1=ls.length -k by omega] at Mj FV;rw[nG] at Mj FV;clear Gp cF GR hcell hp hq nG;generalize cs.getD p 0=cp at*;generalize cs.getD q 0=cq at*
    by_cases fZ:p=q
    ·have e1:((p:Int)==(q:Int))=true:=beq_iff_eq.2 o_
     have e2:((p:Int) != (q:Int))=false:=by rw[bne,e1];rfl
     have HX:=h_ (FV.out (by rw[aaO (by simp[fZ])];rfl));clear fZ
     go_wp2_with fail
     (refine z7 k_ k_ (fun hG=>?_))
     repeat (go_big_quiet_step (fail))
     refine wpQuiet_nil ?_
     clear hG;rintro w5 ⟨⟨_,G1⟩,rfl⟩;have cJ:=Hb.trans (G1.mono Hb.size);clear FE CY NS nZ Gx a_0 a_1 G1 Hb gj;go_wp2;go_roundw
     case rel=>exact⟨k+1,by omega,by go_num,h_ (by rw[HK.out,HX.out]),cJ⟩
     case measure=>simp[intOf];omega
    ·have e1:((p:Int)==(q:Int))=false:=beq_eq_false_iff_ne.2 o_
     have e2:((p:Int) != (q:Int))=true:=by rw[bne,e1];rfl
     by_cases mC:cp=cq
     ·have e3:(cp==cq)=true:=beq_iff_eq.2 mC
      have HX:=h_ (Mj.out (by rw[aaQ fZ,aaQ mC];rfl));clear fZ mC
      go_wp2_with fail
      (refine z7 k_ k_ (fun hG=>?_))
      repeat (go_big_quiet_step (fail))
      refine wpQuiet_nil ?_
      clear hG;rintro w5 ⟨⟨_,G1⟩,rfl⟩;have cJ:=Hb.trans (G1.mono Hb.size);clear FE CY NS nZ Gx a_0 a_1 G1 Hb gj;go_wp2;go_ret
      exact⟨zo (by rw[HR.out,HK.out,HX.out]),Ha.trans (cJ.mono Ha.size)⟩
     ·have e3:(cp==cq)=false:=beq_eq_false_iff_ne.2 mC
      have HX:=h_ (FV.out (by rw[aaO mC];simp));clear fZ mC
      go_wp2_with fail
      (refine z7 k_ k_ (fun hG=>?_))
      repeat (go_big_quiet_step (fail))
      refine wpQuiet_nil ?_
      clear hG;rintro w5 ⟨⟨_,G1⟩,rfl⟩;have cJ:=Hb.trans (G1.mono Hb.size);clear FE CY NS nZ Gx a_0 a_1 G1 Hb gj;go_wp2;go_roundw
      case rel=>exact⟨k+1,by omega,by go_num,h_ (by rw[HK.out,HX.out]),cJ⟩
      case measure=>simp[intOf];omega
   ·have gi:k=ls.length:=o_
    have HE:=h_ (HK.out);subst gi;rw[aae,HZ.out] at HE;have gj:=Ha.trans (Hb.mono Ha.size);clear GR hcell;go_wp2;go_ret
    exact⟨zo (by rw[HR.out,HE.out]),gj⟩
theorem z4I (vn vl vc:Value) (ns ls:List Pr) (cs:List Int) (x:Int) (w:World) (hn:RP w vn ns) (hl:RP w vl ls) (hc:RI w vc cs) (hx:jE ns ls cs=x):
  CB_ 122 #[.agg #[vn,vl],vc] w (.int .i64 x):=by
 subst hx;exact z2V vn vl vc ns ls cs w hn hl hc
theorem z5f (vn vl vc:Value) (ns ls:List Pr) (cs:List Int) (x:Int) (w:World) (hn:RP w vn ns) (hl:RP w vl ls) (hc:RI w vc cs) (hx:jE ns ls cs=x):
  CB_ 83 #[.agg #[vn,vl],vc] w (.int .i64 x):=by
 subst hx;exact z2R vn vl vc ns ls cs w hn hl hc
theorem z1o (vn vl vc:Value) (ns ls:List Pr) (cs:List Int) (w:World) (hn:RP w vn ns) (hl:RP w vl ls) (hc:RI w vc cs):
  CB_ 21 #[.agg #[vn,vl],vc] w (.bool (qf ns ls cs)):=by
 have Hg:Below w.heap.size w (w.alloc (.cells #[vn,vl] 27)):=bel_
 have gy:Blk (w.alloc (.cells #[vn,vl] 27)) w.heap.size 27 #[vn,vl]:=Blk.newAt rfl;obtain⟨x,hx⟩:∃x,jE ns ls cs=x:=⟨_,rfl⟩;have HX:=h_ hx
 cases hw:qk ns ls cs
 ·have HR:Hid (qf ns ls cs=false):=h_ (by unfold qf;rw[hw];rfl)
  go_enter Tryz.func21,Tryz.ntmps21
  go_wp2_with fail
  refine(kQ _ _ _ ns ls cs _ _ (hn.below Hg) (hl.below Hg) (hc.below Hg) hw).mono ?_
  rintro e w1 ⟨rfl,h9⟩;have h8:=Hg.trans (h9.mono Hg.size);go_wp2;go_ret
  exact⟨z8 HR.out.symm,h8⟩
 ·have HR:Hid (qf ns ls cs=decide (x<0)):=h_ (by unfold qf;rw[hw,hx];rfl)
  clear hx
  go_enter Tryz.func21,Tryz.ntmps21
  go_wp2_with fail
  refine(kQ _ _ _ ns ls cs _ _ (hn.below Hg) (hl.below Hg) (hc.below Hg) hw).mono ?_
  rintro e w1 ⟨rfl,h9⟩;have h8:=Hg.trans (h9.mono Hg.size);have Hz:=gy.below h9 gy.lt;clear h9;obtain⟨a_0,a_1⟩:=Hz.c2
  go_wp2_with fail
  refine(z5f _ _ _ ns ls cs x _ (hn.below h8) (hl.below h8) (hc.below h8) HX.out).mono ?_
  rintro e w2 ⟨rfl,Hd⟩;have Ha:=h8.trans (Hd.mono h8.size);go_wp2;go_ret
  exact⟨z8 HR.out.symm,Ha⟩
theorem z1z (vn vl vc:Value) (ns ls:List Pr) (cs:List Int) (w:World) (hn:RP w vn ns) (hl:RP w vl ls) (hc:RI w vc cs):
  CB_ 46 #[.agg #[vn,vl],vc] w (.bool (qf ns ls cs)):=by
 have Hg:Below w.heap.size w (w.alloc (.cells #[vn,vl] 27)):=bel_
 have gy:Blk (w.alloc (.cells #[vn,vl] 27)) w.heap.size 27 #[vn,vl]:=Blk.newAt rfl;obtain⟨x,hx⟩:∃x,jE ns ls cs=x:=⟨_,rfl⟩;have HX:=h_ hx
 cases hw:ze ns ls
 ·have HR:Hid (qf ns ls cs=false):=h_ (by unfold qf qk;rw[hw];rfl)
  go_enter Tryz.func46,Tryz.ntmps46
  go_wp2_with fail
  refine(qR _ _ ns ls _ _ (hn.below Hg) (hl.below Hg) hw).mono ?_
  rintro e w1 ⟨rfl,h9⟩;have h8:=Hg.trans (h9.mono Hg.size);go_wp2;go_ret
  exact⟨z8 HR.out.symm,h8⟩
 ·have fc:=zJ ns ls
  have Ck:=h_ (fun (v:World) (h1:RP v vn ns) (h2:RP v vl ls)=>jJ vn vl ns ls v h1 h2);obtain⟨bl,Hb⟩:∃b,(decide (cs.length=(z9 ns ls).length)&&yT cs 0 5)=b:=⟨_,rfl⟩;have HR:Hid (qf ns ls cs=(bl&&decide (x<0))):=h_ (by unfold qf qk;rw[hw,hx,Hb];rfl);have HL:=h_ Hb;clear Hb hx;generalize z9 ns ls=F at*
  go_enter Tryz.func46,Tryz.ntmps46
  go_wp2_with fail
  refine(qR _ _ ns ls _ _ (hn.below Hg) (hl.below Hg) hw).mono ?_
  rintro e w1 ⟨rfl,h9⟩;have h8:=Hg.trans (h9.mono Hg.size);have Hz:=gy.below h9 gy.lt;clear h9;obtain⟨a_0,a_1⟩:=Hz.c2
  go_wp2_with fail
  refine(Ck.out _ (hn.below h8) (hl.below h8)).mono ?_
  rintro e w2 ⟨v2,rfl,Hk,Hd⟩;obtain⟨A2,c2,rfl⟩:=Hk.form;have Ha:=h8.trans (Hd.mono h8.size);have gM:=Hz.below Hd Hz.lt;clear Hd Hk Hz h8 a_0 a_1
  go_wp2_with fail
  refine(kx _ cs F.length _ (hc.below Ha) fc).mono ?_
  rw[HL.out];rintro e w' ⟨rfl,rfl⟩;obtain⟨a_0,a_1⟩:=gM.c2
  cases bl
  ·go_wp2
   go_ret
   exact⟨z8 HR.out.symm,Ha⟩
  ·go_wp2_with fail
   refine(z4I _ _ _ ns ls cs x _ (hn.below Ha) (hl.below Ha) (hc.below Ha) HX.out).mono ?_
   rintro e w3 ⟨rfl,He⟩;have Hc:=Ha.trans (He.mono Ha.size);go_wp2;go_ret
   exact⟨z8 HR.out.symm,Hc⟩
theorem z2Y (vn vl vc:Value) (ns ls:List Pr) (cs:List Int) (b:Bool) (w:World) (hn:RP w vn ns) (hl:RP w vl ls) (hc:RI w vc cs) (hb:qf ns ls cs=b):
  CB_ 46 #[.agg #[vn,vl],vc] w (.bool b):=by
 subst hb;exact z1z vn vl vc ns ls cs w hn hl hc
theorem vA (vn vl vc:Value) (ns ls:List Pr) (cs:List Int) (b:Bool) (w:World) (hn:RP w vn ns) (hl:RP w vl ls) (hc:RI w vc cs) (hb:qf ns ls cs=b):
  CB_ 21 #[.agg #[vn,vl],vc] w (.bool b):=by
 subst hb;exact z1o vn vl vc ns ls cs w hn hl hc
theorem z5T (v:Value) (l:List Dp) (b:Bool) (w:World) (h:RDp w v l) (hb:qB l=b):
  CB_ 137 #[v] w (.bool b):=by
 subst hb;exact Zb v l w h
theorem z6n (v:Value) (l:List Dp) (b:Bool) (w:World) (h:RDp w v l) (hb:qB l=b):
  CB_ 77 #[v] w (.bool b):=by
 subst hb;exact xM v l w h
def yo (l:List Dp) (P:Int) (k:Nat):Prop:=∀j,j<k->(dpI l j).k <=P
theorem z9T {l:List Dp} {P:Int} (h:yo l P l.length):l.all (fun d=>decide (d.k<=P))=true:=by
 rw[aaL];intro d hd;obtain⟨j,hj,rfl⟩:=aba hd;have:=h j hj;rw[jW hj] at this
 simpa using this
theorem zal {l:List Dp} {P:Int} {k:Nat} (hk:k<l.length) (h:P<(dpI l k).k):l.all (fun d=>decide (d.k<=P))=false:=by
 cases hc:l.all (fun d=>decide (d.k<=P))
 ·rfl
 ·have:=List.all_eq_true.1 hc l[k] (abg hk)
  rw[jW hk] at h;simp at this
  omega
theorem kB {l:List Dp} {P:Int} {k:Nat} (h:yo l P k) (hk:(dpI l k).k <=P):yo l P (k+1):=fun j hj=>by
 by_cases e:j=k
 ·subst e;exact hk
 ·exact h j o_
theorem z7f (v0 v1 v2 v3 v4 v5 v6:Value) (S:St) (w:World) (h:RSt w v0 v1 v2 v3 v4 v5 v6 S):
  CB_ 17 #[.agg #[v0,v1,v2,v3,v4,v5,v6,.int .i64 S.fund]] w (.bool (zd S)):=by
 obtain⟨B2,d2,ev2,_⟩:=h.dr.nn.formI;obtain⟨B3,d3,ev3,_⟩:=h.dr.nl.formI;obtain⟨B5,d5,ev5,ci,wY,_⟩:=h.cs.form;obtain⟨B6,d6,ev6,cK,CR,fr⟩:=h.ds.at_;subst ev2 ev3 ev5 ev6;unfold maxLen at wY CR;have Hg:Below w.heap.size w (w.alloc (.cells #[v0,v1,.slice B2 S.D.nn.length d2,.slice B3 S.D.nl.length d3,v4,.slice B5 S.cs.length d5,.slice B6 S.ds.length d6,.int .i64 S.fund] 34)):=bel_
 have Cc:Blk (w.alloc (.cells #[v0,v1,.slice B2 S.D.nn.length d2,.slice B3 S.D.nl.length d3,v4,.slice B5 S.cs.length d5,.slice B6 S.ds.length d6,.int .i64 S.fund] 34)) w.heap.size 34 #[v0,v1,.slice B2 S.D.nn.length d2,.slice B3 S.D.nl.length d3,v4,.slice B5 S.cs.length d5,.slice B6 S.ds.length d6,.int .i64 S.fund]:=Blk.newAt rfl;have Fg:=h_ fr;have HH:=h_ h;clear fr h;obtain⟨od,n9⟩:∃x,okD S.D=x:=⟨_,rfl⟩;obtain⟨dB,uF⟩:∃x,qB S.ds=x:=⟨_,rfl⟩;obtain⟨fB,uG⟩:∃x,inB S.fund 0 1000000=x:=⟨_,rfl⟩;obtain⟨pB,uH⟩:∃x,qf S.D.nn S.D.nl S.cs=x:=⟨_,rfl⟩;obtain⟨wB,uI⟩:∃x,ze S.D.nn S.D.nl=x:=⟨_,rfl⟩;obtain⟨P,hP⟩:∃x,jD S.D.nn S.D.nl=x:=⟨_,rfl⟩;have G3:Hid (zd S=(od&&(dB&&(fB&&((decide (S.cs.length=0)||pB)&&((decide (S.ds.length=0)||wB)&&S.ds.all (fun d=>decide (d.k<=P)))))))):=h_ (by unfold zd;rw[n9,uF,uG,uH,uI,hP]);have HOD:=h_ n9;have HDB:=h_ uF;have HFB:=h_ uG;have HPB:=h_ uH;have ut:=h_ uI;have mQ:=h_ hP;clear n9 uF uG uH uI hP
 go_enter Tryz.func17,Tryz.ntmps17
 go_wp2_with fail
 refine(z0f _ _ _ _ _ S.D od _ (HH.out.dr.below Hg) HOD).mono ?_
 rintro e w1 ⟨rfl,h9⟩;have h8:=Hg.trans (h9.mono Hg.size);have Ga:=Cc.below h9 Cc.lt;clear h9 Hg Cc
 cases od
 ·have HX:Hid (zd S=false):=h_ (by rw[G3.out];rfl)
  go_wp2;go_ret
  exact⟨z8 HX.out.symm,h8⟩
 obtain⟨x_0,x_1,x_2,x_3,x_4,x_5,x_6,x_7⟩:=Ga.c8
 go_wp2_with fail
 refine(z6n _ S.ds dB _ (HH.out.ds.below h8) HDB.out).mono ?_
 rintro e w2 ⟨rfl,Hd⟩;have Ha:=h8.trans (Hd.mono h8.size);have G9:=Ga.below Hd Ga.lt;clear Hd h8 Ga x_0 x_1 x_2 x_3 x_4 x_5 x_6 x_7
 cases dB
 ·have HX:Hid (zd S=false):=h_ (by rw[G3.out];rfl)
  go_wp2;go_ret
  exact⟨z8 HX.out.symm,Ha⟩
 obtain⟨x_0,x_1,x_2,x_3,x_4,x_5,x_6,x_7⟩:=G9.c8;have M2:=G9.lt
 go_wp2_with fail
 refine(zu S.fund 0 1000000 fB _ HFB.out).mono ?_
 rintro e w' ⟨rfl,rfl⟩
 cases fB
 ·have HX:Hid (zd S=false):=h_ (by rw[G3.out];rfl)
  go_wp2;go_ret
  exact⟨z8 HX.out.symm,Ha⟩
 go_upto_region 4 with (fail)
 obtain⟨w3,GT⟩:∃u,u=w2.alloc (.cells #[.slice B2 S.D.nn.length d2,.slice B3 S.D.nl.length d3] 27):=⟨_,rfl⟩;have Cp:Blk w3 w2.heap.size 27 #[.slice B2 S.D.nn.length d2,.slice B3 S.D.nl.length d3]:=GT▸Blk.newAt rfl;have He:Below w2.heap.size w2 w3:=GT▸(aaj _ _).alloc (aaa _) _;rw[<-GT];clear GT;have Hc:=Ha.trans (He.mono Ha.size);have Gr:=G9.below He M2;have uJ:=Gr.lt;have uK:=Cp.lt;clear He Ha G9 x_0 x_1 x_2 x_3 x_4 x_5 x_6 x_7 M2;generalize w2.heap.size=Nb at*;obtain⟨x_0,x_1,x_2,x_3,x_4,x_5,x_6,x_7⟩:=Gr.c8;obtain⟨n_0,n_1⟩:=Cp.c2
 by_cases bk:0<S.cs.length
 ·have e1:(0:Int)<(S.cs.length:Int):=o_
  have mR:Hid (decide (S.cs.length=0)=false):=h_ (aaO o_)
  go_wp2_with fail
  refine(vA _ _ _ S.D.nn S.D.nl S.cs pB _ (HH.out.dr.nn.below Hc) (HH.out.dr.nl.below Hc) (HH.out.cs.below Hc) HPB.out).mono ?_
  rintro e w4 ⟨rfl,Hw⟩;have Hn:=Hc.trans (Hw.mono Hc.size);have Fh:=Gr.below Hw Gr.lt;have Mk:=Cp.below Hw Cp.lt;clear Hw Hc Gr Cp uJ uK x_0 x_1 x_2 x_3 x_4 x_5 x_6 x_7 n_0 n_1;have Wu:=Fh.lt;have Wv:=Mk.lt;obtain⟨x_0,x_1,x_2,x_3,x_4,x_5,x_6,x_7⟩:=Fh.c8;obtain⟨n_0,n_1⟩:=Mk.c2;clear e1 bk
  cases pB
  ·have HX:Hid (zd S=false):=h_ (by rw[G3.out,mR.out];simp)
   go_wp2;go_ret
   exact⟨z8 HX.out.symm,Hn⟩
  ·skip
   by_cases mw:0<S.ds.length
   ·have e2:(0:Int)<(S.ds.length:Int):=o_
    have bX:Hid (decide (S.ds.length=0)=false):=h_ (aaO o_)
    go_wp2_with fail
    refine(j8 _ _ S.D.nn S.D.nl wB _ (HH.out.dr.nn.below Hn) (HH.out.dr.nl.below Hn) ut.out).mono ?_
    rintro e w5 ⟨rfl,H0⟩;have Hv:=Hn.trans (H0.mono Hn.size);have CN:=Fh.below H0 Fh.lt;have ma:=Mk.below H0 Mk.lt;clear H0 Hn Fh Mk Wu Wv x_0 x_1 x_2 x_3 x_4 x_5 x_6 x_7 n_0 n_1;have uL:=CN.lt;have uM:=ma.lt;obtain⟨x_0,x_1,x_2,x_3,x_4,x_5,x_6,x_7⟩:=CN.c8;obtain⟨n_0,n_1⟩:=ma.c2;clear e2
    cases wB
    ·have HX:Hid (zd S=false):=h_ (by rw[G3.out,bX.out];simp)
     go_wp2;go_ret
     exact⟨z8 HX.out.symm,Hv⟩
    ·skip
     have uN:=h_ (fun k (hk:k<S.ds.length) (h:P<(dpI S.ds k).k)=>zal hk h);have MB:=h_ (fun k (h:yo S.ds P k) h2=>kB (k:=k) h h2);have M3:=h_ (fun (h:yo S.ds P S.ds.length)=>z9T h);clear x_0 x_1 x_2 x_3 x_4 x_5 x_6 x_7 n_0 n_1;obtain⟨x_0,x_1,x_2,x_3,x_4,x_5,x_6,x_7⟩:=CN.c8;obtain⟨n_0,n_1⟩:=ma.c2;go_wp2
     go_loopw [50] (fun y wr=>∃k:Nat,k<=S.ds.length/\y= .int .i64 k/\Hid (yo S.ds P k)/\Below w5.heap.size w5 wr) (fun y _=>S.ds.length -(intOf y).toNat)
     case atStart=>exact⟨0,aab _,rfl,h_ (fun j hj=>absurd hj o_),aaj _ _⟩
     case round=>
      obtain⟨k,hk,rfl,HT,Hb⟩:=hrel;clear x_0 x_1 x_2 x_3 x_4 x_5 x_6 x_7 n_0 n_1;have fV:=Hv.trans (Hb.mono Hv.size);have mS:=CN.below Hb uL;have bY:=ma.below Hb uM;have uO:=bY.lt;obtain⟨x_0,x_1,x_2,x_3,x_4,x_5,x_6,x_7⟩:=mS.c8;obtain⟨n_0,n_1⟩:=bY.c2
      by_cases Hf:k<S.ds.length
      ·obtain⟨b,off,rfl,hd⟩:=Fg.out o_
       have hd:=hd.below fV;obtain⟨q0,q1,q2⟩:=hd.2 k Hf;have Hp:(k:Int)<(S.ds.length:Int):=o_
       have ik1:(0:Int)<=(k:Int):=o_
       have mm:=h_ (uN.out k Hf);have GW:=h_ (MB.out k HT.out);clear hd;generalize dpI S.ds k=D at*
       go_upto_region 9 with (fail)
       obtain⟨wq,FI⟩:∃v,v=wr.alloc (.cells #[.int .i64 D.k,.int .i64 D.a,.int .i64 D.b] 48):=⟨_,rfl⟩;have hq:Blk wq wr.heap.size 48 #[.int .i64 D.k,.int .i64 D.a,.int .i64 D.b]:=FI▸Blk.newAt rfl;have CQ:Below wr.heap.size wr wq:=FI▸(aaj _ _).alloc (aaa _) _;rw[<-FI];clear FI;have Ww:=bY.below CQ uO;have hNlq:=Ww.lt;have M4:=fV.trans (CQ.mono fV.size);have FR:=Hb.trans (CQ.mono Hb.size);have rn:=HH.out.dr.nn.below M4;have rl:=HH.out.dr.nl.below M4;have Br:=hq.lt;clear x_0 x_1 x_2 x_3 x_4 x_5 x_6 x_7 n_0 n_1 q0 q1 q2 mS bY CQ Hb fV;obtain⟨y_0,y_1,y_2⟩:=hq.c3;obtain⟨n_0,n_1⟩:=Ww.c2;generalize wr.heap.size=Bq at*
       by_cases hp:P<D.k
       ·have e1:decide (P<D.k)=true:=aaQ hp
        have HX:Hid (zd S=false):=h_ (by rw[G3.out,mm.out hp];simp);clear hp
        go_wp2_with fail
        (refine z7 k_ k_ (fun hG=>?_))
        repeat (go_big_quiet_step ((go_at_call 22;exact zI (vm _ _ S.D.nn S.D.nl P _ (rn.below (Grw.below _)) (rl.below (Grw.below _)) mQ.out))))
        refine wpQuiet_nil ?_
        clear hG;rintro w8 ⟨⟨_,M5⟩,rfl⟩;have mb:=FR.trans (M5.mono FR.size);clear M5 FR y_0 y_1 y_2 n_0 n_1;go_wp2;go_ret
        exact⟨z8 HX.out.symm,Hv.trans (mb.mono Hv.size)⟩
       ·have e1:decide (P<D.k)=false:=aaO hp
        have HX:=h_ (GW.out o_);clear hp
        go_wp2_with fail
        (refine z7 k_ k_ (fun hG=>?_))
        repeat (go_big_quiet_step ((go_at_call 22;exact zI (vm _ _ S.D.nn S.D.nl P _ (rn.below (Grw.below _)) (rl.below (Grw.below _)) mQ.out))))
        refine wpQuiet_nil ?_
        clear hG;rintro w8 ⟨⟨_,M5⟩,rfl⟩;have mb:=FR.trans (M5.mono FR.size);clear M5 FR y_0 y_1 y_2 n_0 n_1;go_wp2;go_roundw
        case rel=>exact⟨k+1,by omega,by go_num,HX,mb⟩
        case measure=>simp[intOf];omega
      ·have gi:k=S.ds.length:=o_
       subst gi;have FS:=h_ (M3.out HT.out);have HX:Hid (zd S=true):=h_ (by rw[G3.out,FS.out,mR.out,bX.out];rfl);go_wp2;go_ret
       exact⟨z8 HX.out.symm,fV⟩
   ·have e2:¬(0:Int)<(S.ds.length:Int):=o_
    have bX:Hid (decide (S.ds.length=0)=true):=h_ (aaQ o_);clear mw;have M3:=h_ (fun (h:yo S.ds P S.ds.length)=>z9T h);clear x_0 x_1 x_2 x_3 x_4 x_5 x_6 x_7 n_0 n_1;obtain⟨x_0,x_1,x_2,x_3,x_4,x_5,x_6,x_7⟩:=Fh.c8;obtain⟨n_0,n_1⟩:=Mk.c2;go_wp2
    go_loopw [50] (fun y wr=>∃k:Nat,k<=S.ds.length/\y= .int .i64 k/\Hid (yo S.ds P k)/\Below w4.heap.size w4 wr) (fun y _=>S.ds.length -(intOf y).toNat)
    case atStart=>exact⟨0,aab _,rfl,h_ (fun j hj=>absurd hj o_),aaj _ _⟩
    case round=>
     obtain⟨k,hk,rfl,HT,Hb⟩:=hrel;clear x_0 x_1 x_2 x_3 x_4 x_5 x_6 x_7 n_0 n_1;have fV:=Hn.trans (Hb.mono Hn.size);have mS:=Fh.below Hb Wu;have bY:=Mk.below Hb Wv;obtain⟨x_0,x_1,x_2,x_3,x_4,x_5,x_6,x_7⟩:=mS.c8;obtain⟨n_0,n_1⟩:=bY.c2
     by_cases Hf:k<S.ds.length
     ·exact absurd Hf o_
     ·have gi:k=S.ds.length:=o_
      subst gi;have FS:=h_ (M3.out HT.out);have HX:Hid (zd S=true):=h_ (by rw[G3.out,FS.out,mR.out,bX.out];rfl);go_wp2;go_ret
      exact⟨z8 HX.out.symm,fV⟩
 ·have e1:¬(0:Int)<(S.cs.length:Int):=o_
  have mR:Hid (decide (S.cs.length=0)=true):=h_ (aaQ o_);clear bk
  by_cases mw:0<S.ds.length
  ·have e2:(0:Int)<(S.ds.length:Int):=o_
   have bX:Hid (decide (S.ds.length=0)=false):=h_ (aaO o_)
   go_wp2_with fail
   refine(j8 _ _ S.D.nn S.D.nl wB _ (HH.out.dr.nn.below Hc) (HH.out.dr.nl.below Hc) ut.out).mono ?_
   rintro e w5 ⟨rfl,H0⟩;have Hv:=Hc.trans (H0.mono Hc.size);have CN:=Gr.below H0 Gr.lt;have ma:=Cp.below H0 Cp.lt;clear H0 Hc Gr Cp uJ uK x_0 x_1 x_2 x_3 x_4 x_5 x_6 x_7 n_0 n_1;have uL:=CN.lt;have uM:=ma.lt;obtain⟨x_0,x_1,x_2,x_3,x_4,x_5,x_6,x_7⟩:=CN.c8;obtain⟨n_0,n_1⟩:=ma.c2;clear e2
   cases wB
   ·have HX:Hid (zd S=false):=h_ (by rw[G3.out,bX.out];simp)
    go_wp2;go_ret
    exact⟨z8 HX.out.symm,Hv⟩
   ·skip
    have uN:=h_ (fun k (hk:k<S.ds.length) (h:P<(dpI S.ds k).k)=>zal hk h);have MB:=h_ (fun k (h:yo S.ds P k) h2=>kB (k:=k) h h2);have M3:=h_ (fun (h:yo S.ds P S.ds.length)=>z9T h);clear x_0 x_1 x_2 x_3 x_4 x_5 x_6 x_7 n_0 n_1;obtain⟨x_0,x_1,x_2,x_3,x_4,x_5,x_6,x_7⟩:=CN.c8;obtain⟨n_0,n_1⟩:=ma.c2;go_wp2
    go_loopw [50] (fun y wr=>∃k:Nat,k<=S.ds.length/\y= .int .i64 k/\Hid (yo S.ds P k)/\Below w5.heap.size w5 wr) (fun y _=>S.ds.length -(intOf y).toNat)
    case atStart=>exact⟨0,aab _,rfl,h_ (fun j hj=>absurd hj o_),aaj _ _⟩
    case round=>
     obtain⟨k,hk,rfl,HT,Hb⟩:=hrel;clear x_0 x_1 x_2 x_3 x_4 x_5 x_6 x_7 n_0 n_1;have fV:=Hv.trans (Hb.mono Hv.size);have mS:=CN.below Hb uL;have bY:=ma.below Hb uM;have uO:=bY.lt;obtain⟨x_0,x_1,x_2,x_3,x_4,x_5,x_6,x_7⟩:=mS.c8;obtain⟨n_0,n_1⟩:=bY.c2
     by_cases Hf:k<S.ds.length
     ·obtain⟨b,off,rfl,hd⟩:=Fg.out o_
      have hd:=hd.below fV;obtain⟨q0,q1,q2⟩:=hd.2 k Hf;have Hp:(k:Int)<(S.ds.length:Int):=o_
      have ik1:(0:Int)<=(k:Int):=o_
      have mm:=h_ (uN.out k Hf);have GW:=h_ (MB.out k HT.out);clear hd;generalize dpI S.ds k=D at*
      go_upto_region 9 with (fail)
      obtain⟨wq,FI⟩:∃v,v=wr.alloc (.cells #[.int .i64 D.k,.int .i64 D.a,.int .i64 D.b] 48):=⟨_,rfl⟩;have hq:Blk wq wr.heap.size 48 #[.int .i64 D.k,.int .i64 D.a,.int .i64 D.b]:=FI▸Blk.newAt rfl;have CQ:Below wr.heap.size wr wq:=FI▸(aaj _ _).alloc (aaa _) _;rw[<-FI];clear FI;have Ww:=bY.below CQ uO;have hNlq:=Ww.lt;have M4:=fV.trans (CQ.mono fV.size);have FR:=Hb.trans (CQ.mono Hb.size);have rn:=HH.out.dr.nn.below M4;have rl:=HH.out.dr.nl.below M4;have Br:=hq.lt;clear x_0 x_1 x_2 x_3 x_4 x_5 x_6 x_7 n_0 n_1 q0 q1 q2 mS bY CQ Hb fV;obtain⟨y_0,y_1,y_2⟩:=hq.c3;obtain⟨n_0,n_1⟩:=Ww.c2;generalize wr.heap.size=Bq at*
      by_cases hp:P<D.k
      ·have e1:decide (P<D.k)=true:=aaQ hp
       have HX:Hid (zd S=false):=h_ (by rw[G3.out,mm.out hp];simp);clear hp
       go_wp2_with fail
       (refine z7 k_ k_ (fun hG=>?_))
       repeat (go_big_quiet_step ((go_at_call 22;exact zI (vm _ _ S.D.nn S.D.nl P _ (rn.below (Grw.below _)) (rl.below (Grw.below _)) mQ.out))))
       refine wpQuiet_nil ?_
       clear hG;rintro w8 ⟨⟨_,M5⟩,rfl⟩;have mb:=FR.trans (M5.mono FR.size);clear M5 FR y_0 y_1 y_2 n_0 n_1;go_wp2;go_ret
       exact⟨z8 HX.out.symm,Hv.trans (mb.mono Hv.size)⟩
      ·have e1:decide (P<D.k)=false:=aaO hp
       have HX:=h_ (GW.out o_);clear hp
       go_wp2_with fail
       (refine z7 k_ k_ (fun hG=>?_))
       repeat (go_big_quiet_step ((go_at_call 22;exact zI (vm _ _ S.D.nn S.D.nl P _ (rn.below (Grw.below _)) (rl.below (Grw.below _)) mQ.out))))
       refine wpQuiet_nil ?_
       clear hG;rintro w8 ⟨⟨_,M5⟩,rfl⟩;have mb:=FR.trans (M5.mono FR.size);clear M5 FR y_0 y_1 y_2 n_0 n_1;go_wp2;go_roundw
       case rel=>exact⟨k+1,by omega,by go_num,HX,mb⟩
       case measure=>simp[intOf];omega
     ·have gi:k=S.ds.length:=o_
      subst gi;have FS:=h_ (M3.out HT.out);have HX:Hid (zd S=true):=h_ (by rw[G3.out,FS.out,mR.out,bX.out];rfl);go_wp2;go_ret
      exact⟨z8 HX.out.symm,fV⟩
  ·have e2:¬(0:Int)<(S.ds.length:Int):=o_
   have bX:Hid (decide (S.ds.length=0)=true):=h_ (aaQ o_);clear mw;have M3:=h_ (fun (h:yo S.ds P S.ds.length)=>z9T h);clear x_0 x_1 x_2 x_3 x_4 x_5 x_6 x_7 n_0 n_1;obtain⟨x_0,x_1,x_2,x_3,x_4,x_5,x_6,x_7⟩:=Gr.c8;obtain⟨n_0,n_1⟩:=Cp.c2;go_wp2
   go_loopw [50] (fun y wr=>∃k:Nat,k<=S.ds.length/\y= .int .i64 k/\Hid (yo S.ds P k)/\Below w3.heap.size w3 wr) (fun y _=>S.ds.length -(intOf y).toNat)
   case atStart=>exact⟨0,aab _,rfl,h_ (fun j hj=>absurd hj o_),aaj _ _⟩
   case round=>
    obtain⟨k,hk,rfl,HT,Hb⟩:=hrel;clear x_0 x_1 x_2 x_3 x_4 x_5 x_6 x_7 n_0 n_1;have fV:=Hc.trans (Hb.mono Hc.size);have mS:=Gr.below Hb uJ;have bY:=Cp.below Hb uK;obtain⟨x_0,x_1,x_2,x_3,x_4,x_5,x_6,x_7⟩:=mS.c8;obtain⟨n_0,n_1⟩:=bY.c2
    by_cases Hf:k<S.ds.length
    ·exact absurd Hf o_
    ·have gi:k=S.ds.length:=o_
     subst gi;have FS:=h_ (M3.out HT.out);have HX:Hid (zd S=true):=h_ (by rw[G3.out,FS.out,mR.out,bX.out];rfl);go_wp2;go_ret
     exact⟨z8 HX.out.symm,fV⟩
theorem z73 (v0 v1 v2 v3 v4 v5 v6:Value) (S:St) (w:World) (h:RSt w v0 v1 v2 v3 v4 v5 v6 S):
  CB_ 70 #[.agg #[v0,v1,v2,v3,v4,v5,v6,.int .i64 S.fund]] w (.bool (zd S)):=by
 obtain⟨B2,d2,ev2,_⟩:=h.dr.nn.formI;obtain⟨B3,d3,ev3,_⟩:=h.dr.nl.formI;obtain⟨B5,d5,ev5,ci,wY,_⟩:=h.cs.form;obtain⟨B6,d6,ev6,cK,CR,fr⟩:=h.ds.at_;subst ev2 ev3 ev5 ev6;unfold maxLen at wY CR;have Hg:Below w.heap.size w (w.alloc (.cells #[v0,v1,.slice B2 S.D.nn.length d2,.slice B3 S.D.nl.length d3,v4,.slice B5 S.cs.length d5,.slice B6 S.ds.length d6,.int .i64 S.fund] 34)):=bel_
 have Cc:Blk (w.alloc (.cells #[v0,v1,.slice B2 S.D.nn.length d2,.slice B3 S.D.nl.length d3,v4,.slice B5 S.cs.length d5,.slice B6 S.ds.length d6,.int .i64 S.fund] 34)) w.heap.size 34 #[v0,v1,.slice B2 S.D.nn.length d2,.slice B3 S.D.nl.length d3,v4,.slice B5 S.cs.length d5,.slice B6 S.ds.length d6,.int .i64 S.fund]:=Blk.newAt rfl;have Fg:=h_ fr;have HH:=h_ h;clear fr h;obtain⟨od,n9⟩:∃x,okD S.D=x:=⟨_,rfl⟩;obtain⟨dB,uF⟩:∃x,qB S.ds=x:=⟨_,rfl⟩;obtain⟨fB,uG⟩:∃x,inB S.fund 0 1000000=x:=⟨_,rfl⟩;obtain⟨pB,uH⟩:∃x,qf S.D.nn S.D.nl S.cs=x:=⟨_,rfl⟩;obtain⟨wB,uI⟩:∃x,ze S.D.nn S.D.nl=x:=⟨_,rfl⟩;obtain⟨P,hP⟩:∃x,jD S.D.nn S.D.nl=x:=⟨_,rfl⟩;have G3:Hid (zd S=(od&&(dB&&(fB&&((decide (S.cs.length=0)||pB)&&((decide (S.ds.length=0)||wB)&&S.ds.all (fun d=>decide (d.k<=P)))))))):=h_ (by unfold zd;rw[n9,uF,uG,uH,uI,hP]);have HOD:=h_ n9;have HDB:=h_ uF;have HFB:=h_ uG;have HPB:=h_ uH;have ut:=h_ uI;have mQ:=h_ hP;clear n9 uF uG uH uI hP
 go_enter Tryz.func70,Tryz.ntmps70
 go_wp2_with fail
 refine(z3Y _ _ _ _ _ S.D od _ (HH.out.dr.below Hg) HOD).mono ?_
 rintro e w1 ⟨rfl,h9⟩;have h8:=Hg.trans (h9.mono Hg.size);have Ga:=Cc.below h9 Cc.lt;clear h9 Hg Cc
 cases od
 ·have HX:Hid (zd S=false):=h_ (by rw[G3.out];rfl)
  go_wp2;go_ret
  exact⟨z8 HX.out.symm,h8⟩
 obtain⟨x_0,x_1,x_2,x_3,x_4,x_5,x_6,x_7⟩:=Ga.c8
 go_wp2_with fail
 refine(z5T _ S.ds dB _ (HH.out.ds.below h8) HDB.out).mono ?_
 rintro e w2 ⟨rfl,Hd⟩;have Ha:=h8.trans (Hd.mono h8.size);have G9:=Ga.below Hd Ga.lt;clear Hd h8 Ga x_0 x_1 x_2 x_3 x_4 x_5 x_6 x_7
 cases dB
 ·have HX:Hid (zd S=false):=h_ (by rw[G3.out];rfl)
  go_wp2;go_ret
  exact⟨z8 HX.out.symm,Ha⟩
 obtain⟨x_0,x_1,x_2,x_3,x_4,x_5,x_6,x_7⟩:=G9.c8;have M2:=G9.lt
 go_wp2_with fail
 refine(zP S.fund 0 1000000 fB _ HFB.out).mono ?_
 rintro e w' ⟨rfl,rfl⟩
 cases fB
 ·have HX:Hid (zd S=false):=h_ (by rw[G3.out];rfl)
  go_wp2;go_ret
  exact⟨z8 HX.out.symm,Ha⟩
 go_upto_region 4 with (fail)
 obtain⟨w3,GT⟩:∃u,u=w2.alloc (.cells #[.slice B2 S.D.nn.length d2,.slice B3 S.D.nl.length d3] 27):=⟨_,rfl⟩;have Cp:Blk w3 w2.heap.size 27 #[.slice B2 S.D.nn.length d2,.slice B3 S.D.nl.length d3]:=GT▸Blk.newAt rfl;have He:Below w2.heap.size w2 w3:=GT▸(aaj _ _).alloc (aaa _) _;rw[<-GT];clear GT;have Hc:=Ha.trans (He.mono Ha.size);have Gr:=G9.below He M2;clear He Ha G9 x_0 x_1 x_2 x_3 x_4 x_5 x_6 x_7 M2;generalize w2.heap.size=Nb at*;obtain⟨x_0,x_1,x_2,x_3,x_4,x_5,x_6,x_7⟩:=Gr.c8;obtain⟨n_0,n_1⟩:=Cp.c2
 by_cases bk:0<S.cs.length
 ·have e1:(0:Int)<(S.cs.length:Int):=o_
  have mR:Hid (decide (S.cs.length=0)=false):=h_ (aaO o_)
  go_wp2_with fail
  refine(z2Y _ _ _ S.D.nn S.D.nl S.cs pB _ (HH.out.dr.nn.below Hc) (HH.out.dr.nl.below Hc) (HH.out.cs.below Hc) HPB.out).mono ?_
  rintro e w4 ⟨rfl,Hw⟩;have Hn:=Hc.trans (Hw.mono Hc.size);have Fh:=Gr.below Hw Gr.lt;have Mk:=Cp.below Hw Cp.lt;clear Hw Hc Gr Cp x_0 x_1 x_2 x_3 x_4 x_5 x_6 x_7 n_0 n_1;obtain⟨x_0,x_1,x_2,x_3,x_4,x_5,x_6,x_7⟩:=Fh.c8;obtain⟨n_0,n_1⟩:=Mk.c2;clear e1 bk
  cases pB
  ·have HX:Hid (zd S=false):=h_ (by rw[G3.out,mR.out];simp)
   go_wp2;go_ret
   exact⟨z8 HX.out.symm,Hn⟩
  ·skip
   go_wp2_with fail
   refine(XA _ _ S.D.nn S.D.nl P _ (HH.out.dr.nn.below Hn) (HH.out.dr.nl.below Hn) mQ.out).mono ?_
   rintro e w6 ⟨rfl,gz⟩;have gQ:=Hn.trans (gz.mono Hn.size);have bS:=Fh.below gz Fh.lt;have MY:=Mk.below gz Mk.lt;clear gz Hn Fh Mk x_0 x_1 x_2 x_3 x_4 x_5 x_6 x_7 n_0 n_1;have uP:=bS.lt;have uQ:=MY.lt;obtain⟨x_0,x_1,x_2,x_3,x_4,x_5,x_6,x_7⟩:=bS.c8;obtain⟨n_0,n_1⟩:=MY.c2;have uN:=h_ (fun k (hk:k<S.ds.length) (h:P<(dpI S.ds k).k)=>zal hk h);have MB:=h_ (fun k (h:yo S.ds P k) h2=>kB (k:=k) h h2);have M3:=h_ (fun (h:yo S.ds P S.ds.length)=>z9T h);clear x_0 x_1 x_2 x_3 x_4 x_5 x_6 x_7 n_0 n_1;obtain⟨x_0,x_1,x_2,x_3,x_4,x_5,x_6,x_7⟩:=bS.c8;obtain⟨n_0,n_1⟩:=MY.c2;go_wp2
   go_loopw [5] (fun y wr=>∃k:Nat,k<=S.ds.length/\y= .int .i64 k/\Hid (yo S.ds P k)/\Below w6.heap.size w6 wr) (fun y _=>S.ds.length -(intOf y).toNat)
   case atStart=>exact⟨0,aab _,rfl,h_ (fun j hj=>absurd hj o_),aaj _ _⟩
   case round=>
    obtain⟨k,hk,rfl,HT,Hb⟩:=hrel;clear x_0 x_1 x_2 x_3 x_4 x_5 x_6 x_7 n_0 n_1;have fV:=gQ.trans (Hb.mono gQ.size);have mS:=bS.below Hb uP;have bY:=MY.below Hb uQ;obtain⟨x_0,x_1,x_2,x_3,x_4,x_5,x_6,x_7⟩:=mS.c8;obtain⟨n_0,n_1⟩:=bY.c2
    by_cases Hf:k<S.ds.length
    ·obtain⟨b,off,rfl,hd⟩:=Fg.out o_
     have hd:=hd.below fV;obtain⟨q0,q1,q2⟩:=hd.2 k Hf;have Hp:(k:Int)<(S.ds.length:Int):=o_
     have ik1:(0:Int)<=(k:Int):=o_
     have mm:=h_ (uN.out k Hf);have GW:=h_ (MB.out k HT.out);clear hd;generalize dpI S.ds k=D at*
     by_cases hp:P<D.k
     ·have e1:decide (P<D.k)=true:=aaQ hp
      have HX:Hid (zd S=false):=h_ (by rw[G3.out,mm.out hp];simp);clear hp;go_wp2;go_ret
      exact⟨z8 HX.out.symm,fV⟩
     ·have e1:decide (P<D.k)=false:=aaO hp
      have HX:=h_ (GW.out o_);clear hp;go_wp2;go_roundw
      case rel=>exact⟨k+1,by omega,by go_num,HX,Hb⟩
      case measure=>simp[intOf];omega
    ·have gi:k=S.ds.length:=o_
     subst gi;have FS:=h_ (M3.out HT.out)
     by_cases mw:S.ds.length=0
     ·have HX:Hid (zd S=true):=h_ (by rw[G3.out,FS.out,mR.out,aaQ mw];rfl)
      go_wp2;go_ret
      exact⟨z8 HX.out.symm,fV⟩
     ·have HX:Hid (zd S=wB):=h_ (by rw[G3.out,FS.out,mR.out,aaO mw];cases wB<;>rfl)
      have e1:((S.ds.length:Int)==0)=false:=beq_eq_false_iff_ne.2 o_
      go_wp2_with fail
      refine(qR _ _ S.D.nn S.D.nl wB _ (HH.out.dr.nn.below fV) (HH.out.dr.nl.below fV) ut.out).mono ?_
      rintro e w9 ⟨rfl,cm⟩;have uR:=fV.trans (cm.mono fV.size);clear e1;go_wp2;go_ret
      exact⟨z8 HX.out.symm,uR⟩
 ·have e1:¬(0:Int)<(S.cs.length:Int):=o_
  have mR:Hid (decide (S.cs.length=0)=true):=h_ (aaQ o_);clear bk
  go_wp2_with fail
  refine(XA _ _ S.D.nn S.D.nl P _ (HH.out.dr.nn.below Hc) (HH.out.dr.nl.below Hc) mQ.out).mono ?_
  rintro e w6 ⟨rfl,gz⟩;have gQ:=Hc.trans (gz.mono Hc.size);have bS:=Gr.below gz Gr.lt;have MY:=Cp.below gz Cp.lt;clear gz Hc Gr Cp x_0 x_1 x_2 x_3 x_4 x_5 x_6 x_7 n_0 n_1;have uP:=bS.lt;have uQ:=MY.lt;obtain⟨x_0,x_1,x_2,x_3,x_4,x_5,x_6,x_7⟩:=bS.c8;obtain⟨n_0,n_1⟩:=MY.c2;have uN:=h_ (fun k (hk:k<S.ds.length) (h:P<(dpI S.ds k).k)=>zal hk h);have MB:=h_ (fun k (h:yo S.ds P k) h2=>kB (k:=k) h h2);have M3:=h_ (fun (h:yo S.ds P S.ds.length)=>z9T h);clear x_0 x_1 x_2 x_3 x_4 x_5 x_6 x_7 n_0 n_1;obtain⟨x_0,x_1,x_2,x_3,x_4,x_5,x_6,x_7⟩:=bS.c8;obtain⟨n_0,n_1⟩:=MY.c2;go_wp2
  go_loopw [5] (fun y wr=>∃k:Nat,k<=S.ds.length/\y= .int .i64 k/\Hid (yo S.ds P k)/\Below w6.heap.size w6 wr) (fun y _=>S.ds.length -(intOf y).toNat)
  case atStart=>exact⟨0,aab _,rfl,h_ (fun j hj=>absurd hj o_),aaj _ _⟩
  case round=>
   obtain⟨k,hk,rfl,HT,Hb⟩:=hrel;clear x_0 x_1 x_2 x_3 x_4 x_5 x_6 x_7 n_0 n_1;have fV:=gQ.trans (Hb.mono gQ.size);have mS:=bS.below Hb uP;have bY:=MY.below Hb uQ;obtain⟨x_0,x_1,x_2,x_3,x_4,x_5,x_6,x_7⟩:=mS.c8;obtain⟨n_0,n_1⟩:=bY.c2
   by_cases Hf:k<S.ds.length
   ·obtain⟨b,off,rfl,hd⟩:=Fg.out o_
    have hd:=hd.below fV;obtain⟨q0,q1,q2⟩:=hd.2 k Hf;have Hp:(k:Int)<(S.ds.length:Int):=o_
    have ik1:(0:Int)<=(k:Int):=o_
    have mm:=h_ (uN.out k Hf);have GW:=h_ (MB.out k HT.out);clear hd;generalize dpI S.ds k=D at*
    by_cases hp:P<D.k
    ·have e1:decide (P<D.k)=true:=aaQ hp
     have HX:Hid (zd S=false):=h_ (by rw[G3.out,mm.out hp];simp);clear hp;go_wp2;go_ret
     exact⟨z8 HX.out.symm,fV⟩
    ·have e1:decide (P<D.k)=false:=aaO hp
     have HX:=h_ (GW.out o_);clear hp;go_wp2;go_roundw
     case rel=>exact⟨k+1,by omega,by go_num,HX,Hb⟩
     case measure=>simp[intOf];omega
   ·have gi:k=S.ds.length:=o_
    subst gi;have FS:=h_ (M3.out HT.out)
    by_cases mw:S.ds.length=0
    ·have HX:Hid (zd S=true):=h_ (by rw[G3.out,FS.out,mR.out,aaQ mw];rfl)
     go_wp2;go_ret
     exact⟨z8 HX.out.symm,fV⟩
    ·have HX:Hid (zd S=wB):=h_ (by rw[G3.out,FS.out,mR.out,aaO mw];cases wB<;>rfl)
     have e1:((S.ds.length:Int)==0)=false:=beq_eq_false_iff_ne.2 o_
     go_wp2_with fail
     refine(qR _ _ S.D.nn S.D.nl wB _ (HH.out.dr.nn.below fV) (HH.out.dr.nl.below fV) ut.out).mono ?_
     rintro e w9 ⟨rfl,cm⟩;have uR:=fV.trans (cm.mono fV.size);clear e1;go_wp2;go_ret
     exact⟨z8 HX.out.symm,uR⟩
theorem kE (v0 v1 v2 v3 v4 v5 v6:Value) (S:St) (r:Bool) (w:World) (h:RSt w v0 v1 v2 v3 v4 v5 v6 S) (hx:Hid (zd S=r)):
  CB_ 70 #[.agg #[v0,v1,v2,v3,v4,v5,v6,.int .i64 S.fund]] w (.bool r):=by
 rw[<-hx.out];exact z73 v0 v1 v2 v3 v4 v5 v6 S w h
theorem qb (v0 v1 v2 v3 v4 v5 v6:Value) (S:St) (r:Bool) (w:World) (h:RSt w v0 v1 v2 v3 v4 v5 v6 S) (hx:Hid (zd S=r)):
  CB_ 17 #[.agg #[v0,v1,v2,v3,v4,v5,v6,.int .i64 S.fund]] w (.bool r):=by
 rw[<-hx.out];exact z7f v0 v1 v2 v3 v4 v5 v6 S w h
end Go.Proofs.YtnjcpljhmhdhkaaGreat
