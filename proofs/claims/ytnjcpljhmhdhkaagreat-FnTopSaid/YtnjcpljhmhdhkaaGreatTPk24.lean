/- part 24 -/
import Derived.Test.YtnjcpljhmhdhkaaGreatTPk22
import Derived.Test.YtnjcpljhmhdhkaaGreatTPk23
set_option linter.unusedSimpArgs false
set_option linter.unusedVariables false
set_option maxRecDepth 100000
set_option maxHeartbeats 16000000
namespace Go.Proofs.YtnjcpljhmhdhkaaGreat
open Go.RowKit
theorem z0M (v:Value) (zs:List Int) (x y:Int) (w:World) (h:RI w v zs):
  Calls Tryz.prog 146 #[v,.int .i64 x,.int .i64 y] w fun e w'=>e= .returned (.bool (vj zs x y))/\w=w':=by
 obtain⟨A,c,rfl,hc,hm,hcell⟩:=h.form;unfold maxLen at hm;clear h;have Bb:=h_ (fun k (hk:k<zs.length) h=>XW (a:=x) (b:=y) hk h);have C9:=h_ (fun (h:kT zs x y zs.length)=>jW.2 h)
 go_enter Tryz.func146,Tryz.ntmps146
 go_wp2
 go_loop [11] (fun i=>∃k:Nat,k<=zs.length/\i= .int .i64 k/\Hid (kT zs x y k)) (fun i=>zs.length -(intOf i).toNat)
 case atStart=>exact⟨0,aab _,rfl,h_ (fun j hj=>absurd hj o_)⟩
 case round=>
  obtain⟨k,hk,rfl,HT⟩:=hrel
  by_cases Hf:k<zs.length
  ·obtain⟨b,off,rfl,hb,Hz⟩:=hcell o_
   have fM:=Hz k Hf;have Hu:(k:Int)<(zs.length:Int):=o_
   have ik1:(0:Int)<=(k:Int):=o_
   have Bu:=h_ (Bb.out k Hf)
   have GZ:Hid (inB (zs.getD k 0) x y=true->kT zs x y (k+1)):=h_ (fun h j hj=>by
    by_cases e:j=k
    ·subst e;exact h
    ·exact HT.out j o_)
   clear Hz hcell;generalize zs.getD k 0=z at*
   cases hq:inB z x y
   ·have HX:=h_ (Bu.out hq)
    have HQ:=h_ hq;clear hq
    go_wp2_with fail
    refine(zn z x y false _ HQ.out).mono ?_
    rintro e w' ⟨rfl,rfl⟩;go_wp2;go_ret
    exact⟨z8 HX.out.symm,rfl⟩
   ·have HX:=h_ (GZ.out hq)
    have HQ:=h_ hq;clear hq
    go_wp2_with fail
    refine(zn z x y true _ HQ.out).mono ?_
    rintro e w' ⟨rfl,rfl⟩;go_wp2;go_round
    case rel=>exact⟨k+1,by omega,by go_num,HX⟩
    case measure=>simp[intOf];omega
  ·have gn:k=zs.length:=o_
   subst gn;have HX:=h_ (C9.out HT.out);clear hcell;go_wp2;go_ret
   exact⟨z8 HX.out.symm,rfl⟩
theorem kN (v:Value) (zs:List Int) (n:Nat) (w:World) (h:RI w v zs) (hn:n<=40):
  Calls Tryz.prog 120 #[.int .i64 n,v] w fun e w'=>e= .returned (.bool (decide (zs.length=n)&&vj zs 0 5))/\w=w':=by
 obtain⟨A,c,rfl,hc,hm,hcell⟩:=h.form;unfold maxLen at hm;clear h;obtain⟨bl,Hd⟩:∃x,decide (zs.length=n)=x:=⟨_,rfl⟩;have Ge:((zs.length:Int)==(n:Int))=bl:=by rw[<-Hd,aaZ];simp;omega
 rw[Hd];have rc:=h_ Ge;have Bb:Hid (∀k,k<zs.length->inB (zs.getD k 0) 0 5=false->(bl&&vj zs 0 5)=false):=h_ (fun k (hk:k<zs.length) h=>by rw[XW (a:=0) (b:=5) hk h];cases bl<;>rfl);have C9:Hid (kT zs 0 5 zs.length->(bl&&vj zs 0 5)=bl):=h_ (fun (h:kT zs 0 5 zs.length)=>by rw[jW.2 h];cases bl<;>rfl);clear Hd Ge
 go_enter Tryz.func120,Tryz.ntmps120
 go_wp2
 go_loop [5] (fun i=>∃k:Nat,k<=zs.length/\i= .int .i64 k/\Hid (kT zs 0 5 k)) (fun i=>zs.length -(intOf i).toNat)
 case atStart=>exact⟨0,aab _,rfl,h_ (fun j hj=>absurd hj o_)⟩
 case round=>
  obtain⟨k,hk,rfl,HT⟩:=hrel
  by_cases Hf:k<zs.length
  ·obtain⟨b,off,rfl,hb,Hz⟩:=hcell o_
   have fM:=Hz k Hf;have Hu:(k:Int)<(zs.length:Int):=o_
   have ik1:(0:Int)<=(k:Int):=o_
   have Bu:=h_ (Bb.out k Hf)
   have GZ:Hid (inB (zs.getD k 0) 0 5=true->kT zs 0 5 (k+1)):=h_ (fun h j hj=>by
    by_cases e:j=k
    ·subst e;exact h
    ·exact HT.out j o_)
   clear Hz hcell;generalize zs.getD k 0=z at*
   cases hq:inB z 0 5
   ·have HX:=h_ (Bu.out hq)
    have HQ:=h_ hq;clear hq
    go_wp2_with fail
    refine(zP z 0 5 false _ HQ.out).mono ?_
    rintro e w' ⟨rfl,rfl⟩;go_wp2;go_ret
    exact⟨z8 HX.out.symm,rfl⟩
   ·have HX:=h_ (GZ.out hq)
    have HQ:=h_ hq;clear hq
    go_wp2_with fail
    refine(zP z 0 5 true _ HQ.out).mono ?_
    rintro e w' ⟨rfl,rfl⟩;go_wp2;go_round
    case rel=>exact⟨k+1,by omega,by go_num,HX⟩
    case measure=>simp[intOf];omega
  ·have gn:k=zs.length:=o_
   have HX:=h_ (C9.out (gn▸HT.out));have HQ:=rc.out;subst gn;clear hcell;go_wp2;go_ret
   exact⟨z8 HX.out.symm,rfl⟩
theorem xh {ns ls:List Pr} {cs:List Int} (h:qm ns ls cs=true):zf ns ls=true/\cs.length=(z9 ns ls).length /\vj cs 0 5=true:=by
 unfold qm at h;rw[aaG,aaG,aa4] at h;exact h
theorem z1T (vn vl vc:Value) (ns ls:List Pr) (cs:List Int) (w:World) (hn:RP w vn ns) (hl:RP w vl ls) (hc:RI w vc cs):
  CB_ 82 #[.agg #[vn,vl],vc] w (.bool (qm ns ls cs)):=by
 obtain⟨Ac,cc,rfl,Gj,bM,_⟩:=hc.form;unfold maxLen at bM;have Hi:Below w.heap.size w (w.alloc (.cells #[vn,vl] 27)):=bel_
 have gE:Blk (w.alloc (.cells #[vn,vl] 27)) w.heap.size 27 #[vn,vl]:=Blk.newAt rfl
 cases hw:zf ns ls
 ·have HR:Hid (qm ns ls cs=false):=h_ (by unfold qm;rw[hw];rfl)
  go_enter Tryz.func82,Tryz.ntmps82
  go_wp2_with fail
  refine(j8 _ _ ns ls _ _ (hn.below Hi) (hl.below Hi) hw).mono ?_
  rintro e w1 ⟨rfl,Hb⟩;have Ha:=Hi.trans (Hb.mono Hi.size);go_wp2;go_ret
  exact⟨z8 HR.out.symm,Ha⟩
 ·have fK:=zD ns ls
  have bm:=h_ (fun (v:World) (h1:RP v vn ns) (h2:RP v vl ls)=>jS vn vl ns ls v h1 h2);have HR:Hid (qm ns ls cs=(decide (cs.length=(z9 ns ls).length)&&vj cs 0 5)):=h_ (by unfold qm;rw[hw];rfl);generalize z9 ns ls=F at*
  by_cases Hm:cs.length=F.length
  ·have HX:Hid (qm ns ls cs=vj cs 0 5):=h_ (by rw[HR.out,aaQ Hm];rfl)
   have e1:((cs.length:Int)==(F.length:Int))=true:=beq_iff_eq.2 o_;have HE1:=h_ e1;clear e1 Hm
   go_enter Tryz.func82,Tryz.ntmps82
   go_wp2_with fail
   refine(j8 _ _ ns ls _ _ (hn.below Hi) (hl.below Hi) hw).mono ?_
   rintro e w1 ⟨rfl,Hb⟩;have Ha:=Hi.trans (Hb.mono Hi.size);have gc:=gE.below Hb gE.lt;clear Hb;obtain⟨a_0,a_1⟩:=gc.c2
   go_wp2_with fail
   refine(bm.out _ (hn.below Ha) (hl.below Ha)).mono ?_
   rintro e w2 ⟨v2,rfl,Hn,Hh⟩;obtain⟨A2,c2,rfl⟩:=Hn.form;have Hc:=Ha.trans (Hh.mono Ha.size);have e1:=HE1.out
   go_wp2_with fail
   refine(z0M _ cs 0 5 _ (hc.below Hc)).mono ?_
   rintro e w' ⟨rfl,rfl⟩;clear e1;go_wp2;go_ret
   exact⟨z8 HX.out.symm,Hc⟩
  ·have HX:Hid (qm ns ls cs=false):=h_ (by rw[HR.out,aaO Hm];rfl)
   have e1:((cs.length:Int)==(F.length:Int))=false:=beq_eq_false_iff_ne.2 o_;have HE1:=h_ e1;clear e1 Hm
   go_enter Tryz.func82,Tryz.ntmps82
   go_wp2_with fail
   refine(j8 _ _ ns ls _ _ (hn.below Hi) (hl.below Hi) hw).mono ?_
   rintro e w1 ⟨rfl,Hb⟩;have Ha:=Hi.trans (Hb.mono Hi.size);have gc:=gE.below Hb gE.lt;clear Hb;obtain⟨a_0,a_1⟩:=gc.c2
   go_wp2_with fail
   refine(bm.out _ (hn.below Ha) (hl.below Ha)).mono ?_
   rintro e w2 ⟨v2,rfl,Hn,Hh⟩;obtain⟨A2,c2,rfl⟩:=Hn.form;have Hc:=Ha.trans (Hh.mono Ha.size);have e1:=HE1.out;go_wp2;go_ret
   exact⟨z8 HX.out.symm,Hc⟩
theorem xk (vn vl vc:Value) (ns ls:List Pr) (cs:List Int) (b:Bool) (w:World) (hn:RP w vn ns) (hl:RP w vl ls) (hc:RI w vc cs) (hb:qm ns ls cs=b):
  CB_ 82 #[.agg #[vn,vl],vc] w (.bool b):=by
 subst hb;exact z1T vn vl vc ns ls cs w hn hl hc
theorem Vf {ns ls:List Pr} {cs:List Int} {m k:Nat} (h:vr ns ls cs k=true):je ns ls cs (m+1) k=k:=by simp only[je];rw[aao h]
theorem z04 {ns ls:List Pr} {cs:List Int} {m k:Nat} (h:vr ns ls cs k=false):je ns ls cs (m+1) k=je ns ls cs m (k+1):=by simp only[je];rw[aaq (by rw[h];simp)]
theorem z3f {ns ls:List Pr} {cs:List Int} (h:qm ns ls cs=true) {k:Nat} (hk:k<ls.length):
  ∃p q:Nat,(zM ns ls).getD (2*k) 0=(p:Int)/\(zM ns ls).getD (2*k+1) 0=(q:Int)/\p<cs.length/\q<cs.length/\vr ns ls cs k=(decide (¬p=q)&&decide (cs.getD p 0=cs.getD q 0)):=by
 obtain⟨h1,h2,_⟩:=xh h;have CX:=yh h1;obtain⟨p,hp,hpl⟩:=kx CX (show 2*k<2*ls.length by omega);obtain⟨q,hq,mr⟩:=kx CX (show 2*k+1<2*ls.length by omega);refine⟨p,q,hp,hq,by omega,by omega,?_⟩
 unfold vr;rw[hp,hq,aa5,aa5]
 congr 1
 rw[aaZ];simp only[aa4]
 omega
theorem z47 (vn vl vc:Value) (ns ls:List Pr) (cs:List Int) (w:World) (hn:RP w vn ns) (hl:RP w vl ls) (hc:RI w vc cs):
  CB_ 83 #[.agg #[vn,vl],vc] w (.int .i64 (jK ns ls cs)):=by
 obtain⟨Ac,cc,rfl,Gj,bM,hcell⟩:=hc.form;unfold maxLen at bM;obtain⟨Al,cl,rfl,Hz,GM,_⟩:=hl.formI;unfold maxLen at GM;have Hi:Below w.heap.size w (w.alloc (.cells #[vn,.slice Al ls.length cl] 27)):=bel_
 have gE:Blk (w.alloc (.cells #[vn,.slice Al ls.length cl] 27)) w.heap.size 27 #[vn,.slice Al ls.length cl]:=Blk.newAt rfl
 cases hw:qm ns ls cs
 ·have HR:Hid (jK ns ls cs= -1):=h_ (by unfold jK;rw[hw];rfl)
  go_enter Tryz.func83,Tryz.ntmps83
  go_wp2_with fail
  refine(xk _ _ _ ns ls cs _ _ (hn.below Hi) (hl.below Hi) (hc.below Hi) hw).mono ?_
  rintro e w1 ⟨rfl,Hb⟩;have Ha:=Hi.trans (Hb.mono Hi.size);go_wp2;go_ret
  exact⟨zi HR.out.symm,Ha⟩
 ·have HR:Hid (jK ns ls cs=je ns ls cs ls.length 0):=h_ (by unfold jK;rw[hw];rfl)
  obtain⟨mW,Hm,GU⟩:=xh hw;have GN:=(zL mW).1.2.2.1;have FB:=h_ (fun k (hk:k<ls.length)=>z3f hw hk);have HY:=h_ (fun m k h=>Vf (ns:=ns) (ls:=ls) (cs:=cs) (m:=m) (k:=k) h);have BL:=h_ (fun m k h=>z04 (ns:=ns) (ls:=ls) (cs:=cs) (m:=m) (k:=k) h);have HZ:Hid (∀k,je ns ls cs 0 k= -1):=h_ (fun _=>rfl);have bL:=h_ (vL ns ls);have HSI:Hid (x6 ns ls=zM ns ls):=h_ (by unfold x6;rw[mW];rfl);have fK:=zD ns ls;have hlc:cs.length<=40:=o_
  clear mW GU Hm fK
  go_enter Tryz.func83,Tryz.ntmps83
  go_wp2_with fail
  refine(xk _ _ _ ns ls cs _ _ (hn.below Hi) (hl.below Hi) (hc.below Hi) hw).mono ?_
  rintro e w1 ⟨rfl,Hb⟩;have Ha:=Hi.trans (Hb.mono Hi.size);have gc:=gE.below Hb gE.lt;clear Hb hw;obtain⟨a_0,a_1⟩:=gc.c2
  go_wp2_with fail
  refine(Vb _ _ ns ls _ (hn.below Ha) (hl.below Ha)).mono ?_
  rw[HSI.out];rintro e w2 ⟨v2,rfl,Hn,Hh⟩;have Hc:=Ha.trans (Hh.mono Ha.size);have gX:=gc.below Hh gc.lt;have Fi:=Hn.reads;clear Hh Hn gc Ha a_0 a_1;obtain⟨As,cS,rfl,Fm,hms,G8⟩:=Fi.form;rw[bL.out] at G8⊢;clear Fi Fm hms;obtain⟨a_0,a_1⟩:=gX.c2;go_wp2
  go_loopw [18] (fun x wr=>∃k:Nat,k<=ls.length/\x= .int .i64 k/\Hid (je ns ls cs ls.length 0=je ns ls cs (ls.length -k) k)/\Below w2.heap.size w2 wr) (fun x _=>ls.length -(intOf x).toNat)
  case atStart=>exact⟨0,aab _,rfl,h_ rfl,aaj _ _⟩
  case round=>
   clear a_0 a_1;obtain⟨k,hk,rfl,HK,Hd⟩:=hrel;have rd:=gX.below Hd gX.lt;obtain⟨a_0,a_1⟩:=rd.c2
   by_cases Hf:k<ls.length
   ·obtain⟨p,q,hp,hq,hpl,mr,NQ⟩:=FB.out k Hf
    obtain⟨b,off,rfl,hb,GD⟩:=G8 o_;obtain⟨b3,off3,rfl,Hg,CG⟩:=hcell o_;have Fy:=(Hd.cell (p:=⟨b,off+2*k,none⟩) hb).trans (GD (2*k) o_);have bJ:=(Hd.cell (p:=⟨b,off+(2*k+1),none⟩) hb).trans (GD (2*k+1) o_);rw[hp] at Fy;rw[hq] at bJ;have H4:=Hc.trans (Hd.mono Hc.size);have r2:=(H4.cell (p:=⟨b3,off3+p,none⟩) Hg).trans (CG p hpl);have M3:=(H4.cell (p:=⟨b3,off3+q,none⟩) Hg).trans (CG q mr);have Cc:=aaD hb Hd.size;have mX:=aaD Hg H4.size;have GG:IntKind.i64.wrap (2*(k:Int))=((2*k:Nat):Int):=by rw[show 2*(k:Int)=((2*k:Nat):Int) by omega];exact aaP _ o_
    have i4:(0:Int)<=(p:Int):=o_
    have i5:(p:Int)<(cs.length:Int):=o_
    have i6:(0:Int)<=(q:Int):=o_
    have i7:(q:Int)<(cs.length:Int):=o_
    have ik:(k:Int)<(ls.length:Int):=o_
    have Ms:=h_ (fun h=>HY.out (ls.length -(k+1)) k h);have cB:=h_ (fun h=>BL.out (ls.length -(k+1)) k h);rw[show ls.length -(k+1)+1=ls.length -k by omega] at Ms cB;rw[NQ] at Ms cB;clear GD CG G8 hcell hp hq NQ;generalize cs.getD p 0=cp at*;generalize cs.getD q 0=cq at*
    by_cases Ft:p=q
    ·have e1:((p:Int)==(q:Int))=true:=beq_iff_eq.2 o_
     have e2:((p:Int) != (q:Int))=false:=by rw[bne,e1];rfl
     have HX:=h_ (cB.out (by rw[aaO (by simp[Ft])];rfl));clear Ft
     go_wp2_with fail
     (refine z7 k_ k_ (fun hG=>?_))
     repeat (go_big_quiet_step (fail))
     refine wpQuiet_nil ?_
     clear hG;rintro w5 ⟨⟨_,Gk⟩,rfl⟩;clear Fy bJ r2 M3 GG a_0 a_1
     go_wp2_with fail
     (refine z7 k_ k_ (fun hG=>?_))
     repeat (go_big_quiet_step (fail))
     refine wpQuiet_nil ?_
     clear hG;rintro w6 ⟨⟨_,mw⟩,rfl⟩;have CN:=Hd.trans ((Gk.trans (mw.mono Gk.size)).mono Hd.size);clear Gk mw Hd H4;go_wp2;go_roundw
     case rel=>exact⟨k+1,by omega,by go_num,h_ (by rw[HK.out,HX.out]),CN⟩
     case measure=>simp[intOf];omega
    ·have e1:((p:Int)==(q:Int))=false:=beq_eq_false_iff_ne.2 o_
     have e2:((p:Int) != (q:Int))=true:=by rw[bne,e1];rfl
     by_cases BU:cp=cq
     ·have e3:(cp==cq)=true:=beq_iff_eq.2 BU
      have HX:=h_ (Ms.out (by rw[aaQ Ft,aaQ BU];rfl));clear Ft BU
      go_wp2_with fail
      (refine z7 k_ k_ (fun hG=>?_))
      repeat (go_big_quiet_step (fail))
      refine wpQuiet_nil ?_
      clear hG;rintro w5 ⟨⟨_,Gk⟩,rfl⟩;have UJ:=(Gk.cell (p:=⟨b3,off3+p,none⟩) mX).trans r2;have UK:=(Gk.cell (p:=⟨b3,off3+q,none⟩) mX).trans M3;have Y7:=aaD mX Gk.size;clear Fy bJ r2 M3 GG a_0 a_1
      go_wp2_with fail
      (refine z7 k_ k_ (fun hG=>?_))
      repeat (go_big_quiet_step (fail))
      refine wpQuiet_nil ?_
      clear hG;rintro w6 ⟨⟨_,mw⟩,rfl⟩;have CN:=Hd.trans ((Gk.trans (mw.mono Gk.size)).mono Hd.size);clear UJ UK Gk mw Hd H4;go_wp2;go_ret
      exact⟨zi (by rw[HR.out,HK.out,HX.out]),Hc.trans (CN.mono Hc.size)⟩
     ·have e3:(cp==cq)=false:=beq_eq_false_iff_ne.2 BU
      have HX:=h_ (cB.out (by rw[aaO BU];simp));clear Ft BU
      go_wp2_with fail
      (refine z7 k_ k_ (fun hG=>?_))
      repeat (go_big_quiet_step (fail))
      refine wpQuiet_nil ?_
      clear hG;rintro w5 ⟨⟨_,Gk⟩,rfl⟩;have UJ:=(Gk.cell (p:=⟨b3,off3+p,none⟩) mX).trans r2;have UK:=(Gk.cell (p:=⟨b3,off3+q,none⟩) mX).trans M3;have Y7:=aaD mX Gk.size;clear Fy bJ r2 M3 GG a_0 a_1
      go_wp2_with fail
      (refine z7 k_ k_ (fun hG=>?_))
      repeat (go_big_quiet_step (fail))
      refine wpQuiet_nil ?_
      clear hG;rintro w6 ⟨⟨_,mw⟩,rfl⟩;have CN:=Hd.trans ((Gk.trans (mw.mono Gk.size)).mono Hd.size);clear UJ UK Gk mw Hd H4;go_wp2;go_roundw
      case rel=>exact⟨k+1,by omega,by go_num,h_ (by rw[HK.out,HX.out]),CN⟩
      case measure=>simp[intOf];omega
   ·have gn:k=ls.length:=o_
    have HE:=h_ (HK.out);subst gn;rw[aae,HZ.out] at HE;have H4:=Hc.trans (Hd.mono Hc.size);clear G8 hcell;go_wp2;go_ret
    exact⟨zi (by rw[HR.out,HE.out]),H4⟩
theorem z3G (vn vl vc:Value) (ns ls:List Pr) (cs:List Int) (w:World) (hn:RP w vn ns) (hl:RP w vl ls) (hc:RI w vc cs):
  CB_ 122 #[.agg #[vn,vl],vc] w (.int .i64 (jK ns ls cs)):=by
 obtain⟨Ac,cc,rfl,Gj,bM,hcell⟩:=hc.form;unfold maxLen at bM;obtain⟨Al,cl,rfl,Hz,GM,_⟩:=hl.formI;unfold maxLen at GM;have Hi:Below w.heap.size w (w.alloc (.cells #[vn,.slice Al ls.length cl] 27)):=bel_
 have gE:Blk (w.alloc (.cells #[vn,.slice Al ls.length cl] 27)) w.heap.size 27 #[vn,.slice Al ls.length cl]:=Blk.newAt rfl
 cases hw:qm ns ls cs
 ·have HR:Hid (jK ns ls cs= -1):=h_ (by unfold jK;rw[hw];rfl)
  cases mW:zf ns ls
  ·go_enter Tryz.func122,Tryz.ntmps122
   go_wp2_with fail
   refine(qU _ _ ns ls _ _ (hn.below Hi) (hl.below Hi) mW).mono ?_
   rintro e w1 ⟨rfl,Hb⟩;have Ha:=Hi.trans (Hb.mono Hi.size);go_wp2;go_ret
   exact⟨zi HR.out.symm,Ha⟩
  ·have fK:=zD ns ls
   have bm:=h_ (fun (v:World) (h1:RP v vn ns) (h2:RP v (.slice Al ls.length cl) ls)=>jU vn (.slice Al ls.length cl) ns ls v h1 h2);have HL:Hid ((decide (cs.length=(z9 ns ls).length)&&vj cs 0 5)=false):=h_ (by unfold qm at hw;rw[mW] at hw;exact hw);generalize z9 ns ls=F at*
   go_enter Tryz.func122,Tryz.ntmps122
   go_wp2_with fail
   refine(qU _ _ ns ls _ _ (hn.below Hi) (hl.below Hi) mW).mono ?_
   rintro e w1 ⟨rfl,Hb⟩;have Ha:=Hi.trans (Hb.mono Hi.size);have gc:=gE.below Hb gE.lt;clear Hb;obtain⟨a_0,a_1⟩:=gc.c2
   go_wp2_with fail
   refine(bm.out _ (hn.below Ha) (hl.below Ha)).mono ?_
   rintro e w2 ⟨v2,rfl,Hn,Hh⟩;obtain⟨A2,c2,rfl⟩:=Hn.form;have Hc:=Ha.trans (Hh.mono Ha.size)
   go_wp2_with fail
   refine(kN _ cs F.length _ (hc.below Hc) fK).mono ?_
   rw[HL.out];rintro e w' ⟨rfl,rfl⟩;go_wp2;go_ret
   exact⟨zi HR.out.symm,Hc⟩
 ·have HR:Hid (jK ns ls cs=je ns ls cs ls.length 0):=h_ (by unfold jK;rw[hw];rfl)
  obtain⟨mW,Hm,GU⟩:=xh hw;have GN:=(zL mW).1.2.2.1;have FB:=h_ (fun k (hk:k<ls.length)=>z3f hw hk);have HY:=h_ (fun m k h=>Vf (ns:=ns) (ls:=ls) (cs:=cs) (m:=m) (k:=k) h);have BL:=h_ (fun m k h=>z04 (ns:=ns) (ls:=ls) (cs:=cs) (m:=m) (k:=k) h);have HZ:Hid (∀k,je ns ls cs 0 k= -1):=h_ (fun _=>rfl);have bL:=h_ (vL ns ls);have fK:=zD ns ls;have hlc:cs.length<=40:=o_
  have bm:=h_ (fun (v:World) (h1:RP v vn ns) (h2:RP v (.slice Al ls.length cl) ls)=>jU vn (.slice Al ls.length cl) ns ls v h1 h2);have HL:Hid ((decide (cs.length=(z9 ns ls).length)&&vj cs 0 5)=true):=h_ (by rw[aaQ Hm,GU];rfl);have Y8:=h_ mW;have r0:=h_ (fun (v:World) (h1:RP v vn ns) (h2:RP v (.slice Al ls.length cl) ls)=>V7 vn (.slice Al ls.length cl) ns ls v h1 h2 mW);clear GU Hm hw mW;generalize z9 ns ls=F at*
  go_enter Tryz.func122,Tryz.ntmps122
  go_wp2_with fail
  refine(qU _ _ ns ls _ _ (hn.below Hi) (hl.below Hi) Y8.out).mono ?_
  rintro e w1 ⟨rfl,Hb⟩;have BV:=Hi.trans (Hb.mono Hi.size);have r3:=gE.below Hb gE.lt;clear Hb;obtain⟨a_0,a_1⟩:=r3.c2
  go_wp2_with fail
  refine(bm.out _ (hn.below BV) (hl.below BV)).mono ?_
  rintro e w1b ⟨v2,rfl,Hn,Hh⟩;obtain⟨A2,c2,rfl⟩:=Hn.form;have Ha:=BV.trans (Hh.mono BV.size);have gc:=r3.below Hh r3.lt;clear Hh Hn r3 BV a_0 a_1
  go_wp2_with fail
  refine(kN _ cs F.length _ (hc.below Ha) fK).mono ?_
  rw[HL.out];rintro e w' ⟨rfl,rfl⟩;obtain⟨a_0,a_1⟩:=gc.c2
  go_wp2_with fail
  refine(r0.out _ (hn.below Ha) (hl.below Ha)).mono ?_
  rintro e w2 ⟨v2,rfl,Hn,Hh⟩;have Hc:=Ha.trans (Hh.mono Ha.size);have gX:=gc.below Hh gc.lt;have Fi:=Hn.reads;clear Hh Hn gc Ha a_0 a_1;obtain⟨As,cS,rfl,Fm,hms,G8⟩:=Fi.form;rw[bL.out] at G8⊢;clear Fi Fm hms;obtain⟨a_0,a_1⟩:=gX.c2;go_wp2
  go_loopw [6] (fun x wr=>∃k:Nat,k<=ls.length/\x= .int .i64 k/\Hid (je ns ls cs ls.length 0=je ns ls cs (ls.length -k) k)/\Below w2.heap.size w2 wr) (fun x _=>ls.length -(intOf x).toNat)
  case atStart=>exact⟨0,aab _,rfl,h_ rfl,aaj _ _⟩
  case round=>
   clear a_0 a_1;obtain⟨k,hk,rfl,HK,Hd⟩:=hrel;have rd:=gX.below Hd gX.lt;obtain⟨a_0,a_1⟩:=rd.c2
   by_cases Hf:k<ls.length
   ·obtain⟨p,q,hp,hq,hpl,mr,NQ⟩:=FB.out k Hf
    obtain⟨b,off,rfl,hb,GD⟩:=G8 o_;obtain⟨b3,off3,rfl,Hg,CG⟩:=hcell o_;have Fy:=(Hd.cell (p:=⟨b,off+2*k,none⟩) hb).trans (GD (2*k) o_);have bJ:=(Hd.cell (p:=⟨b,off+(2*k+1),none⟩) hb).trans (GD (2*k+1) o_);rw[hp] at Fy;rw[hq] at bJ;have H4:=Hc.trans (Hd.mono Hc.size);have r2:=(H4.cell (p:=⟨b3,off3+p,none⟩) Hg).trans (CG p hpl);have M3:=(H4.cell (p:=⟨b3,off3+q,none⟩) Hg).trans (CG q mr);have Cc:=aaD hb Hd.size;have mX:=aaD Hg H4.size;have GG:IntKind.i64.wrap (2*(k:Int))=((2*k:Nat):Int):=by rw[show 2*(k:Int)=((2*k:Nat):Int) by omega];exact aaP _ o_
    have i4:(0:Int)<=(p:Int):=o_
    have i5:(p:Int)<(cs.length:Int):=o_
    have i6:(0:Int)<=(q:Int):=o_
    have i7:(q:Int)<(cs.length:Int):=o_
    have ik:(k:Int)<(ls.length:Int):=o_
    have Ms:=h_ (fun h=>HY.out (ls.length -(k+1)) k h);have cB:=h_ (fun h=>BL.out (ls.length -(k+1)) k h);rw[show ls.length -(k+1)+1=ls.length -k by omega] at Ms cB;rw[NQ] at Ms cB;clear GD CG G8 hcell hp hq NQ;generalize cs.getD p 0=cp at*;generalize cs.getD q 0=cq at*
    by_cases Ft:p=q
    ·have e1:((p:Int)==(q:Int))=true:=beq_iff_eq.2 o_
     have e2:((p:Int) != (q:Int))=false:=by rw[bne,e1];rfl
     have HX:=h_ (cB.out (by rw[aaO (by simp[Ft])];rfl));clear Ft
     go_wp2_with fail
     (refine z7 k_ k_ (fun hG=>?_))
     repeat (go_big_quiet_step (fail))
     refine wpQuiet_nil ?_
     clear hG;rintro w5 ⟨⟨_,Gk⟩,rfl⟩;have CN:=Hd.trans (Gk.mono Hd.size);clear Fy bJ r2 M3 GG a_0 a_1 Gk Hd H4;go_wp2;go_roundw
     case rel=>exact⟨k+1,by omega,by go_num,h_ (by rw[HK.out,HX.out]),CN⟩
     case measure=>simp[intOf];omega
    ·have e1:((p:Int)==(q:Int))=false:=beq_eq_false_iff_ne.2 o_
     have e2:((p:Int) != (q:Int))=true:=by rw[bne,e1];rfl
     by_cases BU:cp=cq
     ·have e3:(cp==cq)=true:=beq_iff_eq.2 BU
      have HX:=h_ (Ms.out (by rw[aaQ Ft,aaQ BU];rfl));clear Ft BU
      go_wp2_with fail
      (refine z7 k_ k_ (fun hG=>?_))
      repeat (go_big_quiet_step (fail))
      refine wpQuiet_nil ?_
      clear hG;rintro w5 ⟨⟨_,Gk⟩,rfl⟩;have CN:=Hd.trans (Gk.mono Hd.size);clear Fy bJ r2 M3 GG a_0 a_1 Gk Hd H4;go_wp2;go_ret
      exact⟨zi (by rw[HR.out,HK.out,HX.out]),Hc.trans (CN.mono Hc.size)⟩
     ·have e3:(cp==cq)=false:=beq_eq_false_iff_ne.2 BU
      have HX:=h_ (cB.out (by rw[aaO BU];simp));clear Ft BU
      go_wp2_with fail
      (refine z7 k_ k_ (fun hG=>?_))
      repeat (go_big_quiet_step (fail))
      refine wpQuiet_nil ?_
      clear hG;rintro w5 ⟨⟨_,Gk⟩,rfl⟩;have CN:=Hd.trans (Gk.mono Hd.size);clear Fy bJ r2 M3 GG a_0 a_1 Gk Hd H4;go_wp2;go_roundw
      case rel=>exact⟨k+1,by omega,by go_num,h_ (by rw[HK.out,HX.out]),CN⟩
      case measure=>simp[intOf];omega
   ·have gn:k=ls.length:=o_
    have HE:=h_ (HK.out);subst gn;rw[aae,HZ.out] at HE;have H4:=Hc.trans (Hd.mono Hc.size);clear G8 hcell;go_wp2;go_ret
    exact⟨zi (by rw[HR.out,HE.out]),H4⟩
theorem z5Y (vn vl vc:Value) (ns ls:List Pr) (cs:List Int) (x:Int) (w:World) (hn:RP w vn ns) (hl:RP w vl ls) (hc:RI w vc cs) (hx:jK ns ls cs=x):
  CB_ 122 #[.agg #[vn,vl],vc] w (.int .i64 x):=by
 subst hx;exact z3G vn vl vc ns ls cs w hn hl hc
theorem z66 (vn vl vc:Value) (ns ls:List Pr) (cs:List Int) (x:Int) (w:World) (hn:RP w vn ns) (hl:RP w vl ls) (hc:RI w vc cs) (hx:jK ns ls cs=x):
  CB_ 83 #[.agg #[vn,vl],vc] w (.int .i64 x):=by
 subst hx;exact z47 vn vl vc ns ls cs w hn hl hc
theorem z26 (vn vl vc:Value) (ns ls:List Pr) (cs:List Int) (w:World) (hn:RP w vn ns) (hl:RP w vl ls) (hc:RI w vc cs):
  CB_ 21 #[.agg #[vn,vl],vc] w (.bool (q7 ns ls cs)):=by
 have Hi:Below w.heap.size w (w.alloc (.cells #[vn,vl] 27)):=bel_
 have gE:Blk (w.alloc (.cells #[vn,vl] 27)) w.heap.size 27 #[vn,vl]:=Blk.newAt rfl;obtain⟨x,hx⟩:∃x,jK ns ls cs=x:=⟨_,rfl⟩;have HX:=h_ hx
 cases hw:qm ns ls cs
 ·have HR:Hid (q7 ns ls cs=false):=h_ (by unfold q7;rw[hw];rfl)
  go_enter Tryz.func21,Tryz.ntmps21
  go_wp2_with fail
  refine(xk _ _ _ ns ls cs _ _ (hn.below Hi) (hl.below Hi) (hc.below Hi) hw).mono ?_
  rintro e w1 ⟨rfl,Hb⟩;have Ha:=Hi.trans (Hb.mono Hi.size);go_wp2;go_ret
  exact⟨z8 HR.out.symm,Ha⟩
 ·have HR:Hid (q7 ns ls cs=decide (x<0)):=h_ (by unfold q7;rw[hw,hx];rfl)
  clear hx
  go_enter Tryz.func21,Tryz.ntmps21
  go_wp2_with fail
  refine(xk _ _ _ ns ls cs _ _ (hn.below Hi) (hl.below Hi) (hc.below Hi) hw).mono ?_
  rintro e w1 ⟨rfl,Hb⟩;have Ha:=Hi.trans (Hb.mono Hi.size);have gc:=gE.below Hb gE.lt;clear Hb;obtain⟨a_0,a_1⟩:=gc.c2
  go_wp2_with fail
  refine(z66 _ _ _ ns ls cs x _ (hn.below Ha) (hl.below Ha) (hc.below Ha) HX.out).mono ?_
  rintro e w2 ⟨rfl,Hh⟩;have Hc:=Ha.trans (Hh.mono Ha.size);go_wp2;go_ret
  exact⟨z8 HR.out.symm,Hc⟩
theorem z2r (vn vl vc:Value) (ns ls:List Pr) (cs:List Int) (w:World) (hn:RP w vn ns) (hl:RP w vl ls) (hc:RI w vc cs):
  CB_ 46 #[.agg #[vn,vl],vc] w (.bool (q7 ns ls cs)):=by
 have Hi:Below w.heap.size w (w.alloc (.cells #[vn,vl] 27)):=bel_
 have gE:Blk (w.alloc (.cells #[vn,vl] 27)) w.heap.size 27 #[vn,vl]:=Blk.newAt rfl;obtain⟨x,hx⟩:∃x,jK ns ls cs=x:=⟨_,rfl⟩;have HX:=h_ hx
 cases hw:zf ns ls
 ·have HR:Hid (q7 ns ls cs=false):=h_ (by unfold q7 qm;rw[hw];rfl)
  go_enter Tryz.func46,Tryz.ntmps46
  go_wp2_with fail
  refine(qU _ _ ns ls _ _ (hn.below Hi) (hl.below Hi) hw).mono ?_
  rintro e w1 ⟨rfl,Hb⟩;have Ha:=Hi.trans (Hb.mono Hi.size);go_wp2;go_ret
  exact⟨z8 HR.out.symm,Ha⟩
 ·have fK:=zD ns ls
  have bm:=h_ (fun (v:World) (h1:RP v vn ns) (h2:RP v vl ls)=>jU vn vl ns ls v h1 h2);obtain⟨bl,Hd⟩:∃b,(decide (cs.length=(z9 ns ls).length)&&vj cs 0 5)=b:=⟨_,rfl⟩;have HR:Hid (q7 ns ls cs=(bl&&decide (x<0))):=h_ (by unfold q7 qm;rw[hw,hx,Hd];rfl);have HL:=h_ Hd;clear Hd hx;generalize z9 ns ls=F at*
  go_enter Tryz.func46,Tryz.ntmps46
  go_wp2_with fail
  refine(qU _ _ ns ls _ _ (hn.below Hi) (hl.below Hi) hw).mono ?_
  rintro e w1 ⟨rfl,Hb⟩;have Ha:=Hi.trans (Hb.mono Hi.size);have gc:=gE.below Hb gE.lt;clear Hb;obtain⟨a_0,a_1⟩:=gc.c2
  go_wp2_with fail
  refine(bm.out _ (hn.below Ha) (hl.below Ha)).mono ?_
  rintro e w2 ⟨v2,rfl,Hn,Hh⟩;obtain⟨A2,c2,rfl⟩:=Hn.form;have Hc:=Ha.trans (Hh.mono Ha.size);have gX:=gc.below Hh gc.lt;clear Hh Hn gc Ha a_0 a_1
  go_wp2_with fail
  refine(kN _ cs F.length _ (hc.below Hc) fK).mono ?_
  rw[HL.out];rintro e w' ⟨rfl,rfl⟩;obtain⟨a_0,a_1⟩:=gX.c2
  cases bl
  ·go_wp2
   go_ret
   exact⟨z8 HR.out.symm,Hc⟩
  ·go_wp2_with fail
   refine(z5Y _ _ _ ns ls cs x _ (hn.below Hc) (hl.below Hc) (hc.below Hc) HX.out).mono ?_
   rintro e w3 ⟨rfl,Hg⟩;have He:=Hc.trans (Hg.mono Hc.size);go_wp2;go_ret
   exact⟨z8 HR.out.symm,He⟩
theorem VG (vn vl vc:Value) (ns ls:List Pr) (cs:List Int) (b:Bool) (w:World) (hn:RP w vn ns) (hl:RP w vl ls) (hc:RI w vc cs) (hb:q7 ns ls cs=b):
  CB_ 46 #[.agg #[vn,vl],vc] w (.bool b):=by
 subst hb;exact z2r vn vl vc ns ls cs w hn hl hc
theorem yS (vn vl vc:Value) (ns ls:List Pr) (cs:List Int) (b:Bool) (w:World) (hn:RP w vn ns) (hl:RP w vl ls) (hc:RI w vc cs) (hb:q7 ns ls cs=b):
  CB_ 21 #[.agg #[vn,vl],vc] w (.bool b):=by
 subst hb;exact z26 vn vl vc ns ls cs w hn hl hc
end Go.Proofs.YtnjcpljhmhdhkaaGreat
