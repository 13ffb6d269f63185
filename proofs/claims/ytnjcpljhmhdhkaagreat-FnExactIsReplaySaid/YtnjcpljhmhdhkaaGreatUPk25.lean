/- part 25 -/
import Derived.Test.YtnjcpljhmhdhkaaGreatUPk20
import Derived.Test.YtnjcpljhmhdhkaaGreatUPk24
set_option linter.unusedSimpArgs false
set_option linter.unusedVariables false
set_option maxRecDepth 100000
set_option maxHeartbeats 32000000
namespace Go.Proofs.YtnjcpljhmhdhkaaGreat
open Go.RowKit
theorem z0V (v:Value) (zs:List Int) (x y:Int) (w:World) (h:RI w v zs):
  Calls Tryz.prog 146 #[v,.int .i64 x,.int .i64 y] w fun e w'=>e= .returned (.bool (vi zs x y))/\w=w':=by
 obtain⟨A,c,rfl,hc,hm,hcell⟩:=h.form;unfold maxLen at hm;clear h;have Ba:=h_ (fun k (hk:k<zs.length) h=>z0T (a:=x) (b:=y) hk h);have CZ:=h_ (fun (h:x5 zs x y zs.length)=>jS.2 h)
 go_enter Tryz.func146,Tryz.ntmps146
 go_wp2
 go_loop [11] (fun i=>∃k:Nat,k<=zs.length/\i= .int .i64 k/\Hid (x5 zs x y k)) (fun i=>zs.length -(intOf i).toNat)
 case atStart=>exact⟨0,aab _,rfl,h_ (fun j hj=>absurd hj o_)⟩
 case round=>
  obtain⟨k,hk,rfl,HT⟩:=hrel
  by_cases Hd:k<zs.length
  ·obtain⟨b,off,rfl,hb,Ho⟩:=hcell o_
   have fK:=Ho k Hd;have Hr:(k:Int)<(zs.length:Int):=o_
   have ik1:(0:Int)<=(k:Int):=o_
   have By:=h_ (Ba.out k Hd)
   have fg:Hid (inB (zs.getD k 0) x y=true->x5 zs x y (k+1)):=h_ (fun h j hj=>by
    by_cases e:j=k
    ·subst e;exact h
    ·exact HT.out j o_)
   clear Ho hcell;generalize zs.getD k 0=z at*
   cases hq:inB z x y
   ·have HX:=h_ (By.out hq)
    have HQ:=h_ hq;clear hq
    go_wp2_with fail
    refine(zm z x y false _ HQ.out).mono ?_
    rintro e w' ⟨rfl,rfl⟩;go_wp2;go_ret
    exact⟨z8 HX.out.symm,rfl⟩
   ·have HX:=h_ (fg.out hq)
    have HQ:=h_ hq;clear hq
    go_wp2_with fail
    refine(zm z x y true _ HQ.out).mono ?_
    rintro e w' ⟨rfl,rfl⟩;go_wp2;go_round
    case rel=>exact⟨k+1,by omega,by go_num,HX⟩
    case measure=>simp[intOf];omega
  ·have Hw:k=zs.length:=o_
   subst Hw;have HX:=h_ (CZ.out HT.out);clear hcell;go_wp2;go_ret
   exact⟨z8 HX.out.symm,rfl⟩
theorem xg (v:Value) (zs:List Int) (n:Nat) (w:World) (h:RI w v zs) (hn:n<=40):
  Calls Tryz.prog 120 #[.int .i64 n,v] w fun e w'=>e= .returned (.bool (decide (zs.length=n)&&vi zs 0 5))/\w=w':=by
 obtain⟨A,c,rfl,hc,hm,hcell⟩:=h.form;unfold maxLen at hm;clear h;obtain⟨bl,Hb⟩:∃x,decide (zs.length=n)=x:=⟨_,rfl⟩;have gn:((zs.length:Int)==(n:Int))=bl:=by rw[<-Hb,aa0];simp;omega
 rw[Hb];have mv:=h_ gn;have Ba:Hid (∀k,k<zs.length->inB (zs.getD k 0) 0 5=false->(bl&&vi zs 0 5)=false):=h_ (fun k (hk:k<zs.length) h=>by rw[z0T (a:=0) (b:=5) hk h];cases bl<;>rfl);have CZ:Hid (x5 zs 0 5 zs.length->(bl&&vi zs 0 5)=bl):=h_ (fun (h:x5 zs 0 5 zs.length)=>by rw[jS.2 h];cases bl<;>rfl);clear Hb gn
 go_enter Tryz.func120,Tryz.ntmps120
 go_wp2
 go_loop [5] (fun i=>∃k:Nat,k<=zs.length/\i= .int .i64 k/\Hid (x5 zs 0 5 k)) (fun i=>zs.length -(intOf i).toNat)
 case atStart=>exact⟨0,aab _,rfl,h_ (fun j hj=>absurd hj o_)⟩
 case round=>
  obtain⟨k,hk,rfl,HT⟩:=hrel
  by_cases Hd:k<zs.length
  ·obtain⟨b,off,rfl,hb,Ho⟩:=hcell o_
   have fK:=Ho k Hd;have Hr:(k:Int)<(zs.length:Int):=o_
   have ik1:(0:Int)<=(k:Int):=o_
   have By:=h_ (Ba.out k Hd)
   have fg:Hid (inB (zs.getD k 0) 0 5=true->x5 zs 0 5 (k+1)):=h_ (fun h j hj=>by
    by_cases e:j=k
    ·subst e;exact h
    ·exact HT.out j o_)
   clear Ho hcell;generalize zs.getD k 0=z at*
   cases hq:inB z 0 5
   ·have HX:=h_ (By.out hq)
    have HQ:=h_ hq;clear hq
    go_wp2_with fail
    refine(zN z 0 5 false _ HQ.out).mono ?_
    rintro e w' ⟨rfl,rfl⟩;go_wp2;go_ret
    exact⟨z8 HX.out.symm,rfl⟩
   ·have HX:=h_ (fg.out hq)
    have HQ:=h_ hq;clear hq
    go_wp2_with fail
    refine(zN z 0 5 true _ HQ.out).mono ?_
    rintro e w' ⟨rfl,rfl⟩;go_wp2;go_round
    case rel=>exact⟨k+1,by omega,by go_num,HX⟩
    case measure=>simp[intOf];omega
  ·have Hw:k=zs.length:=o_
   have HX:=h_ (CZ.out (Hw▸HT.out));have HQ:=mv.out;subst Hw;clear hcell;go_wp2;go_ret
   exact⟨z8 HX.out.symm,rfl⟩
theorem xk {ns ls:List Pr} {cs:List Int} (h:qk ns ls cs=true):zf ns ls=true/\cs.length=(z9 ns ls).length /\vi cs 0 5=true:=by
 unfold qk at h;rw[aaH,aaH,aa5] at h;exact h
theorem z3h (vn vl vc:Value) (ns ls:List Pr) (cs:List Int) (w:World) (hn:RP w vn ns) (hl:RP w vl ls) (hc:RI w vc cs):
  CB_ 82 #[.agg #[vn,vl],vc] w (.bool (qk ns ls cs)):=by
 obtain⟨Ac,cc,rfl,Gq,bD,_⟩:=hc.form;unfold maxLen at bD;have Hg:Below w.heap.size w (w.alloc (.cells #[vn,vl] 27)):=bel_
 have gD:Blk (w.alloc (.cells #[vn,vl] 27)) w.heap.size 27 #[vn,vl]:=Blk.newAt rfl
 cases hw:zf ns ls
 ·have HR:Hid (qk ns ls cs=false):=h_ (by unfold qk;rw[hw];rfl)
  go_enter Tryz.func82,Tryz.ntmps82
  go_wp2_with fail
  refine(j5 _ _ ns ls _ _ (hn.below Hg) (hl.below Hg) hw).mono ?_
  rintro e w1 ⟨rfl,h9⟩;have h8:=Hg.trans (h9.mono Hg.size);go_wp2;go_ret
  exact⟨z8 HR.out.symm,h8⟩
 ·have GB:=zq ns ls
  have CX:=h_ (fun (v:World) (h1:RP v vn ns) (h2:RP v vl ls)=>jP vn vl ns ls v h1 h2);have HR:Hid (qk ns ls cs=(decide (cs.length=(z9 ns ls).length)&&vi cs 0 5)):=h_ (by unfold qk;rw[hw];rfl);generalize z9 ns ls=F at*
  by_cases Hi:cs.length=F.length
  ·have HX:Hid (qk ns ls cs=vi cs 0 5):=h_ (by rw[HR.out,aaR Hi];rfl)
   have e1:((cs.length:Int)==(F.length:Int))=true:=beq_iff_eq.2 o_;have HE1:=h_ e1;clear e1 Hi
   go_enter Tryz.func82,Tryz.ntmps82
   go_wp2_with fail
   refine(j5 _ _ ns ls _ _ (hn.below Hg) (hl.below Hg) hw).mono ?_
   rintro e w1 ⟨rfl,h9⟩;have h8:=Hg.trans (h9.mono Hg.size);have gg:=gD.below h9 gD.lt;clear h9;obtain⟨a_0,a_1⟩:=gg.c2
   go_wp2_with fail
   refine(CX.out _ (hn.below h8) (hl.below h8)).mono ?_
   rintro e w2 ⟨v2,rfl,Hm,He⟩;obtain⟨A2,c2,rfl⟩:=Hm.form;have Ha:=h8.trans (He.mono h8.size);have e1:=HE1.out
   go_wp2_with fail
   refine(z0V _ cs 0 5 _ (hc.below Ha)).mono ?_
   rintro e w' ⟨rfl,rfl⟩;clear e1;go_wp2;go_ret
   exact⟨z8 HX.out.symm,Ha⟩
  ·have HX:Hid (qk ns ls cs=false):=h_ (by rw[HR.out,aaP Hi];rfl)
   have e1:((cs.length:Int)==(F.length:Int))=false:=beq_eq_false_iff_ne.2 o_;have HE1:=h_ e1;clear e1 Hi
   go_enter Tryz.func82,Tryz.ntmps82
   go_wp2_with fail
   refine(j5 _ _ ns ls _ _ (hn.below Hg) (hl.below Hg) hw).mono ?_
   rintro e w1 ⟨rfl,h9⟩;have h8:=Hg.trans (h9.mono Hg.size);have gg:=gD.below h9 gD.lt;clear h9;obtain⟨a_0,a_1⟩:=gg.c2
   go_wp2_with fail
   refine(CX.out _ (hn.below h8) (hl.below h8)).mono ?_
   rintro e w2 ⟨v2,rfl,Hm,He⟩;obtain⟨A2,c2,rfl⟩:=Hm.form;have Ha:=h8.trans (He.mono h8.size);have e1:=HE1.out;go_wp2;go_ret
   exact⟨z8 HX.out.symm,Ha⟩
theorem kZ (vn vl vc:Value) (ns ls:List Pr) (cs:List Int) (b:Bool) (w:World) (hn:RP w vn ns) (hl:RP w vl ls) (hc:RI w vc cs) (hb:qk ns ls cs=b):
  CB_ 82 #[.agg #[vn,vl],vc] w (.bool b):=by
 subst hb;exact z3h vn vl vc ns ls cs w hn hl hc
theorem VU {ns ls:List Pr} {cs:List Int} {m k:Nat} (h:vu ns ls cs k=true):jd ns ls cs (m+1) k=k:=by simp only[jd];rw[aao h]
theorem z0t {ns ls:List Pr} {cs:List Int} {m k:Nat} (h:vu ns ls cs k=false):jd ns ls cs (m+1) k=jd ns ls cs m (k+1):=by simp only[jd];rw[aaq (by rw[h];simp)]
theorem z47 {ns ls:List Pr} {cs:List Int} (h:qk ns ls cs=true) {k:Nat} (hk:k<ls.length):
  ∃p q:Nat,(zF ns ls).getD (2*k) 0=(p:Int)/\(zF ns ls).getD (2*k+1) 0=(q:Int)/\p<cs.length/\q<cs.length/\vu ns ls cs k=(decide (¬p=q)&&decide (cs.getD p 0=cs.getD q 0)):=by
 obtain⟨h1,h2,_⟩:=xk h;have CN:=ye h1;obtain⟨p,hp,hpl⟩:=kK CN (show 2*k<2*ls.length by omega);obtain⟨q,hq,mA⟩:=kK CN (show 2*k+1<2*ls.length by omega);refine⟨p,q,hp,hq,by omega,by omega,?_⟩
 unfold vu;rw[hp,hq,aa6,aa6]
 congr 1
 rw[aa0];simp only[aa5]
 omega
theorem z5c (vn vl vc:Value) (ns ls:List Pr) (cs:List Int) (w:World) (hn:RP w vn ns) (hl:RP w vl ls) (hc:RI w vc cs):
  CB_ 83 #[.agg #[vn,vl],vc] w (.int .i64 (jJ ns ls cs)):=by
 obtain⟨Ac,cc,rfl,Gq,bD,hcell⟩:=hc.form;unfold maxLen at bD;obtain⟨Al,cl,rfl,Ho,GO,_⟩:=hl.formI;unfold maxLen at GO;have Hg:Below w.heap.size w (w.alloc (.cells #[vn,.slice Al ls.length cl] 27)):=bel_
 have gD:Blk (w.alloc (.cells #[vn,.slice Al ls.length cl] 27)) w.heap.size 27 #[vn,.slice Al ls.length cl]:=Blk.newAt rfl
 cases hw:qk ns ls cs
 ·have HR:Hid (jJ ns ls cs= -1):=h_ (by unfold jJ;rw[hw];rfl)
  go_enter Tryz.func83,Tryz.ntmps83
  go_wp2_with fail
  refine(kZ _ _ _ ns ls cs _ _ (hn.below Hg) (hl.below Hg) (hc.below Hg) hw).mono ?_
  rintro e w1 ⟨rfl,h9⟩;have h8:=Hg.trans (h9.mono Hg.size);go_wp2;go_ret
  exact⟨zb HR.out.symm,h8⟩
 ·have HR:Hid (jJ ns ls cs=jd ns ls cs ls.length 0):=h_ (by unfold jJ;rw[hw];rfl)
  obtain⟨Nk,Hi,fb⟩:=xk hw;have GW:=(zI Nk).1.2.2.1;have Ft:=h_ (fun k (hk:k<ls.length)=>z47 hw hk);have HY:=h_ (fun m k h=>VU (ns:=ns) (ls:=ls) (cs:=cs) (m:=m) (k:=k) h);have BM:=h_ (fun m k h=>z0t (ns:=ns) (ls:=ls) (cs:=cs) (m:=m) (k:=k) h);have HZ:Hid (∀k,jd ns ls cs 0 k= -1):=h_ (fun _=>rfl);have bB:=h_ (vP ns ls);have HSI:Hid (kX ns ls=zF ns ls):=h_ (by unfold kX;rw[Nk];rfl);have GB:=zq ns ls;have Yq:cs.length<=40:=o_
  clear Nk fb Hi GB
  go_enter Tryz.func83,Tryz.ntmps83
  go_wp2_with fail
  refine(kZ _ _ _ ns ls cs _ _ (hn.below Hg) (hl.below Hg) (hc.below Hg) hw).mono ?_
  rintro e w1 ⟨rfl,h9⟩;have h8:=Hg.trans (h9.mono Hg.size);have gg:=gD.below h9 gD.lt;clear h9 hw;obtain⟨a_0,a_1⟩:=gg.c2
  go_wp2_with fail
  refine(Vq _ _ ns ls _ (hn.below h8) (hl.below h8)).mono ?_
  rw[HSI.out];rintro e w2 ⟨v2,rfl,Hm,He⟩;have Ha:=h8.trans (He.mono h8.size);have gV:=gg.below He gg.lt;have Fw:=Hm.reads;clear He Hm gg h8 a_0 a_1;obtain⟨As,cS,rfl,Gu,hms,fk⟩:=Fw.form;rw[bB.out] at fk⊢;clear Fw Gu hms;obtain⟨a_0,a_1⟩:=gV.c2;go_wp2
  go_loopw [18] (fun x wr=>∃k:Nat,k<=ls.length/\x= .int .i64 k/\Hid (jd ns ls cs ls.length 0=jd ns ls cs (ls.length -k) k)/\Below w2.heap.size w2 wr) (fun x _=>ls.length -(intOf x).toNat)
  case atStart=>exact⟨0,aab _,rfl,h_ rfl,aaj _ _⟩
  case round=>
   clear a_0 a_1;obtain⟨k,hk,rfl,HK,Hb⟩:=hrel;have uI:=gV.below Hb gV.lt;obtain⟨a_0,a_1⟩:=uI.c2
   by_cases Hd:k<ls.length
   ·obtain⟨p,q,hp,hq,hpl,mA,uq⟩:=Ft.out k Hd
    obtain⟨b,off,rfl,hb,GG⟩:=fk o_;obtain⟨b3,off3,rfl,Hf,Cv⟩:=hcell o_;have GU:=(Hb.cell (p:=⟨b,off+2*k,none⟩) hb).trans (GG (2*k) o_);have CM:=(Hb.cell (p:=⟨b,off+(2*k+1),none⟩) hb).trans (GG (2*k+1) o_);rw[hp] at GU;rw[hq] at CM;have gc:=Ha.trans (Hb.mono Ha.size);have CA:=(gc.cell (p:=⟨b3,off3+p,none⟩) Hf).trans (Cv p hpl);have mX:=(gc.cell (p:=⟨b3,off3+q,none⟩) Hf).trans (Cv q mA);have GS:=aaE hb Hb.size;have Mc:=aaE Hf gc.size;have Ge:IntKind.i64.wrap (2*(k:Int))=((2*k:Nat):Int):=by rw[show 2*(k:Int)=((2*k:Nat):Int) by omega];exact aaQ _ o_
    have i4:(0:Int)<=(p:Int):=o_
    have i5:(p:Int)<(cs.length:Int):=o_
    have i6:(0:Int)<=(q:Int):=o_
    have i7:(q:Int)<(cs.length:Int):=o_
    have ik:(k:Int)<(ls.length:Int):=o_
    have MT:=h_ (fun h=>HY.out (ls.length -(k+1)) k h);have F9:=h_ (fun h=>BM.out (ls.length -(k+1)) k h);rw[show ls.length -(k+1)+1=ls.length -k by omega] at MT F9;rw[uq] at MT F9;clear GG Cv fk hcell hp hq uq;generalize cs.getD p 0=cp at*;generalize cs.getD q 0=cq at*
    by_cases FI:p=q
    ·have e1:((p:Int)==(q:Int))=true:=beq_iff_eq.2 o_
     have e2:((p:Int) != (q:Int))=false:=by rw[bne,e1];rfl
     have HX:=h_ (F9.out (by rw[aaP (by simp[FI])];rfl));clear FI
     go_wp2_with fail
     (refine z7 k_ k_ (fun hG=>?_))
     repeat (go_big_quiet_step (fail))
     refine wpQuiet_nil ?_
     clear hG;rintro w5 ⟨⟨_,Gn⟩,rfl⟩;clear GU CM CA mX Ge a_0 a_1
     go_wp2_with fail
     (refine z7 k_ k_ (fun hG=>?_))
     repeat (go_big_quiet_step (fail))
     refine wpQuiet_nil ?_
     clear hG;rintro w6 ⟨⟨_,mG⟩,rfl⟩;have CD:=Hb.trans ((Gn.trans (mG.mono Gn.size)).mono Hb.size);clear Gn mG Hb gc;go_wp2;go_roundw
     case rel=>exact⟨k+1,by omega,by go_num,h_ (by rw[HK.out,HX.out]),CD⟩
     case measure=>simp[intOf];omega
    ·have e1:((p:Int)==(q:Int))=false:=beq_eq_false_iff_ne.2 o_
     have e2:((p:Int) != (q:Int))=true:=by rw[bne,e1];rfl
     by_cases MU:cp=cq
     ·have e3:(cp==cq)=true:=beq_iff_eq.2 MU
      have HX:=h_ (MT.out (by rw[aaR FI,aaR MU];rfl));clear FI MU
      go_wp2_with fail
      (refine z7 k_ k_ (fun hG=>?_))
      repeat (go_big_quiet_step (fail))
      refine wpQuiet_nil ?_
      clear hG;rintro w5 ⟨⟨_,Gn⟩,rfl⟩;have hy0':=(Gn.cell (p:=⟨b3,off3+p,none⟩) Mc).trans CA;have hy1':=(Gn.cell (p:=⟨b3,off3+q,none⟩) Mc).trans mX;have hbz3':=aaE Mc Gn.size;clear GU CM CA mX Ge a_0 a_1
      go_wp2_with fail
      (refine z7 k_ k_ (fun hG=>?_))
      repeat (go_big_quiet_step (fail))
      refine wpQuiet_nil ?_
      clear hG;rintro w6 ⟨⟨_,mG⟩,rfl⟩;have CD:=Hb.trans ((Gn.trans (mG.mono Gn.size)).mono Hb.size);clear hy0' hy1' Gn mG Hb gc;go_wp2;go_ret
      exact⟨zb (by rw[HR.out,HK.out,HX.out]),Ha.trans (CD.mono Ha.size)⟩
     ·have e3:(cp==cq)=false:=beq_eq_false_iff_ne.2 MU
      have HX:=h_ (F9.out (by rw[aaP MU];simp));clear FI MU
      go_wp2_with fail
      (refine z7 k_ k_ (fun hG=>?_))
      repeat (go_big_quiet_step (fail))
      refine wpQuiet_nil ?_
      clear hG;rintro w5 ⟨⟨_,Gn⟩,rfl⟩;have hy0':=(Gn.cell (p:=⟨b3,off3+p,none⟩) Mc).trans CA;have hy1':=(Gn.cell (p:=⟨b3,off3+q,none⟩) Mc).trans mX;have hbz3':=aaE Mc Gn.size;clear GU CM CA mX Ge a_0 a_1
      go_wp2_with fail
      (refine z7 k_ k_ (fun hG=>?_))
      repeat (go_big_quiet_step (fail))
      refine wpQuiet_nil ?_
      clear hG;rintro w6 ⟨⟨_,mG⟩,rfl⟩;have CD:=Hb.trans ((Gn.trans (mG.mono Gn.size)).mono Hb.size);clear hy0' hy1' Gn mG Hb gc;go_wp2;go_roundw
      case rel=>exact⟨k+1,by omega,by go_num,h_ (by rw[HK.out,HX.out]),CD⟩
      case measure=>simp[intOf];omega
   ·have Hw:k=ls.length:=o_
    have HE:=h_ (HK.out);subst Hw;rw[aae,HZ.out] at HE;have gc:=Ha.trans (Hb.mono Ha.size);clear fk hcell;go_wp2;go_ret
    exact⟨zb (by rw[HR.out,HE.out]),gc⟩
theorem z5d (vn vl vc:Value) (ns ls:List Pr) (cs:List Int) (w:World) (hn:RP w vn ns) (hl:RP w vl ls) (hc:RI w vc cs):
  CB_ 122 #[.agg #[vn,vl],vc] w (.int .i64 (jJ ns ls cs)):=by
 obtain⟨Ac,cc,rfl,Gq,bD,hcell⟩:=hc.form;unfold maxLen at bD;obtain⟨Al,cl,rfl,Ho,GO,_⟩:=hl.formI;unfold maxLen at GO;have Hg:Below w.heap.size w (w.alloc (.cells #[vn,.slice Al ls.length cl] 27)):=bel_
 have gD:Blk (w.alloc (.cells #[vn,.slice Al ls.length cl] 27)) w.heap.size 27 #[vn,.slice Al ls.length cl]:=Blk.newAt rfl
 cases hw:qk ns ls cs
 ·have HR:Hid (jJ ns ls cs= -1):=h_ (by unfold jJ;rw[hw];rfl)
  cases Nk:zf ns ls
  ·go_enter Tryz.func122,Tryz.ntmps122
   go_wp2_with fail
   refine(j7 _ _ ns ls _ _ (hn.below Hg) (hl.below Hg) Nk).mono ?_
   rintro e w1 ⟨rfl,h9⟩;have h8:=Hg.trans (h9.mono Hg.size);go_wp2;go_ret
   exact⟨zb HR.out.symm,h8⟩
  ·have GB:=zq ns ls
   have CX:=h_ (fun (v:World) (h1:RP v vn ns) (h2:RP v (.slice Al ls.length cl) ls)=>jN vn (.slice Al ls.length cl) ns ls v h1 h2);have HL:Hid ((decide (cs.length=(z9 ns ls).length)&&vi cs 0 5)=false):=h_ (by unfold qk at hw;rw[Nk] at hw;exact hw);generalize z9 ns ls=F at*
   go_enter Tryz.func122,Tryz.ntmps122
   go_wp2_with fail
   refine(j7 _ _ ns ls _ _ (hn.below Hg) (hl.below Hg) Nk).mono ?_
   rintro e w1 ⟨rfl,h9⟩;have h8:=Hg.trans (h9.mono Hg.size);have gg:=gD.below h9 gD.lt;clear h9;obtain⟨a_0,a_1⟩:=gg.c2
   go_wp2_with fail
   refine(CX.out _ (hn.below h8) (hl.below h8)).mono ?_
   rintro e w2 ⟨v2,rfl,Hm,He⟩;obtain⟨A2,c2,rfl⟩:=Hm.form;have Ha:=h8.trans (He.mono h8.size)
   go_wp2_with fail
   refine(xg _ cs F.length _ (hc.below Ha) GB).mono ?_
   rw[HL.out];rintro e w' ⟨rfl,rfl⟩;go_wp2;go_ret
   exact⟨zb HR.out.symm,Ha⟩
 ·have HR:Hid (jJ ns ls cs=jd ns ls cs ls.length 0):=h_ (by unfold jJ;rw[hw];rfl)
  obtain⟨Nk,Hi,fb⟩:=xk hw;have GW:=(zI Nk).1.2.2.1;have Ft:=h_ (fun k (hk:k<ls.length)=>z47 hw hk);have HY:=h_ (fun m k h=>VU (ns:=ns) (ls:=ls) (cs:=cs) (m:=m) (k:=k) h);have BM:=h_ (fun m k h=>z0t (ns:=ns) (ls:=ls) (cs:=cs) (m:=m) (k:=k) h);have HZ:Hid (∀k,jd ns ls cs 0 k= -1):=h_ (fun _=>rfl);have bB:=h_ (vP ns ls);have GB:=zq ns ls;have Yq:cs.length<=40:=o_
  have CX:=h_ (fun (v:World) (h1:RP v vn ns) (h2:RP v (.slice Al ls.length cl) ls)=>jN vn (.slice Al ls.length cl) ns ls v h1 h2);have HL:Hid ((decide (cs.length=(z9 ns ls).length)&&vi cs 0 5)=true):=h_ (by rw[aaR Hi,fb];rfl);have HWH:=h_ Nk;have HSD:=h_ (fun (v:World) (h1:RP v vn ns) (h2:RP v (.slice Al ls.length cl) ls)=>Vk vn (.slice Al ls.length cl) ns ls v h1 h2 Nk);clear fb Hi hw Nk;generalize z9 ns ls=F at*
  go_enter Tryz.func122,Tryz.ntmps122
  go_wp2_with fail
  refine(j7 _ _ ns ls _ _ (hn.below Hg) (hl.below Hg) HWH.out).mono ?_
  rintro e w1 ⟨rfl,h9⟩;have mc:=Hg.trans (h9.mono Hg.size);have Uv:=gD.below h9 gD.lt;clear h9;obtain⟨a_0,a_1⟩:=Uv.c2
  go_wp2_with fail
  refine(CX.out _ (hn.below mc) (hl.below mc)).mono ?_
  rintro e w1b ⟨v2,rfl,Hm,He⟩;obtain⟨A2,c2,rfl⟩:=Hm.form;have h8:=mc.trans (He.mono mc.size);have gg:=Uv.below He Uv.lt;clear He Hm Uv mc a_0 a_1
  go_wp2_with fail
  refine(xg _ cs F.length _ (hc.below h8) GB).mono ?_
  rw[HL.out];rintro e w' ⟨rfl,rfl⟩;obtain⟨a_0,a_1⟩:=gg.c2
  go_wp2_with fail
  refine(HSD.out _ (hn.below h8) (hl.below h8)).mono ?_
  rintro e w2 ⟨v2,rfl,Hm,He⟩;have Ha:=h8.trans (He.mono h8.size);have gV:=gg.below He gg.lt;have Fw:=Hm.reads;clear He Hm gg h8 a_0 a_1;obtain⟨As,cS,rfl,Gu,hms,fk⟩:=Fw.form;rw[bB.out] at fk⊢;clear Fw Gu hms;obtain⟨a_0,a_1⟩:=gV.c2;go_wp2
  go_loopw [6] (fun x wr=>∃k:Nat,k<=ls.length/\x= .int .i64 k/\Hid (jd ns ls cs ls.length 0=jd ns ls cs (ls.length -k) k)/\Below w2.heap.size w2 wr) (fun x _=>ls.length -(intOf x).toNat)
  case atStart=>exact⟨0,aab _,rfl,h_ rfl,aaj _ _⟩
  case round=>
   clear a_0 a_1;obtain⟨k,hk,rfl,HK,Hb⟩:=hrel;have uI:=gV.below Hb gV.lt;obtain⟨a_0,a_1⟩:=uI.c2
   by_cases Hd:k<ls.length
   ·obtain⟨p,q,hp,hq,hpl,mA,uq⟩:=Ft.out k Hd
    obtain⟨b,off,rfl,hb,GG⟩:=fk o_;obtain⟨b3,off3,rfl,Hf,Cv⟩:=hcell o_;have GU:=(Hb.cell (p:=⟨b,off+2*k,none⟩) hb).trans (GG (2*k) o_);have CM:=(Hb.cell (p:=⟨b,off+(2*k+1),none⟩) hb).trans (GG (2*k+1) o_);rw[hp] at GU;rw[hq] at CM;have gc:=Ha.trans (Hb.mono Ha.size);have CA:=(gc.cell (p:=⟨b3,off3+p,none⟩) Hf).trans (Cv p hpl);have mX:=(gc.cell (p:=⟨b3,off3+q,none⟩) Hf).trans (Cv q mA);have GS:=aaE hb Hb.size;have Mc:=aaE Hf gc.size;have Ge:IntKind.i64.wrap (2*(k:Int))=((2*k:Nat):Int):=by rw[show 2*(k:Int)=((2*k:Nat):Int) by omega];exact aaQ _ o_
    have i4:(0:Int)<=(p:Int):=o_
    have i5:(p:Int)<(cs.length:Int):=o_
    have i6:(0:Int)<=(q:Int):=o_
    have i7:(q:Int)<(cs.length:Int):=o_
    have ik:(k:Int)<(ls.length:Int):=o_
    have MT:=h_ (fun h=>HY.out (ls.length -(k+1)) k h);have F9:=h_ (fun h=>BM.out (ls.length -(k+1)) k h);rw[show ls.length -(k+1)+1=ls.length -k by omega] at MT F9;rw[uq] at MT F9;clear GG Cv fk hcell hp hq uq;generalize cs.getD p 0=cp at*;generalize cs.getD q 0=cq at*
    by_cases FI:p=q
    ·have e1:((p:Int)==(q:Int))=true:=beq_iff_eq.2 o_
     have e2:((p:Int) != (q:Int))=false:=by rw[bne,e1];rfl
     have HX:=h_ (F9.out (by rw[aaP (by simp[FI])];rfl));clear FI
     go_wp2_with fail
     (refine z7 k_ k_ (fun hG=>?_))
     repeat (go_big_quiet_step (fail))
     refine wpQuiet_nil ?_
     clear hG;rintro w5 ⟨⟨_,Gn⟩,rfl⟩;have CD:=Hb.trans (Gn.mono Hb.size);clear GU CM CA mX Ge a_0 a_1 Gn Hb gc;go_wp2;go_roundw
     case rel=>exact⟨k+1,by omega,by go_num,h_ (by rw[HK.out,HX.out]),CD⟩
     case measure=>simp[intOf];omega
    ·have e1:((p:Int)==(q:Int))=false:=beq_eq_false_iff_ne.2 o_
     have e2:((p:Int) != (q:Int))=true:=by rw[bne,e1];rfl
     by_cases MU:cp=cq
     ·have e3:(cp==cq)=true:=beq_iff_eq.2 MU
      have HX:=h_ (MT.out (by rw[aaR FI,aaR MU];rfl));clear FI MU
      go_wp2_with fail
      (refine z7 k_ k_ (fun hG=>?_))
      repeat (go_big_quiet_step (fail))
      refine wpQuiet_nil ?_
      clear hG;rintro w5 ⟨⟨_,Gn⟩,rfl⟩;have CD:=Hb.trans (Gn.mono Hb.size);clear GU CM CA mX Ge a_0 a_1 Gn Hb gc;go_wp2;go_ret
      exact⟨zb (by rw[HR.out,HK.out,HX.out]),Ha.trans (CD.mono Ha.size)⟩
     ·have e3:(cp==cq)=false:=beq_eq_false_iff_ne.2 MU
      have HX:=h_ (F9.out (by rw[aaP MU];simp));clear FI MU
      go_wp2_with fail
      (refine z7 k_ k_ (fun hG=>?_))
      repeat (go_big_quiet_step (fail))
      refine wpQuiet_nil ?_
      clear hG;rintro w5 ⟨⟨_,Gn⟩,rfl⟩;have CD:=Hb.trans (Gn.mono Hb.size);clear GU CM CA mX Ge a_0 a_1 Gn Hb gc;go_wp2;go_roundw
      case rel=>exact⟨k+1,by omega,by go_num,h_ (by rw[HK.out,HX.out]),CD⟩
      case measure=>simp[intOf];omega
   ·have Hw:k=ls.length:=o_
    have HE:=h_ (HK.out);subst Hw;rw[aae,HZ.out] at HE;have gc:=Ha.trans (Hb.mono Ha.size);clear fk hcell;go_wp2;go_ret
    exact⟨zb (by rw[HR.out,HE.out]),gc⟩
theorem z7u (vn vl vc:Value) (ns ls:List Pr) (cs:List Int) (x:Int) (w:World) (hn:RP w vn ns) (hl:RP w vl ls) (hc:RI w vc cs) (hx:jJ ns ls cs=x):
  CB_ 122 #[.agg #[vn,vl],vc] w (.int .i64 x):=by
 subst hx;exact z5d vn vl vc ns ls cs w hn hl hc
theorem z7A (vn vl vc:Value) (ns ls:List Pr) (cs:List Int) (x:Int) (w:World) (hn:RP w vn ns) (hl:RP w vl ls) (hc:RI w vc cs) (hx:jJ ns ls cs=x):
  CB_ 83 #[.agg #[vn,vl],vc] w (.int .i64 x):=by
 subst hx;exact z5c vn vl vc ns ls cs w hn hl hc
theorem z4q (vn vl vc:Value) (ns ls:List Pr) (cs:List Int) (w:World) (hn:RP w vn ns) (hl:RP w vl ls) (hc:RI w vc cs):
  CB_ 21 #[.agg #[vn,vl],vc] w (.bool (zY ns ls cs)):=by
 have Hg:Below w.heap.size w (w.alloc (.cells #[vn,vl] 27)):=bel_
 have gD:Blk (w.alloc (.cells #[vn,vl] 27)) w.heap.size 27 #[vn,vl]:=Blk.newAt rfl;obtain⟨x,hx⟩:∃x,jJ ns ls cs=x:=⟨_,rfl⟩;have HX:=h_ hx
 cases hw:qk ns ls cs
 ·have HR:Hid (zY ns ls cs=false):=h_ (by unfold zY;rw[hw];rfl)
  go_enter Tryz.func21,Tryz.ntmps21
  go_wp2_with fail
  refine(kZ _ _ _ ns ls cs _ _ (hn.below Hg) (hl.below Hg) (hc.below Hg) hw).mono ?_
  rintro e w1 ⟨rfl,h9⟩;have h8:=Hg.trans (h9.mono Hg.size);go_wp2;go_ret
  exact⟨z8 HR.out.symm,h8⟩
 ·have HR:Hid (zY ns ls cs=decide (x<0)):=h_ (by unfold zY;rw[hw,hx];rfl)
  clear hx
  go_enter Tryz.func21,Tryz.ntmps21
  go_wp2_with fail
  refine(kZ _ _ _ ns ls cs _ _ (hn.below Hg) (hl.below Hg) (hc.below Hg) hw).mono ?_
  rintro e w1 ⟨rfl,h9⟩;have h8:=Hg.trans (h9.mono Hg.size);have gg:=gD.below h9 gD.lt;clear h9;obtain⟨a_0,a_1⟩:=gg.c2
  go_wp2_with fail
  refine(z7A _ _ _ ns ls cs x _ (hn.below h8) (hl.below h8) (hc.below h8) HX.out).mono ?_
  rintro e w2 ⟨rfl,He⟩;have Ha:=h8.trans (He.mono h8.size);go_wp2;go_ret
  exact⟨z8 HR.out.symm,Ha⟩
theorem z41 (vn vl vc:Value) (ns ls:List Pr) (cs:List Int) (w:World) (hn:RP w vn ns) (hl:RP w vl ls) (hc:RI w vc cs):
  CB_ 46 #[.agg #[vn,vl],vc] w (.bool (zY ns ls cs)):=by
 have Hg:Below w.heap.size w (w.alloc (.cells #[vn,vl] 27)):=bel_
 have gD:Blk (w.alloc (.cells #[vn,vl] 27)) w.heap.size 27 #[vn,vl]:=Blk.newAt rfl;obtain⟨x,hx⟩:∃x,jJ ns ls cs=x:=⟨_,rfl⟩;have HX:=h_ hx
 cases hw:zf ns ls
 ·have HR:Hid (zY ns ls cs=false):=h_ (by unfold zY qk;rw[hw];rfl)
  go_enter Tryz.func46,Tryz.ntmps46
  go_wp2_with fail
  refine(j7 _ _ ns ls _ _ (hn.below Hg) (hl.below Hg) hw).mono ?_
  rintro e w1 ⟨rfl,h9⟩;have h8:=Hg.trans (h9.mono Hg.size);go_wp2;go_ret
  exact⟨z8 HR.out.symm,h8⟩
 ·have GB:=zq ns ls
  have CX:=h_ (fun (v:World) (h1:RP v vn ns) (h2:RP v vl ls)=>jN vn vl ns ls v h1 h2);obtain⟨bl,Hb⟩:∃b,(decide (cs.length=(z9 ns ls).length)&&vi cs 0 5)=b:=⟨_,rfl⟩;have HR:Hid (zY ns ls cs=(bl&&decide (x<0))):=h_ (by unfold zY qk;rw[hw,hx,Hb];rfl);have HL:=h_ Hb;clear Hb hx;generalize z9 ns ls=F at*
  go_enter Tryz.func46,Tryz.ntmps46
  go_wp2_with fail
  refine(j7 _ _ ns ls _ _ (hn.below Hg) (hl.below Hg) hw).mono ?_
  rintro e w1 ⟨rfl,h9⟩;have h8:=Hg.trans (h9.mono Hg.size);have gg:=gD.below h9 gD.lt;clear h9;obtain⟨a_0,a_1⟩:=gg.c2
  go_wp2_with fail
  refine(CX.out _ (hn.below h8) (hl.below h8)).mono ?_
  rintro e w2 ⟨v2,rfl,Hm,He⟩;obtain⟨A2,c2,rfl⟩:=Hm.form;have Ha:=h8.trans (He.mono h8.size);have gV:=gg.below He gg.lt;clear He Hm gg h8 a_0 a_1
  go_wp2_with fail
  refine(xg _ cs F.length _ (hc.below Ha) GB).mono ?_
  rw[HL.out];rintro e w' ⟨rfl,rfl⟩;obtain⟨a_0,a_1⟩:=gV.c2
  cases bl
  ·go_wp2
   go_ret
   exact⟨z8 HR.out.symm,Ha⟩
  ·go_wp2_with fail
   refine(z7u _ _ _ ns ls cs x _ (hn.below Ha) (hl.below Ha) (hc.below Ha) HX.out).mono ?_
   rintro e w3 ⟨rfl,Hf⟩;have Hc:=Ha.trans (Hf.mono Ha.size);go_wp2;go_ret
   exact⟨z8 HR.out.symm,Hc⟩
theorem XT (vn vl vc:Value) (ns ls:List Pr) (cs:List Int) (b:Bool) (w:World) (hn:RP w vn ns) (hl:RP w vl ls) (hc:RI w vc cs) (hb:zY ns ls cs=b):
  CB_ 46 #[.agg #[vn,vl],vc] w (.bool b):=by
 subst hb;exact z41 vn vl vc ns ls cs w hn hl hc
theorem k6 (vn vl vc:Value) (ns ls:List Pr) (cs:List Int) (b:Bool) (w:World) (hn:RP w vn ns) (hl:RP w vl ls) (hc:RI w vc cs) (hb:zY ns ls cs=b):
  CB_ 21 #[.agg #[vn,vl],vc] w (.bool b):=by
 subst hb;exact z4q vn vl vc ns ls cs w hn hl hc
theorem z8O (v:Value) (l:List Dp) (b:Bool) (w:World) (h:RDp w v l) (hb:qm l=b):
  CB_ 137 #[v] w (.bool b):=by
 subst hb;exact Qq v l w h
theorem z99 (v:Value) (l:List Dp) (b:Bool) (w:World) (h:RDp w v l) (hb:qm l=b):
  CB_ 77 #[v] w (.bool b):=by
 subst hb;exact Qs v l w h
def zO (l:List Dp) (P:Int) (k:Nat):Prop:=∀j,j<k->(dpI l j).k <=P
theorem yR {l:List Dp} {P:Int} (h:zO l P l.length):l.all (fun d=>decide (d.k<=P))=true:=by
 rw[aaM];intro d hd;obtain⟨j,hj,rfl⟩:=abb hd;have:=h j hj;rw[jV hj] at this
 simpa using this
theorem Qx {l:List Dp} {P:Int} {k:Nat} (hk:k<l.length) (h:P<(dpI l k).k):l.all (fun d=>decide (d.k<=P))=false:=by
 cases hc:l.all (fun d=>decide (d.k<=P))
 ·rfl
 ·have:=List.all_eq_true.1 hc l[k] (abh hk)
  rw[jV hk] at h;simp at this
  omega
theorem xe {l:List Dp} {P:Int} {k:Nat} (h:zO l P k) (hk:(dpI l k).k <=P):zO l P (k+1):=fun j hj=>by
 by_cases e:j=k
 ·subst e;exact hk
 ·exact h j o_
theorem z8n (v0 v1 v2 v3 v4 v5 v6:Value) (S:St) (w:World) (h:RSt w v0 v1 v2 v3 v4 v5 v6 S):
  CB_ 17 #[.agg #[v0,v1,v2,v3,v4,v5,v6,.int .i64 S.fund]] w (.bool (ze S)):=by
 obtain⟨B2,d2,ev2,_⟩:=h.dr.nn.formI;obtain⟨B3,d3,ev3,_⟩:=h.dr.nl.formI;obtain⟨B5,d5,ev5,cV,hm5,_⟩:=h.cs.form;obtain⟨B6,d6,ev6,CE,cJ,Gy⟩:=h.ds.at_;subst ev2 ev3 ev5 ev6;unfold maxLen at hm5 cJ;have Hg:Below w.heap.size w (w.alloc (.cells #[v0,v1,.slice B2 S.D.nn.length d2,.slice B3 S.D.nl.length d3,v4,.slice B5 S.cs.length d5,.slice B6 S.ds.length d6,.int .i64 S.fund] 34)):=bel_
 have FQ:Blk (w.alloc (.cells #[v0,v1,.slice B2 S.D.nn.length d2,.slice B3 S.D.nl.length d3,v4,.slice B5 S.cs.length d5,.slice B6 S.ds.length d6,.int .i64 S.fund] 34)) w.heap.size 34 #[v0,v1,.slice B2 S.D.nn.length d2,.slice B3 S.D.nl.length d3,v4,.slice B5 S.cs.length d5,.slice B6 S.ds.length d6,.int .i64 S.fund]:=Blk.newAt rfl;have Ft:=h_ Gy;have HH:=h_ h;clear Gy h;obtain⟨od,hod⟩:∃x,okD S.D=x:=⟨_,rfl⟩;obtain⟨dB,hdB⟩:∃x,qm S.ds=x:=⟨_,rfl⟩;obtain⟨fB,hfB⟩:∃x,inB S.fund 0 1000000=x:=⟨_,rfl⟩;obtain⟨pB,hpB⟩:∃x,zY S.D.nn S.D.nl S.cs=x:=⟨_,rfl⟩;obtain⟨wB,hwB⟩:∃x,zf S.D.nn S.D.nl=x:=⟨_,rfl⟩;obtain⟨P,hP⟩:∃x,jr S.D.nn S.D.nl=x:=⟨_,rfl⟩;have fO:Hid (ze S=(od&&(dB&&(fB&&((decide (S.cs.length=0)||pB)&&((decide (S.ds.length=0)||wB)&&S.ds.all (fun d=>decide (d.k<=P)))))))):=h_ (by unfold ze;rw[hod,hdB,hfB,hpB,hwB,hP]);have HOD:=h_ hod;have HDB:=h_ hdB;have HFB:=h_ hfB;have HPB:=h_ hpB;have Y7:=h_ hwB;have nC:=h_ hP;clear hod hdB hfB hpB hwB hP
 go_enter Tryz.func17,Tryz.ntmps17
 go_wp2_with fail
 refine(z1w _ _ _ _ _ S.D od _ (HH.out.dr.below Hg) HOD).mono ?_
 rintro e w1 ⟨rfl,h9⟩;have h8:=Hg.trans (h9.mono Hg.size);have gh:=FQ.below h9 FQ.lt;clear h9 Hg FQ
 cases od
 ·have HX:Hid (ze S=false):=h_ (by rw[fO.out];rfl)
  go_wp2;go_ret
  exact⟨z8 HX.out.symm,h8⟩
 obtain⟨x_0,x_1,x_2,x_3,x_4,x_5,x_6,x_7⟩:=gh.c8
 go_wp2_with fail
 refine(z99 _ S.ds dB _ (HH.out.ds.below h8) HDB.out).mono ?_
 rintro e w2 ⟨rfl,He⟩;have Ha:=h8.trans (He.mono h8.size);have G7:=gh.below He gh.lt;clear He h8 gh x_0 x_1 x_2 x_3 x_4 x_5 x_6 x_7
 cases dB
 ·have HX:Hid (ze S=false):=h_ (by rw[fO.out];rfl)
  go_wp2;go_ret
  exact⟨z8 HX.out.symm,Ha⟩
 obtain⟨x_0,x_1,x_2,x_3,x_4,x_5,x_6,x_7⟩:=G7.c8;have rm:=G7.lt
 go_wp2_with fail
 refine(zm S.fund 0 1000000 fB _ HFB.out).mono ?_
 rintro e w' ⟨rfl,rfl⟩
 cases fB
 ·have HX:Hid (ze S=false):=h_ (by rw[fO.out];rfl)
  go_wp2;go_ret
  exact⟨z8 HX.out.symm,Ha⟩
 go_upto_region 4 with (fail)
 obtain⟨w3,FW⟩:∃u,u=w2.alloc (.cells #[.slice B2 S.D.nn.length d2,.slice B3 S.D.nl.length d3] 27):=⟨_,rfl⟩;have cd:Blk w3 w2.heap.size 27 #[.slice B2 S.D.nn.length d2,.slice B3 S.D.nl.length d3]:=FW▸Blk.newAt rfl;have Hf:Below w2.heap.size w2 w3:=FW▸(aaj _ _).alloc (aaa _) _;rw[<-FW];clear FW;have Hc:=Ha.trans (Hf.mono Ha.size);have gU:=G7.below Hf rm;have hXl3:=gU.lt;have hNl3:=cd.lt;clear Hf Ha G7 x_0 x_1 x_2 x_3 x_4 x_5 x_6 x_7 rm;generalize w2.heap.size=Nb at*;obtain⟨x_0,x_1,x_2,x_3,x_4,x_5,x_6,x_7⟩:=gU.c8;obtain⟨n_0,n_1⟩:=cd.c2
 by_cases C8:0<S.cs.length
 ·have e1:(0:Int)<(S.cs.length:Int):=o_
  have nD:Hid (decide (S.cs.length=0)=false):=h_ (aaP o_)
  go_wp2_with fail
  refine(k6 _ _ _ S.D.nn S.D.nl S.cs pB _ (HH.out.dr.nn.below Hc) (HH.out.dr.nl.below Hc) (HH.out.cs.below Hc) HPB.out).mono ?_
  rintro e w4 ⟨rfl,Hv⟩;have Hp:=Hc.trans (Hv.mono Hc.size);have G8:=gU.below Hv gU.lt;have Nl:=cd.below Hv cd.lt;clear Hv Hc gU cd hXl3 hNl3 x_0 x_1 x_2 x_3 x_4 x_5 x_6 x_7 n_0 n_1;have hXl4:=G8.lt;have hNl4:=Nl.lt;obtain⟨x_0,x_1,x_2,x_3,x_4,x_5,x_6,x_7⟩:=G8.c8;obtain⟨n_0,n_1⟩:=Nl.c2;clear e1 C8
  cases pB
  ·have HX:Hid (ze S=false):=h_ (by rw[fO.out,nD.out];simp)
   go_wp2;go_ret
   exact⟨z8 HX.out.symm,Hp⟩
  ·skip
   by_cases mD:0<S.ds.length
   ·have e2:(0:Int)<(S.ds.length:Int):=o_
    have me:Hid (decide (S.ds.length=0)=false):=h_ (aaP o_)
    go_wp2_with fail
    refine(j5 _ _ S.D.nn S.D.nl wB _ (HH.out.dr.nn.below Hp) (HH.out.dr.nl.below Hp) Y7.out).mono ?_
    rintro e w5 ⟨rfl,gf⟩;have Hx:=Hp.trans (gf.mono Hp.size);have Cn:=G8.below gf G8.lt;have Bz:=Nl.below gf Nl.lt;clear gf Hp G8 Nl hXl4 hNl4 x_0 x_1 x_2 x_3 x_4 x_5 x_6 x_7 n_0 n_1;have hXl5:=Cn.lt;have hNl5:=Bz.lt;obtain⟨x_0,x_1,x_2,x_3,x_4,x_5,x_6,x_7⟩:=Cn.c8;obtain⟨n_0,n_1⟩:=Bz.c2;clear e2
    cases wB
    ·have HX:Hid (ze S=false):=h_ (by rw[fO.out,me.out];simp)
     go_wp2;go_ret
     exact⟨z8 HX.out.symm,Hx⟩
    ·skip
     have HAL:=h_ (fun k (hk:k<S.ds.length) (h:P<(dpI S.ds k).k)=>Qx hk h);have NH:=h_ (fun k (h:zO S.ds P k) h2=>xe (k:=k) h h2);have ro:=h_ (fun (h:zO S.ds P S.ds.length)=>yR h);clear x_0 x_1 x_2 x_3 x_4 x_5 x_6 x_7 n_0 n_1;obtain⟨x_0,x_1,x_2,x_3,x_4,x_5,x_6,x_7⟩:=Cn.c8;obtain⟨n_0,n_1⟩:=Bz.c2;go_wp2
     go_loopw [50] (fun y wr=>∃k:Nat,k<=S.ds.length/\y= .int .i64 k/\Hid (zO S.ds P k)/\Below w5.heap.size w5 wr) (fun y _=>S.ds.length -(intOf y).toNat)
     case atStart=>exact⟨0,aab _,rfl,h_ (fun j hj=>absurd hj o_),aaj _ _⟩
     case round=>
      obtain⟨k,hk,rfl,HT,Hb⟩:=hrel;clear x_0 x_1 x_2 x_3 x_4 x_5 x_6 x_7 n_0 n_1;have Fs:=Hx.trans (Hb.mono Hx.size);have nE:=Cn.below Hb hXl5;have mf:=Bz.below Hb hNl5;have hNlr:=mf.lt;obtain⟨x_0,x_1,x_2,x_3,x_4,x_5,x_6,x_7⟩:=nE.c8;obtain⟨n_0,n_1⟩:=mf.c2
      by_cases Hd:k<S.ds.length
      ·obtain⟨b,off,rfl,hd⟩:=Ft.out o_
       have hd:=hd.below Fs;obtain⟨q0,q1,q2⟩:=hd.2 k Hd;have Hr:(k:Int)<(S.ds.length:Int):=o_
       have ik1:(0:Int)<=(k:Int):=o_
       have MG:=h_ (HAL.out k Hd);have fg:=h_ (NH.out k HT.out);clear hd;generalize dpI S.ds k=D at*
       go_upto_region 9 with (fail)
       obtain⟨wq,cI⟩:∃v,v=wr.alloc (.cells #[.int .i64 D.k,.int .i64 D.a,.int .i64 D.b] 48):=⟨_,rfl⟩;have hq:Blk wq wr.heap.size 48 #[.int .i64 D.k,.int .i64 D.a,.int .i64 D.b]:=cI▸Blk.newAt rfl;have Hh:Below wr.heap.size wr wq:=cI▸(aaj _ _).alloc (aaa _) _;rw[<-cI];clear cI;have hNq:=mf.below Hh hNlr;have hNlq:=hNq.lt;have rp:=Fs.trans (Hh.mono Fs.size);have cK:=Hb.trans (Hh.mono Hb.size);have rn:=HH.out.dr.nn.below rp;have rl:=HH.out.dr.nl.below rp;have mA:=hq.lt;clear x_0 x_1 x_2 x_3 x_4 x_5 x_6 x_7 n_0 n_1 q0 q1 q2 nE mf Hh Hb Fs;obtain⟨y_0,y_1,y_2⟩:=hq.c3;obtain⟨n_0,n_1⟩:=hNq.c2;generalize wr.heap.size=Bq at*
       by_cases hp:P<D.k
       ·have e1:decide (P<D.k)=true:=aaR hp
        have HX:Hid (ze S=false):=h_ (by rw[fO.out,MG.out hp];simp);clear hp
        go_wp2_with fail
        (refine z7 k_ k_ (fun hG=>?_))
        repeat (go_big_quiet_step ((go_at_call 22;exact zy (vJ _ _ S.D.nn S.D.nl P _ (rn.below (Grw.below _)) (rl.below (Grw.below _)) nC.out))))
        refine wpQuiet_nil ?_
        clear hG;rintro w8 ⟨⟨_,rq⟩,rfl⟩;have Md:=cK.trans (rq.mono cK.size);clear rq cK y_0 y_1 y_2 n_0 n_1;go_wp2;go_ret
        exact⟨z8 HX.out.symm,Hx.trans (Md.mono Hx.size)⟩
       ·have e1:decide (P<D.k)=false:=aaP hp
        have HX:=h_ (fg.out o_);clear hp
        go_wp2_with fail
        (refine z7 k_ k_ (fun hG=>?_))
        repeat (go_big_quiet_step ((go_at_call 22;exact zy (vJ _ _ S.D.nn S.D.nl P _ (rn.below (Grw.below _)) (rl.below (Grw.below _)) nC.out))))
        refine wpQuiet_nil ?_
        clear hG;rintro w8 ⟨⟨_,rq⟩,rfl⟩;have Md:=cK.trans (rq.mono cK.size);clear rq cK y_0 y_1 y_2 n_0 n_1;go_wp2;go_roundw
        case rel=>exact⟨k+1,by omega,by go_num,HX,Md⟩
        case measure=>simp[intOf];omega
      ·have Hw:k=S.ds.length:=o_
       subst Hw;have cL:=h_ (ro.out HT.out);have HX:Hid (ze S=true):=h_ (by rw[fO.out,cL.out,nD.out,me.out];rfl);go_wp2;go_ret
       exact⟨z8 HX.out.symm,Fs⟩
   ·have e2:¬(0:Int)<(S.ds.length:Int):=o_
    have me:Hid (decide (S.ds.length=0)=true):=h_ (aaR o_);clear mD;have ro:=h_ (fun (h:zO S.ds P S.ds.length)=>yR h);clear x_0 x_1 x_2 x_3 x_4 x_5 x_6 x_7 n_0 n_1;obtain⟨x_0,x_1,x_2,x_3,x_4,x_5,x_6,x_7⟩:=G8.c8;obtain⟨n_0,n_1⟩:=Nl.c2;go_wp2
    go_loopw [50] (fun y wr=>∃k:Nat,k<=S.ds.length/\y= .int .i64 k/\Hid (zO S.ds P k)/\Below w4.heap.size w4 wr) (fun y _=>S.ds.length -(intOf y).toNat)
    case atStart=>exact⟨0,aab _,rfl,h_ (fun j hj=>absurd hj o_),aaj _ _⟩
    case round=>
     obtain⟨k,hk,rfl,HT,Hb⟩:=hrel;clear x_0 x_1 x_2 x_3 x_4 x_5 x_6 x_7 n_0 n_1;have Fs:=Hp.trans (Hb.mono Hp.size);have nE:=G8.below Hb hXl4;have mf:=Nl.below Hb hNl4;obtain⟨x_0,x_1,x_2,x_3,x_4,x_5,x_6,x_7⟩:=nE.c8;obtain⟨n_0,n_1⟩:=mf.c2
     by_cases Hd:k<S.ds.length
     ·exact absurd Hd o_
     ·have Hw:k=S.ds.length:=o_
      subst Hw;have cL:=h_ (ro.out HT.out);have HX:Hid (ze S=true):=h_ (by rw[fO.out,cL.out,nD.out,me.out];rfl);go_wp2;go_ret
      exact⟨z8 HX.out.symm,Fs⟩
 ·have e1:¬(0:Int)<(S.cs.length:Int):=o_
  have nD:Hid (decide (S.cs.length=0)=true):=h_ (aaR o_);clear C8
  by_cases mD:0<S.ds.length
  ·have e2:(0:Int)<(S.ds.length:Int):=o_
   have me:Hid (decide (S.ds.length=0)=false):=h_ (aaP o_)
   go_wp2_with fail
   refine(j5 _ _ S.D.nn S.D.nl wB _ (HH.out.dr.nn.below Hc) (HH.out.dr.nl.below Hc) Y7.out).mono ?_
   rintro e w5 ⟨rfl,gf⟩;have Hx:=Hc.trans (gf.mono Hc.size);have Cn:=gU.below gf gU.lt;have Bz:=cd.below gf cd.lt;clear gf Hc gU cd hXl3 hNl3 x_0 x_1 x_2 x_3 x_4 x_5 x_6 x_7 n_0 n_1;have hXl5:=Cn.lt;have hNl5:=Bz.lt;obtain⟨x_0,x_1,x_2,x_3,x_4,x_5,x_6,x_7⟩:=Cn.c8;obtain⟨n_0,n_1⟩:=Bz.c2;clear e2
   cases wB
   ·have HX:Hid (ze S=false):=h_ (by rw[fO.out,me.out];simp)
    go_wp2;go_ret
    exact⟨z8 HX.out.symm,Hx⟩
   ·skip
    have HAL:=h_ (fun k (hk:k<S.ds.length) (h:P<(dpI S.ds k).k)=>Qx hk h);have NH:=h_ (fun k (h:zO S.ds P k) h2=>xe (k:=k) h h2);have ro:=h_ (fun (h:zO S.ds P S.ds.length)=>yR h);clear x_0 x_1 x_2 x_3 x_4 x_5 x_6 x_7 n_0 n_1;obtain⟨x_0,x_1,x_2,x_3,x_4,x_5,x_6,x_7⟩:=Cn.c8;obtain⟨n_0,n_1⟩:=Bz.c2;go_wp2
    go_loopw [50] (fun y wr=>∃k:Nat,k<=S.ds.length/\y= .int .i64 k/\Hid (zO S.ds P k)/\Below w5.heap.size w5 wr) (fun y _=>S.ds.length -(intOf y).toNat)
    case atStart=>exact⟨0,aab _,rfl,h_ (fun j hj=>absurd hj o_),aaj _ _⟩
    case round=>
     obtain⟨k,hk,rfl,HT,Hb⟩:=hrel;clear x_0 x_1 x_2 x_3 x_4 x_5 x_6 x_7 n_0 n_1;have Fs:=Hx.trans (Hb.mono Hx.size);have nE:=Cn.below Hb hXl5;have mf:=Bz.below Hb hNl5;have hNlr:=mf.lt;obtain⟨x_0,x_1,x_2,x_3,x_4,x_5,x_6,x_7⟩:=nE.c8;obtain⟨n_0,n_1⟩:=mf.c2
     by_cases Hd:k<S.ds.length
     ·obtain⟨b,off,rfl,hd⟩:=Ft.out o_
      have hd:=hd.below Fs;obtain⟨q0,q1,q2⟩:=hd.2 k Hd;have Hr:(k:Int)<(S.ds.length:Int):=o_
      have ik1:(0:Int)<=(k:Int):=o_
      have MG:=h_ (HAL.out k Hd);have fg:=h_ (NH.out k HT.out);clear hd;generalize dpI S.ds k=D at*
      go_upto_region 9 with (fail)
      obtain⟨wq,cI⟩:∃v,v=wr.alloc (.cells #[.int .i64 D.k,.int .i64 D.a,.int .i64 D.b] 48):=⟨_,rfl⟩;have hq:Blk wq wr.heap.size 48 #[.int .i64 D.k,.int .i64 D.a,.int .i64 D.b]:=cI▸Blk.newAt rfl;have Hh:Below wr.heap.size wr wq:=cI▸(aaj _ _).alloc (aaa _) _;rw[<-cI];clear cI;have hNq:=mf.below Hh hNlr;have hNlq:=hNq.lt;have rp:=Fs.trans (Hh.mono Fs.size);have cK:=Hb.trans (Hh.mono Hb.size);have rn:=HH.out.dr.nn.below rp;have rl:=HH.out.dr.nl.below rp;have mA:=hq.lt;clear x_0 x_1 x_2 x_3 x_4 x_5 x_6 x_7 n_0 n_1 q0 q1 q2 nE mf Hh Hb Fs;obtain⟨y_0,y_1,y_2⟩:=hq.c3;obtain⟨n_0,n_1⟩:=hNq.c2;generalize wr.heap.size=Bq at*
      by_cases hp:P<D.k
      ·have e1:decide (P<D.k)=true:=aaR hp
       have HX:Hid (ze S=false):=h_ (by rw[fO.out,MG.out hp];simp);clear hp
       go_wp2_with fail
       (refine z7 k_ k_ (fun hG=>?_))
       repeat (go_big_quiet_step ((go_at_call 22;exact zy (vJ _ _ S.D.nn S.D.nl P _ (rn.below (Grw.below _)) (rl.below (Grw.below _)) nC.out))))
       refine wpQuiet_nil ?_
       clear hG;rintro w8 ⟨⟨_,rq⟩,rfl⟩;have Md:=cK.trans (rq.mono cK.size);clear rq cK y_0 y_1 y_2 n_0 n_1;go_wp2;go_ret
       exact⟨z8 HX.out.symm,Hx.trans (Md.mono Hx.size)⟩
      ·have e1:decide (P<D.k)=false:=aaP hp
       have HX:=h_ (fg.out o_);clear hp
       go_wp2_with fail
       (refine z7 k_ k_ (fun hG=>?_))
       repeat (go_big_quiet_step ((go_at_call 22;exact zy (vJ _ _ S.D.nn S.D.nl P _ (rn.below (Grw.below _)) (rl.below (Grw.below _)) nC.out))))
       refine wpQuiet_nil ?_
       clear hG;rintro w8 ⟨⟨_,rq⟩,rfl⟩;have Md:=cK.trans (rq.mono cK.size);clear rq cK y_0 y_1 y_2 n_0 n_1;go_wp2;go_roundw
       case rel=>exact⟨k+1,by omega,by go_num,HX,Md⟩
       case measure=>simp[intOf];omega
     ·have Hw:k=S.ds.length:=o_
      subst Hw;have cL:=h_ (ro.out HT.out);have HX:Hid (ze S=true):=h_ (by rw[fO.out,cL.out,nD.out,me.out];rfl);go_wp2;go_ret
      exact⟨z8 HX.out.symm,Fs⟩
  ·have e2:¬(0:Int)<(S.ds.length:Int):=o_
   have me:Hid (decide (S.ds.length=0)=true):=h_ (aaR o_);clear mD;have ro:=h_ (fun (h:zO S.ds P S.ds.length)=>yR h);clear x_0 x_1 x_2 x_3 x_4 x_5 x_6 x_7 n_0 n_1;obtain⟨x_0,x_1,x_2,x_3,x_4,x_5,x_6,x_7⟩:=gU.c8;obtain⟨n_0,n_1⟩:=cd.c2;go_wp2
   go_loopw [50] (fun y wr=>∃k:Nat,k<=S.ds.length/\y= .int .i64 k/\Hid (zO S.ds P k)/\Below w3.heap.size w3 wr) (fun y _=>S.ds.length -(intOf y).toNat)
   case atStart=>exact⟨0,aab _,rfl,h_ (fun j hj=>absurd hj o_),aaj _ _⟩
   case round=>
    obtain⟨k,hk,rfl,HT,Hb⟩:=hrel;clear x_0 x_1 x_2 x_3 x_4 x_5 x_6 x_7 n_0 n_1;have Fs:=Hc.trans (Hb.mono Hc.size);have nE:=gU.below Hb hXl3;have mf:=cd.below Hb hNl3;obtain⟨x_0,x_1,x_2,x_3,x_4,x_5,x_6,x_7⟩:=nE.c8;obtain⟨n_0,n_1⟩:=mf.c2
    by_cases Hd:k<S.ds.length
    ·exact absurd Hd o_
    ·have Hw:k=S.ds.length:=o_
     subst Hw;have cL:=h_ (ro.out HT.out);have HX:Hid (ze S=true):=h_ (by rw[fO.out,cL.out,nD.out,me.out];rfl);go_wp2;go_ret
     exact⟨z8 HX.out.symm,Fs⟩
theorem z8H (v0 v1 v2 v3 v4 v5 v6:Value) (S:St) (w:World) (h:RSt w v0 v1 v2 v3 v4 v5 v6 S):
  CB_ 70 #[.agg #[v0,v1,v2,v3,v4,v5,v6,.int .i64 S.fund]] w (.bool (ze S)):=by
 obtain⟨B2,d2,ev2,_⟩:=h.dr.nn.formI;obtain⟨B3,d3,ev3,_⟩:=h.dr.nl.formI;obtain⟨B5,d5,ev5,cV,hm5,_⟩:=h.cs.form;obtain⟨B6,d6,ev6,CE,cJ,Gy⟩:=h.ds.at_;subst ev2 ev3 ev5 ev6;unfold maxLen at hm5 cJ;have Hg:Below w.heap.size w (w.alloc (.cells #[v0,v1,.slice B2 S.D.nn.length d2,.slice B3 S.D.nl.length d3,v4,.slice B5 S.cs.length d5,.slice B6 S.ds.length d6,.int .i64 S.fund] 34)):=bel_
 have FQ:Blk (w.alloc (.cells #[v0,v1,.slice B2 S.D.nn.length d2,.slice B3 S.D.nl.length d3,v4,.slice B5 S.cs.length d5,.slice B6 S.ds.length d6,.int .i64 S.fund] 34)) w.heap.size 34 #[v0,v1,.slice B2 S.D.nn.length d2,.slice B3 S.D.nl.length d3,v4,.slice B5 S.cs.length d5,.slice B6 S.ds.length d6,.int .i64 S.fund]:=Blk.newAt rfl;have Ft:=h_ Gy;have HH:=h_ h;clear Gy h;obtain⟨od,hod⟩:∃x,okD S.D=x:=⟨_,rfl⟩;obtain⟨dB,hdB⟩:∃x,qm S.ds=x:=⟨_,rfl⟩;obtain⟨fB,hfB⟩:∃x,inB S.fund 0 1000000=x:=⟨_,rfl⟩;obtain⟨pB,hpB⟩:∃x,zY S.D.nn S.D.nl S.cs=x:=⟨_,rfl⟩;obtain⟨wB,hwB⟩:∃x,zf S.D.nn S.D.nl=x:=⟨_,rfl⟩;obtain⟨P,hP⟩:∃x,jr S.D.nn S.D.nl=x:=⟨_,rfl⟩;have fO:Hid (ze S=(od&&(dB&&(fB&&((decide (S.cs.length=0)||pB)&&((decide (S.ds.length=0)||wB)&&S.ds.all (fun d=>decide (d.k<=P)))))))):=h_ (by unfold ze;rw[hod,hdB,hfB,hpB,hwB,hP]);have HOD:=h_ hod;have HDB:=h_ hdB;have HFB:=h_ hfB;have HPB:=h_ hpB;have Y7:=h_ hwB;have nC:=h_ hP;clear hod hdB hfB hpB hwB hP
 go_enter Tryz.func70,Tryz.ntmps70
 go_wp2_with fail
 refine(z2u _ _ _ _ _ S.D od _ (HH.out.dr.below Hg) HOD).mono ?_
 rintro e w1 ⟨rfl,h9⟩;have h8:=Hg.trans (h9.mono Hg.size);have gh:=FQ.below h9 FQ.lt;clear h9 Hg FQ
 cases od
 ·have HX:Hid (ze S=false):=h_ (by rw[fO.out];rfl)
  go_wp2;go_ret
  exact⟨z8 HX.out.symm,h8⟩
 obtain⟨x_0,x_1,x_2,x_3,x_4,x_5,x_6,x_7⟩:=gh.c8
 go_wp2_with fail
 refine(z8O _ S.ds dB _ (HH.out.ds.below h8) HDB.out).mono ?_
 rintro e w2 ⟨rfl,He⟩;have Ha:=h8.trans (He.mono h8.size);have G7:=gh.below He gh.lt;clear He h8 gh x_0 x_1 x_2 x_3 x_4 x_5 x_6 x_7
 cases dB
 ·have HX:Hid (ze S=false):=h_ (by rw[fO.out];rfl)
  go_wp2;go_ret
  exact⟨z8 HX.out.symm,Ha⟩
 obtain⟨x_0,x_1,x_2,x_3,x_4,x_5,x_6,x_7⟩:=G7.c8;have rm:=G7.lt
 go_wp2_with fail
 refine(zN S.fund 0 1000000 fB _ HFB.out).mono ?_
 rintro e w' ⟨rfl,rfl⟩
 cases fB
 ·have HX:Hid (ze S=false):=h_ (by rw[fO.out];rfl)
  go_wp2;go_ret
  exact⟨z8 HX.out.symm,Ha⟩
 go_upto_region 4 with (fail)
 obtain⟨w3,FW⟩:∃u,u=w2.alloc (.cells #[.slice B2 S.D.nn.length d2,.slice B3 S.D.nl.length d3] 27):=⟨_,rfl⟩;have cd:Blk w3 w2.heap.size 27 #[.slice B2 S.D.nn.length d2,.slice B3 S.D.nl.length d3]:=FW▸Blk.newAt rfl;have Hf:Below w2.heap.size w2 w3:=FW▸(aaj _ _).alloc (aaa _) _;rw[<-FW];clear FW;have Hc:=Ha.trans (Hf.mono Ha.size);have gU:=G7.below Hf rm;clear Hf Ha G7 x_0 x_1 x_2 x_3 x_4 x_5 x_6 x_7 rm;generalize w2.heap.size=Nb at*;obtain⟨x_0,x_1,x_2,x_3,x_4,x_5,x_6,x_7⟩:=gU.c8;obtain⟨n_0,n_1⟩:=cd.c2
 by_cases C8:0<S.cs.length
 ·have e1:(0:Int)<(S.cs.length:Int):=o_
  have nD:Hid (decide (S.cs.length=0)=false):=h_ (aaP o_)
  go_wp2_with fail
  refine(XT _ _ _ S.D.nn S.D.nl S.cs pB _ (HH.out.dr.nn.below Hc) (HH.out.dr.nl.below Hc) (HH.out.cs.below Hc) HPB.out).mono ?_
  rintro e w4 ⟨rfl,Hv⟩;have Hp:=Hc.trans (Hv.mono Hc.size);have G8:=gU.below Hv gU.lt;have Nl:=cd.below Hv cd.lt;clear Hv Hc gU cd x_0 x_1 x_2 x_3 x_4 x_5 x_6 x_7 n_0 n_1;obtain⟨x_0,x_1,x_2,x_3,x_4,x_5,x_6,x_7⟩:=G8.c8;obtain⟨n_0,n_1⟩:=Nl.c2;clear e1 C8
  cases pB
  ·have HX:Hid (ze S=false):=h_ (by rw[fO.out,nD.out];simp)
   go_wp2;go_ret
   exact⟨z8 HX.out.symm,Hp⟩
  ·skip
   go_wp2_with fail
   refine(J1 _ _ S.D.nn S.D.nl P _ (HH.out.dr.nn.below Hp) (HH.out.dr.nl.below Hp) nC.out).mono ?_
   rintro e w6 ⟨rfl,gk⟩;have gJ:=Hp.trans (gk.mono Hp.size);have CC:=G8.below gk G8.lt;have rd:=Nl.below gk Nl.lt;clear gk Hp G8 Nl x_0 x_1 x_2 x_3 x_4 x_5 x_6 x_7 n_0 n_1;have hXl6:=CC.lt;have hNl6:=rd.lt;obtain⟨x_0,x_1,x_2,x_3,x_4,x_5,x_6,x_7⟩:=CC.c8;obtain⟨n_0,n_1⟩:=rd.c2;have HAL:=h_ (fun k (hk:k<S.ds.length) (h:P<(dpI S.ds k).k)=>Qx hk h);have NH:=h_ (fun k (h:zO S.ds P k) h2=>xe (k:=k) h h2);have ro:=h_ (fun (h:zO S.ds P S.ds.length)=>yR h);clear x_0 x_1 x_2 x_3 x_4 x_5 x_6 x_7 n_0 n_1;obtain⟨x_0,x_1,x_2,x_3,x_4,x_5,x_6,x_7⟩:=CC.c8;obtain⟨n_0,n_1⟩:=rd.c2;go_wp2
   go_loopw [5] (fun y wr=>∃k:Nat,k<=S.ds.length/\y= .int .i64 k/\Hid (zO S.ds P k)/\Below w6.heap.size w6 wr) (fun y _=>S.ds.length -(intOf y).toNat)
   case atStart=>exact⟨0,aab _,rfl,h_ (fun j hj=>absurd hj o_),aaj _ _⟩
   case round=>
    obtain⟨k,hk,rfl,HT,Hb⟩:=hrel;clear x_0 x_1 x_2 x_3 x_4 x_5 x_6 x_7 n_0 n_1;have Fs:=gJ.trans (Hb.mono gJ.size);have nE:=CC.below Hb hXl6;have mf:=rd.below Hb hNl6;obtain⟨x_0,x_1,x_2,x_3,x_4,x_5,x_6,x_7⟩:=nE.c8;obtain⟨n_0,n_1⟩:=mf.c2
    by_cases Hd:k<S.ds.length
    ·obtain⟨b,off,rfl,hd⟩:=Ft.out o_
     have hd:=hd.below Fs;obtain⟨q0,q1,q2⟩:=hd.2 k Hd;have Hr:(k:Int)<(S.ds.length:Int):=o_
     have ik1:(0:Int)<=(k:Int):=o_
     have MG:=h_ (HAL.out k Hd);have fg:=h_ (NH.out k HT.out);clear hd;generalize dpI S.ds k=D at*
     by_cases hp:P<D.k
     ·have e1:decide (P<D.k)=true:=aaR hp
      have HX:Hid (ze S=false):=h_ (by rw[fO.out,MG.out hp];simp);clear hp;go_wp2;go_ret
      exact⟨z8 HX.out.symm,Fs⟩
     ·have e1:decide (P<D.k)=false:=aaP hp
      have HX:=h_ (fg.out o_);clear hp;go_wp2;go_roundw
      case rel=>exact⟨k+1,by omega,by go_num,HX,Hb⟩
      case measure=>simp[intOf];omega
    ·have Hw:k=S.ds.length:=o_
     subst Hw;have cL:=h_ (ro.out HT.out)
     by_cases mD:S.ds.length=0
     ·have HX:Hid (ze S=true):=h_ (by rw[fO.out,cL.out,nD.out,aaR mD];rfl)
      go_wp2;go_ret
      exact⟨z8 HX.out.symm,Fs⟩
     ·have HX:Hid (ze S=wB):=h_ (by rw[fO.out,cL.out,nD.out,aaP mD];cases wB<;>rfl)
      have e1:((S.ds.length:Int)==0)=false:=beq_eq_false_iff_ne.2 o_
      go_wp2_with fail
      refine(j7 _ _ S.D.nn S.D.nl wB _ (HH.out.dr.nn.below Fs) (HH.out.dr.nl.below Fs) Y7.out).mono ?_
      rintro e w9 ⟨rfl,mE⟩;have hbr9:=Fs.trans (mE.mono Fs.size);clear e1;go_wp2;go_ret
      exact⟨z8 HX.out.symm,hbr9⟩
 ·have e1:¬(0:Int)<(S.cs.length:Int):=o_
  have nD:Hid (decide (S.cs.length=0)=true):=h_ (aaR o_);clear C8
  go_wp2_with fail
  refine(J1 _ _ S.D.nn S.D.nl P _ (HH.out.dr.nn.below Hc) (HH.out.dr.nl.below Hc) nC.out).mono ?_
  rintro e w6 ⟨rfl,gk⟩;have gJ:=Hc.trans (gk.mono Hc.size);have CC:=gU.below gk gU.lt;have rd:=cd.below gk cd.lt;clear gk Hc gU cd x_0 x_1 x_2 x_3 x_4 x_5 x_6 x_7 n_0 n_1;have hXl6:=CC.lt;have hNl6:=rd.lt;obtain⟨x_0,x_1,x_2,x_3,x_4,x_5,x_6,x_7⟩:=CC.c8;obtain⟨n_0,n_1⟩:=rd.c2;have HAL:=h_ (fun k (hk:k<S.ds.length) (h:P<(dpI S.ds k).k)=>Qx hk h);have NH:=h_ (fun k (h:zO S.ds P k) h2=>xe (k:=k) h h2);have ro:=h_ (fun (h:zO S.ds P S.ds.length)=>yR h);clear x_0 x_1 x_2 x_3 x_4 x_5 x_6 x_7 n_0 n_1;obtain⟨x_0,x_1,x_2,x_3,x_4,x_5,x_6,x_7⟩:=CC.c8;obtain⟨n_0,n_1⟩:=rd.c2;go_wp2
  go_loopw [5] (fun y wr=>∃k:Nat,k<=S.ds.length/\y= .int .i64 k/\Hid (zO S.ds P k)/\Below w6.heap.size w6 wr) (fun y _=>S.ds.length -(intOf y).toNat)
  case atStart=>exact⟨0,aab _,rfl,h_ (fun j hj=>absurd hj o_),aaj _ _⟩
  case round=>
   obtain⟨k,hk,rfl,HT,Hb⟩:=hrel;clear x_0 x_1 x_2 x_3 x_4 x_5 x_6 x_7 n_0 n_1;have Fs:=gJ.trans (Hb.mono gJ.size);have nE:=CC.below Hb hXl6;have mf:=rd.below Hb hNl6;obtain⟨x_0,x_1,x_2,x_3,x_4,x_5,x_6,x_7⟩:=nE.c8;obtain⟨n_0,n_1⟩:=mf.c2
   by_cases Hd:k<S.ds.length
   ·obtain⟨b,off,rfl,hd⟩:=Ft.out o_
    have hd:=hd.below Fs;obtain⟨q0,q1,q2⟩:=hd.2 k Hd;have Hr:(k:Int)<(S.ds.length:Int):=o_
    have ik1:(0:Int)<=(k:Int):=o_
    have MG:=h_ (HAL.out k Hd);have fg:=h_ (NH.out k HT.out);clear hd;generalize dpI S.ds k=D at*
    by_cases hp:P<D.k
    ·have e1:decide (P<D.k)=true:=aaR hp
     have HX:Hid (ze S=false):=h_ (by rw[fO.out,MG.out hp];simp);clear hp;go_wp2;go_ret
     exact⟨z8 HX.out.symm,Fs⟩
    ·have e1:decide (P<D.k)=false:=aaP hp
     have HX:=h_ (fg.out o_);clear hp;go_wp2;go_roundw
     case rel=>exact⟨k+1,by omega,by go_num,HX,Hb⟩
     case measure=>simp[intOf];omega
   ·have Hw:k=S.ds.length:=o_
    subst Hw;have cL:=h_ (ro.out HT.out)
    by_cases mD:S.ds.length=0
    ·have HX:Hid (ze S=true):=h_ (by rw[fO.out,cL.out,nD.out,aaR mD];rfl)
     go_wp2;go_ret
     exact⟨z8 HX.out.symm,Fs⟩
    ·have HX:Hid (ze S=wB):=h_ (by rw[fO.out,cL.out,nD.out,aaP mD];cases wB<;>rfl)
     have e1:((S.ds.length:Int)==0)=false:=beq_eq_false_iff_ne.2 o_
     go_wp2_with fail
     refine(j7 _ _ S.D.nn S.D.nl wB _ (HH.out.dr.nn.below Fs) (HH.out.dr.nl.below Fs) Y7.out).mono ?_
     rintro e w9 ⟨rfl,mE⟩;have hbr9:=Fs.trans (mE.mono Fs.size);clear e1;go_wp2;go_ret
     exact⟨z8 HX.out.symm,hbr9⟩
theorem j8 (v0 v1 v2 v3 v4 v5 v6:Value) (S:St) (r:Bool) (w:World) (h:RSt w v0 v1 v2 v3 v4 v5 v6 S) (hx:Hid (ze S=r)):
  CB_ 70 #[.agg #[v0,v1,v2,v3,v4,v5,v6,.int .i64 S.fund]] w (.bool r):=by
 rw[<-hx.out];exact z8H v0 v1 v2 v3 v4 v5 v6 S w h
theorem qM (v0 v1 v2 v3 v4 v5 v6:Value) (S:St) (r:Bool) (w:World) (h:RSt w v0 v1 v2 v3 v4 v5 v6 S) (hx:Hid (ze S=r)):
  CB_ 17 #[.agg #[v0,v1,v2,v3,v4,v5,v6,.int .i64 S.fund]] w (.bool r):=by
 rw[<-hx.out];exact z8n v0 v1 v2 v3 v4 v5 v6 S w h
end Go.Proofs.YtnjcpljhmhdhkaaGreat
