/- part 11 -/
import Derived.Test.YtnjcpljhmhdhkaaGreatEPk10
set_option linter.unusedSimpArgs false
set_option linter.unusedVariables false
set_option maxRecDepth 100000
set_option maxHeartbeats 8000000
namespace Go.Proofs.YtnjcpljhmhdhkaaGreat
open Go.RowKit
theorem j8 (vn vl:Value) (ns ls:List Pr) (b:Bool) (w:World) (hn:RP w vn ns) (hl:RP w vl ls) (hb:ze ns ls=b):
  CB_ 79 #[.agg #[vn,vl]] w (.bool b):=by
 subst hb;exact z3u vn vl ns ls w hn hl
theorem jA {W:World} {v:Value} {t:TypeId} {g:Nat} (hg:g=W.heap.size):(W.alloc (.cells #[v] t)).cell? ⟨g,0,none⟩=some v:=(Blk.newAt hg).cell 0
theorem z3L:3≠4:=by decide
theorem OwnF.made {base g:Nat} {w:World} (hg:g=w.heap.size) (hb:base<=w.heap.size):OwnF base (w.alloc (.cells #[] 31)) (.slice (some ⟨g,0,none⟩) 0 0) []:=by
 subst hg;exact⟨[],rfl,World.ownsRow_made _ _ _ hb (by simp[maxLen]) (by simp),fun k hk=>absurd hk (by simp)⟩
theorem OwnF.grownNone {base:Nat} {w w':World} {v:Value} {F:List (List Nat)} (h:OwnF base w v F) (hg:w.grownBy w' none):OwnF base w' v F:=
 h.far hg (fun k hk=>by cases hk)
theorem OwnF.offType {base b2:Nat} {w w':World} {v u:Value} {F:List (List Nat)} {l:List Bool} (h:OwnF base w v F) (hs:OwnE 4 Value.bool b2 w u l) (hg:w.grownBy w' u.ownBlock):OwnF base w' v F:=by
 obtain⟨vs,h1,h2,h3⟩:=h
 have rm:OwnE 31 (fun x:Value=>x) base w v vs:=by
  unfold OwnE;rw[List.map_id',h1];exact h2
 refine⟨vs,h1,?_,fun k hk=>OwnE.other (t:=3) (enc:=vI) (h3 k hk) hs z3L hg⟩
 have:=OwnE.other rm hs (by decide) hg;unfold OwnE at this;rw[List.map_id',h1] at this;exact this
theorem jK (vn vl:Value) (ns ls:List Pr) (w:World) (hn:RP w vn ns) (hl:RP w vl ls):
  Calls Tryz.prog 145 #[.agg #[vn,vl]] w (RetF (z9 ns ls) w):=by
 obtain⟨An,cn,rfl,Fk,GL,_⟩:=hn.formI;obtain⟨Al,cl,rfl,Hy,Gz,_⟩:=hl.formI;unfold maxLen at GL Gz;have Hg:Below w.heap.size w (w.alloc (.cells #[.slice An ns.length cn,.slice Al ls.length cl] 27)):=bel_
 have gy:Blk (w.alloc (.cells #[.slice An ns.length cn,.slice Al ls.length cl] 27)) w.heap.size 27 #[.slice An ns.length cn,.slice Al ls.length cl]:=Blk.newAt rfl
 cases hw:ze ns ls
 ·have HR:Hid (z9 ns ls=[]):=h_ (by simp[z9,hw])
  go_enter Tryz.func145,Tryz.ntmps145
  go_wp2_with fail
  refine(j8 _ _ ns ls _ _ (hn.below Hg) (hl.below Hg) hw).mono ?_
  rintro e w1 ⟨rfl,h9⟩;have h8:=Hg.trans (h9.mono Hg.size);go_wp2;go_ret
  exact⟨_,rfl,by rw[HR.out];exact OwnF.nil _ _,h8⟩
 ·have HR:Hid (z9 ns ls=zE ns ls (2*ls.length)):=h_ (by simp[z9,hw];rfl)
  have Hh:=(zM hw).1;have fv:=(zM hw).2;have GD:=Hh.2.2.1;have Ho:∀j:Nat,j<ls.length->zv ns (ndI ls j)=true:=fun j hj=>(Hh.2.2.2.2.2 j hj).1
  obtain⟨i0,hi,iz0,iz1,iz2⟩:=info_parts Jj;have HWK:=h_ (fun (v:World) (d:Nat) (hv:Below w.heap.size w v) (hd:d<2*ls.length)=>z5i (.slice An ns.length cn) (.slice Al ls.length cl) ns ls d v (hn.below hv) (hl.below hv) hd Hh);have bH:=h_ (fun d hd=>xH (ns:=ns) Ho (d:=d) hd);have Nr:=h_ (fun d hd=>JT (ns:=ns) Ho (d:=d) hd);have Nt:=h_ (kP ns ls);have HFY:=h_ (fun m h=>vv (ns:=ns) (ls:=ls) (m:=m) h);have HFN:=h_ (fun m h=>k9 (ns:=ns) (ls:=ls) (m:=m) h);have Rq:Hid (zE ns ls 0=[]):=h_ rfl;have e2:2*(ls.length:Int)=((2*ls.length:Nat):Int):=o_
  clear Hh Ho
  go_enter Tryz.func145,Tryz.ntmps145
  go_wp2_with fail
  refine(j8 _ _ ns ls _ _ (hn.below Hg) (hl.below Hg) hw).mono ?_
  rintro e w1 ⟨rfl,h9⟩;have h8:=Hg.trans (h9.mono Hg.size);have Hz:=gy.below h9 gy.lt;have Ht:=Hz.lt;clear h9 Hg gy hw;obtain⟨a_0,a_1⟩:=Hz.c2;generalize Nm:2*ls.length=N at*;have Rr:N<=40:=o_
  go_wp2_with (at_make;refine wpList_make_full _ rfl _ _ 182 rfl (w.heap.size+1) 4 i0 (.bool false) 1 Tryz.underlying182 hi iz0 iz1 .i64 .i64 _ _ N rfl rfl rfl rfl (by rw[iz2];omega) (by unfold maxLen;omega) o_ ?_)
  intro w2 gY gL;have Hd:Below w.heap.size w w2:=h8.grown gL h8.size (by intro k hk;cases hk);have gM:Blk w2 w.heap.size 27 #[.slice An ns.length cn,.slice Al ls.length cl]:=(gL.block _ Ht (fun e=>by cases e)).trans Hz
  have G0:OwnE 4 Value.bool (w.heap.size+1) w2 (.slice (some ⟨w1.heap.size,0,none⟩) N N) ((List.range N).map (jk (zE ns ls 0))):=by
   unfold OwnE;rw[Rq.out,XK,aaC];rw[<-z6k];exact gY
  have CZ:OwnF (w1.heap.size+1) w2 (.slice none 0 0) []:=OwnF.nil _ _;have nS:=Ht;generalize w1.heap.size=gs at*;clear gY gL h8 Hz a_0 a_1 Ht;obtain⟨a_0,a_1⟩:=gM.c2;go_wp2
  go_loopw [4,19] (fun v x wr=>∃d:Nat,d<=N/\x= .int .i64 d/\OwnF (gs+1) wr v (zE ns ls d)/\OwnE 4 Value.bool (w.heap.size+1) wr (.slice (some ⟨gs,0,none⟩) N N) ((List.range N).map (jk (zE ns ls d)))/\Blk wr w.heap.size 27 #[.slice An ns.length cn,.slice Al ls.length cl]/\Below w.heap.size w wr) (fun _ x _=>N -(intOf x).toNat)
  case atStart=>exact⟨0,aab _,rfl,by rw[Rq.out];exact CZ,G0,gM,Hd⟩
  case round=>
   clear G0 gM Hd a_0 a_1;obtain⟨d,hd,rfl,ho,G0,hW,Hb⟩:=hrel;have gx:=hW.lt;have CW:gs<wr.heap.size:=(G0.lt gs rfl).2
   by_cases Hf:d<N
   ·have Hp:(d:Int)<(N:Int):=o_
    have hx:=G0.cell false (q:=d) (by simpa using Hf);rw[z4a Hf] at hx;have HY:=h_ (HFY.out d);have BO:=h_ (HFN.out d);have fc:=Nt.out d;generalize zE ns ls d=F at*;obtain⟨a_0,a_1⟩:=hW.c2
    cases hs:jk F d
    ·rw[hs] at hx
     have HS:=h_ (BO.out hs);clear hs
     go_wp2_with fail
     refine(HWK.out _ d Hb Hf).mono ?_
     rintro e w3 ⟨v3,rfl,Hm,He⟩;have Rs:=ho.kept He;have FC:=G0.kept He;have GA:=hW.below He gx;have gq:=Hb.trans (He.mono Hb.size);have Nu:OwnI (gs+1) w3 v3 (natI (qA ns ls d)):=Hm.mono o_;have HB:=h_ (bH.out d Hf);have hwl:=Nr.out d Hf;generalize qA ns ls d=f at*;obtain⟨A3,c3,rfl⟩:=Nu.form;rw[za] at Nu⊢;rw[<-z25 N F f] at FC;clear He Hm ho G0 hW Hb a_0 a_1 hx gx;go_wp2
     go_loopw [31] (fun x wr=>∃j:Nat,j<=f.length/\x= .int .i64 j/\OwnF (gs+1) wr u4 F/\OwnE 4 Value.bool (w.heap.size+1) wr (.slice (some ⟨gs,0,none⟩) N N) (mkS N F f j)/\OwnI (gs+1) wr (.slice A3 f.length c3) (natI f)/\Blk wr w.heap.size 27 #[.slice An ns.length cn,.slice Al ls.length cl]/\Below w.heap.size w wr) (fun x _=>f.length -(intOf x).toNat)
     case atStart=>exact⟨0,aab _,rfl,Rs,FC,Nu,GA,gq⟩
     case round=>
      clear Rs FC Nu GA gq;obtain⟨j,hj,rfl,ho,G0,hI,hW,Hb⟩:=hrel;have gx:=hW.lt
      by_cases FX:j<f.length
      ·have Rt:(j:Int)<(f.length:Int):=o_
       have ij1:(0:Int)<=(j:Int):=o_
       obtain⟨A4,c4,vJ,FG,hm4,Gf⟩:=hI.reads.form;rw[za] at vJ
       cases vJ
       rw[za] at Gf;obtain⟨b4,off4,rfl,Hw,fm⟩:=Gf o_;have hx:=fm j FX;rw[qs] at hx;have F3:f.getD j 0<N:=HB.out _ (by rw[List.getD,aac FX];exact abg FX);have GW:=h_ (z1b N F f j FX);generalize f.getD j 0=x at*;have ix1:(0:Int)<=(x:Int):=o_
       have ix2:(x:Int)<(N:Int):=o_
       have co:=G0.cell false (q:=x) (by rw[z0V];exact F3);obtain⟨z,hz⟩:∃z,wr.cell? ⟨gs,x,none⟩=some z:=⟨_,co⟩;have fx:=G0.frz x;have BP:Hid (OwnE 4 Value.bool (w.heap.size+1) (wr.setCell ⟨gs,x,none⟩ (.bool true)) (.slice (some ⟨gs,0,none⟩) N N) (mkS N F f (j+1))):=h_ (by rw[GW.out];exact G0.set_ x true);have BF:wr.grownBy (wr.setCell ⟨gs,x,none⟩ (.bool true)) (some gs):=qU (qW _ _) x _;have HOF:=h_ (ho.far BF (fun k hk=>by cases hk;omega));have HIF:=h_ (hI.far BF (fun k hk=>by cases hk;omega));have vP:=h_ (hW.far (p:=⟨gs,x,none⟩) (show ¬w.heap.size=gs by omega) (.bool true));have nP:=h_ (Hb.setCell (p:=⟨gs,x,none⟩) (show w.heap.size<=gs by omega) (.bool true));clear ho G0 hI hW Hb co BF fm Gf;go_wp2;go_roundw
       case rel=>exact⟨j+1,by omega,by go_num,HOF.out,BP.out,HIF.out,vP.out,nP.out⟩
       case measure=>simp[intOf];omega
      ·have GP:j=f.length:=o_
       subst GP;have BP:Hid (OwnE 4 Value.bool (w.heap.size+1) wr (.slice (some ⟨gs,0,none⟩) N N) ((List.range N).map (jk (F++[f])))):=h_ (by rw[<-z3Z];exact G0);have hgz4:gs<wr.heap.size:=(G0.lt gs rfl).2;clear G0
       go_wp2_with (at_builtin;refine vW rfl _ _ rfl (gs+1) _ (.slice A3 f.length c3) F f rfl wr.heap.size rfl (jA (by simp)) (ho.alloc _) (hI.alloc _) o_ (by simp;omega) ?_)
       intro v4 w4 hF4 Gc;have Cj:∀k,(u4:Value).ownBlock =some k->gs+1<=k/\k<wr.heap.size:=fun k hk=>ho.lt k hk
       have MA:Below w.heap.size w w4:=(Hb.alloc Hb.size (.cells #[.slice A3 f.length c3] 31)).grown Gc (by simp;have:=Hb.size;omega) (fun k hk=>by have:=(Cj k hk).1;omega);have BL:Blk w4 w.heap.size 27 #[.slice An ns.length cn,.slice Al ls.length cl]:=(Gc.block _ (by simp;omega) (fun e=>by have:=(Cj _ e.symm).1;omega)).trans (hW.alloc _)
       have Bp:OwnE 4 Value.bool (w.heap.size+1) w4 (.slice (some ⟨gs,0,none⟩) N N) ((List.range N).map (jk (F++[f]))):=by
        obtain⟨vs,g1,g2,g3⟩:=ho.alloc (.cells #[.slice A3 f.length c3] 31);exact OwnE.other (BP.out.alloc _) g2 (by decide) Gc
       clear ho hI hW Hb Gc Cj;go_wp2;go_roundw
       case rel=>exact⟨d+1,by omega,by go_num,by rw[HS.out];exact hF4,by rw[HS.out];exact Bp,BL,MA⟩
       case measure=>simp[intOf];omega
    ·rw[hs] at hx
     have HS:=h_ (HY.out hs);clear hs;go_wp2;go_roundw
     case rel=>exact⟨d+1,by omega,by go_num,by rw[HS.out];exact ho,by rw[HS.out];exact G0,hW,Hb⟩
     case measure=>simp[intOf];omega
   ·have Cf:d=N:=o_
    subst Cf;go_wp2;go_ret
    exact⟨_,rfl,by rw[HR.out];exact ho.mono o_,Hb⟩
theorem jJ (vn vl:Value) (ns ls:List Pr) (w:World) (hn:RP w vn ns) (hl:RP w vl ls):
  Calls Tryz.prog 121 #[.agg #[vn,vl]] w (RetF (z9 ns ls) w):=by
 obtain⟨An,cn,rfl,Fk,GL,_⟩:=hn.formI;obtain⟨Al,cl,rfl,Hy,Gz,_⟩:=hl.formI;unfold maxLen at GL Gz;have Hg:Below w.heap.size w ((w.alloc (.cells #[.slice An ns.length cn,.slice Al ls.length cl] 27)).alloc (.cells #[] 31)):=bel_
 have gy:Blk ((w.alloc (.cells #[.slice An ns.length cn,.slice Al ls.length cl] 27)).alloc (.cells #[] 31)) w.heap.size 27 #[.slice An ns.length cn,.slice Al ls.length cl]:=(Blk.newAt rfl).alloc _;have hOz:OwnF (w.heap.size+1) ((w.alloc (.cells #[.slice An ns.length cn,.slice Al ls.length cl] 27)).alloc (.cells #[] 31)) (.slice (some ⟨w.heap.size+1,0,none⟩) 0 0) []:=OwnF.made (by simp) (by simp)
 cases hw:ze ns ls
 ·have HR:Hid (z9 ns ls=[]):=h_ (by simp[z9,hw])
  go_enter Tryz.func121,Tryz.ntmps121
  go_wp2_with fail
  refine(qR _ _ ns ls _ _ (hn.below Hg) (hl.below Hg) hw).mono ?_
  rintro e w1 ⟨rfl,h9⟩;have h8:=Hg.trans (h9.mono Hg.size);have Nv:=hOz.kept h9;go_wp2;go_ret
  exact⟨_,rfl,by rw[HR.out];exact Nv.mono o_,h8⟩
 ·have HR:Hid (z9 ns ls=zE ns ls (2*ls.length)):=h_ (by simp[z9,hw];rfl)
  have Hh:=(zM hw).1;have fv:=(zM hw).2;have GD:=Hh.2.2.1;have Ho:∀j:Nat,j<ls.length->zv ns (ndI ls j)=true:=fun j hj=>(Hh.2.2.2.2.2 j hj).1
  obtain⟨i0,hi,iz0,iz1,iz2⟩:=info_parts Jj;have HWK:=h_ (fun (v:World) (d:Nat) (hv:Below w.heap.size w v) (hd:d<2*ls.length)=>z5t (.slice An ns.length cn) (.slice Al ls.length cl) ns ls d v (hn.below hv) (hl.below hv) hd Hh);have bH:=h_ (fun d hd=>xH (ns:=ns) Ho (d:=d) hd);have Nr:=h_ (fun d hd=>JT (ns:=ns) Ho (d:=d) hd);have Nt:=h_ (kP ns ls);have HFY:=h_ (fun m h=>vv (ns:=ns) (ls:=ls) (m:=m) h);have HFN:=h_ (fun m h=>k9 (ns:=ns) (ls:=ls) (m:=m) h);have Rq:Hid (zE ns ls 0=[]):=h_ rfl;have e2:2*(ls.length:Int)=((2*ls.length:Nat):Int):=o_
  clear Hh Ho
  go_enter Tryz.func121,Tryz.ntmps121
  go_wp2_with fail
  refine(qR _ _ ns ls _ _ (hn.below Hg) (hl.below Hg) hw).mono ?_
  rintro e w1 ⟨rfl,h9⟩;have h8:=Hg.trans (h9.mono Hg.size);have Hz:=gy.below h9 gy.lt;have Nv:=hOz.kept h9;have Ht:=Hz.lt;clear h9 Hg gy hw;obtain⟨a_0,a_1⟩:=Hz.c2;generalize Nm:2*ls.length=N at*;have Rr:N<=40:=o_
  go_wp2_with (at_make;refine wpList_make_full _ rfl _ _ 182 rfl (w.heap.size+1) 4 i0 (.bool false) 1 Tryz.underlying182 hi iz0 iz1 .i64 .i64 _ _ N rfl rfl rfl rfl (by rw[iz2];omega) (by unfold maxLen;omega) o_ ?_)
  intro w2 gY gL;have Hd:Below w.heap.size w w2:=h8.grown gL h8.size (by intro k hk;cases hk);have gM:Blk w2 w.heap.size 27 #[.slice An ns.length cn,.slice Al ls.length cl]:=(gL.block _ Ht (fun e=>by cases e)).trans Hz
  have G0:OwnE 4 Value.bool (w.heap.size+1) w2 (.slice (some ⟨w1.heap.size,0,none⟩) N N) ((List.range N).map (jk (zE ns ls 0))):=by
   unfold OwnE;rw[Rq.out,XK,aaC];rw[<-z6k];exact gY
  have CZ:OwnF (w.heap.size+1) w2 (.slice (some ⟨w.heap.size+1,0,none⟩) 0 0) []:=Nv.grownNone gL;clear hOz Nv;have nS:=Ht;generalize w1.heap.size=gs at*;clear gY gL h8 Hz a_0 a_1 Ht;obtain⟨a_0,a_1⟩:=gM.c2;go_wp2
  go_loopw [3,5] (fun v x wr=>∃d:Nat,d<=N/\x= .int .i64 d/\OwnF (w.heap.size+1) wr v (zE ns ls d)/\OwnE 4 Value.bool (w.heap.size+1) wr (.slice (some ⟨gs,0,none⟩) N N) ((List.range N).map (jk (zE ns ls d)))/\Blk wr w.heap.size 27 #[.slice An ns.length cn,.slice Al ls.length cl]/\Below w.heap.size w wr) (fun _ x _=>N -(intOf x).toNat)
  case atStart=>exact⟨0,aab _,rfl,by rw[Rq.out];exact CZ,G0,gM,Hd⟩
  case round=>
   clear G0 gM Hd a_0 a_1;obtain⟨d,hd,rfl,ho,G0,hW,Hb⟩:=hrel;have gx:=hW.lt
   by_cases Hf:d<N
   ·have Hp:(d:Int)<(N:Int):=o_
    have hx:=G0.cell false (q:=d) (by simpa using Hf);rw[z4a Hf] at hx;have HY:=h_ (HFY.out d);have BO:=h_ (HFN.out d);have fc:=Nt.out d;generalize zE ns ls d=F at*;obtain⟨a_0,a_1⟩:=hW.c2
    cases hs:jk F d
    ·rw[hs] at hx
     have HS:=h_ (BO.out hs);clear hs
     go_wp2_with fail
     refine(HWK.out _ d Hb Hf).mono ?_
     rintro e w3 ⟨v3,rfl,Hm,He⟩;have Rs:=ho.kept He;have FC:=G0.kept He;have GA:=hW.below He gx;have gq:=Hb.trans (He.mono Hb.size);have Nu:OwnI (w.heap.size+1) w3 v3 (natI (qA ns ls d)):=Hm.mono o_;have HB:=h_ (bH.out d Hf);have hwl:=Nr.out d Hf;generalize qA ns ls d=f at*;obtain⟨A3,c3,rfl⟩:=Nu.form;rw[za] at Nu⊢;rw[<-z25 N F f] at FC;clear He Hm ho G0 hW Hb a_0 a_1 hx gx;go_wp2
     go_loopw [7] (fun x wr=>∃j:Nat,j<=f.length/\x= .int .i64 j/\OwnF (w.heap.size+1) wr u3 F/\OwnE 4 Value.bool (w.heap.size+1) wr (.slice (some ⟨gs,0,none⟩) N N) (mkS N F f j)/\OwnI (w.heap.size+1) wr (.slice A3 f.length c3) (natI f)/\Blk wr w.heap.size 27 #[.slice An ns.length cn,.slice Al ls.length cl]/\Below w.heap.size w wr) (fun x _=>f.length -(intOf x).toNat)
     case atStart=>exact⟨0,aab _,rfl,Rs,FC,Nu,GA,gq⟩
     case round=>
      clear Rs FC Nu GA gq;obtain⟨j,hj,rfl,ho,G0,hI,hW,Hb⟩:=hrel;have gx:=hW.lt
      by_cases FX:j<f.length
      ·have Rt:(j:Int)<(f.length:Int):=o_
       have ij1:(0:Int)<=(j:Int):=o_
       obtain⟨A4,c4,vJ,FG,hm4,Gf⟩:=hI.reads.form;rw[za] at vJ
       cases vJ
       rw[za] at Gf;obtain⟨b4,off4,rfl,Hw,fm⟩:=Gf o_;have hx:=fm j FX;rw[qs] at hx;have F3:f.getD j 0<N:=HB.out _ (by rw[List.getD,aac FX];exact abg FX);have GW:=h_ (z1b N F f j FX);generalize f.getD j 0=x at*;have ix1:(0:Int)<=(x:Int):=o_
       have ix2:(x:Int)<(N:Int):=o_
       have co:=G0.cell false (q:=x) (by rw[z0V];exact F3);obtain⟨z,hz⟩:∃z,wr.cell? ⟨gs,x,none⟩=some z:=⟨_,co⟩;have fx:=G0.frz x;have BP:Hid (OwnE 4 Value.bool (w.heap.size+1) (wr.setCell ⟨gs,x,none⟩ (.bool true)) (.slice (some ⟨gs,0,none⟩) N N) (mkS N F f (j+1))):=h_ (by rw[GW.out];exact G0.set_ x true);have BF:wr.grownBy (wr.setCell ⟨gs,x,none⟩ (.bool true)) (some gs):=qU (qW _ _) x _;have HOF:=h_ (ho.offType G0 BF);have HIF:=h_ (OwnE.other (t:=3) (enc:=vI) hI G0 z3L BF);have vP:=h_ (hW.far (p:=⟨gs,x,none⟩) (show ¬w.heap.size=gs by omega) (.bool true));have nP:=h_ (Hb.setCell (p:=⟨gs,x,none⟩) (show w.heap.size<=gs by omega) (.bool true));clear ho G0 hI hW Hb co BF fm Gf;go_wp2;go_roundw
       case rel=>exact⟨j+1,by omega,by go_num,HOF.out,BP.out,HIF.out,vP.out,nP.out⟩
       case measure=>simp[intOf];omega
      ·have GP:j=f.length:=o_
       subst GP;have BP:Hid (OwnE 4 Value.bool (w.heap.size+1) wr (.slice (some ⟨gs,0,none⟩) N N) ((List.range N).map (jk (F++[f])))):=h_ (by rw[<-z3Z];exact G0);clear G0
       go_wp2_with (at_builtin;refine vW rfl _ _ rfl (w.heap.size+1) _ (.slice A3 f.length c3) F f rfl wr.heap.size rfl (jA (by simp)) (ho.alloc _) (hI.alloc _) o_ (by simp;omega) ?_)
       intro v4 w4 hF4 Gc;have Cj:∀k,(u3:Value).ownBlock =some k->w.heap.size+1<=k/\k<wr.heap.size:=fun k hk=>ho.lt k hk
       have MA:Below w.heap.size w w4:=(Hb.alloc Hb.size (.cells #[.slice A3 f.length c3] 31)).grown Gc (by simp;have:=Hb.size;omega) (fun k hk=>by have:=(Cj k hk).1;omega);have BL:Blk w4 w.heap.size 27 #[.slice An ns.length cn,.slice Al ls.length cl]:=(Gc.block _ (by simp;omega) (fun e=>by have:=(Cj _ e.symm).1;omega)).trans (hW.alloc _)
       have Bp:OwnE 4 Value.bool (w.heap.size+1) w4 (.slice (some ⟨gs,0,none⟩) N N) ((List.range N).map (jk (F++[f]))):=by
        obtain⟨vs,g1,g2,g3⟩:=ho.alloc (.cells #[.slice A3 f.length c3] 31);exact OwnE.other (BP.out.alloc _) g2 (by decide) Gc
       clear ho hI hW Hb Gc Cj;go_wp2;go_roundw
       case rel=>exact⟨d+1,by omega,by go_num,by rw[HS.out];exact hF4,by rw[HS.out];exact Bp,BL,MA⟩
       case measure=>simp[intOf];omega
    ·rw[hs] at hx
     have HS:=h_ (HY.out hs);clear hs;go_wp2;go_roundw
     case rel=>exact⟨d+1,by omega,by go_num,by rw[HS.out];exact ho,by rw[HS.out];exact G0,hW,Hb⟩
     case measure=>simp[intOf];omega
   ·have Cf:d=N:=o_
    subst Cf;go_wp2;go_ret
    exact⟨_,rfl,by rw[HR.out];exact ho.mono o_,Hb⟩
theorem RF.get {w:World} {v:Value} {F:List (List Nat)} (h:RF w v F):∃A c,v= .slice A F.length c/\F.length<=c/\F.length<=maxLen/\(0<F.length->∃b off,A=some ⟨b,off,none⟩/\b<w.heap.size/\∀k,k<F.length->∃u,w.cell? ⟨b,off+k,none⟩=some u/\RI w u (natI (F.getD k []))):=by
 obtain⟨vs,h1,h2⟩:=h;obtain⟨A,c,e1,e2,e3,e4⟩:=h1.get;refine⟨A,c,e1,e2,e3,fun hn=>?_⟩
 obtain⟨b,off,g1,g2,g3⟩:=e4 hn;exact⟨b,off,g1,g2,fun k hk=>⟨_,g3 k hk,h2 k hk⟩⟩
theorem VK (ns ls:List Pr) (f:List Nat) (k:Nat):yj ns ls f (k+1)=yj ns ls f k+yk ns ls (f.getD k 0):=rfl
theorem z1S (vn vl u:Value) (ns ls:List Pr) (f:List Nat) (w:World) (hn:RP w vn ns) (hl:RP w vl ls) (hu:RI w u (natI f)) (hf:∀e∈f,e<2*ls.length) (fc:f.length<=40) (Hh:zC ns ls):
  CB_ 209 #[.agg #[vn,vl],u] w (.int .i64 (z9X ns ls f)):=by
 have GD:=Hh.2.2.1;have Ho:∀j:Nat,j<ls.length->zv ns (ndI ls j)=true:=fun j hj=>(Hh.2.2.2.2.2 j hj).1
 obtain⟨An,cn,rfl,Fk,GL,Hl⟩:=hn.formI;obtain⟨bn,offn,rfl,Gd,Gj⟩:=Hl (by have:=Hh.1;omega);obtain⟨Au,cu,rfl,Vd,Vh,FP⟩:=hu.form;rw[za] at Vd Vh FP hu⊢;unfold maxLen at GL Vh;have bH:=h_ (fun k hk=>Vg Hh hf k hk);have HTO:=h_ (fun d (hd:d<2*ls.length)=>jG Ho hd);have Bs:=h_ (fun d (hd:d<2*ls.length)=>qE Ho hd);have nI:=h_ (fun t ht=>jV Hh.2.2.2.1 t ht);have U8:=h_ (VK ns ls f);have HA0:Hid (yj ns ls f 0=0):=h_ rfl;have Fo:=h_ Gj;have HCU:=h_ FP;have HTX:=h_ (fun (e:Nat) (he:e<2*ls.length)=>kG e o_);have HFM:=h_ hf;clear Hl Gj FP Hh Ho hf
 go_enter Tryz.func209,Tryz.ntmps209
 go_wp2
 go_loopw [5,12] (fun n x wr=>∃k:Nat,k<=f.length/\x= .int .i64 k/\n= .int .i64 (yj ns ls f k)/\Blk wr w.heap.size 27 #[.slice (some ⟨bn,offn,none⟩) ns.length cn,vl]/\Below w.heap.size w wr) (fun _ x _=>f.length -(intOf x).toNat)
 case atStart=>exact⟨0,aab _,rfl,by rw[HA0.out],Blk.newAt rfl,by exact bel_⟩
 case round=>
  obtain⟨k,hk,rfl,rfl,hW,Hb⟩:=hrel;have gx:=hW.lt
  by_cases Hf:k<f.length
  ·have Hp:(k:Int)<(f.length:Int):=o_
   have ik1:(0:Int)<=(k:Int):=o_
   obtain⟨b4,off4,rfl,Hw,fm⟩:=HCU.out o_;have FE:=fm k Hf;rw[qs] at FE;have hx:=(Hb.cell (p:=⟨b4,off4+k,none⟩) Hw).trans FE;have F3:f.getD k 0<2*ls.length:=HFM.out _ (by rw[List.getD,aac Hf];exact abg Hf);have MB:=h_ (U8.out k);have fE:=bH.out k hk;generalize f.getD k 0=d at*;obtain⟨u,mh,GK⟩:=HTO.out d F3;obtain⟨t,nL,CV⟩:=Bs.out d F3;obtain⟨a_0,a_1⟩:=hW.c2;have X2:=h_ (HTX.out d F3);have hpt:=js F3;have U0:=jt ls d;rw[mh] at U0;obtain⟨t0,t1⟩:=Fo.out t CV;obtain⟨u0,u1⟩:=Fo.out u GK;have Cx:Hid (∀v:World,Below wr.heap.size wr v->v.cell? ⟨w.heap.size,0,none⟩=some (.slice (some ⟨bn,offn,none⟩) ns.length cn)/\v.cell? ⟨w.heap.size,1,none⟩=some vl):=h_ (fun v hv=>⟨(hv.cell (p:=⟨w.heap.size,0,none⟩) gx).trans a_0,(hv.cell (p:=⟨w.heap.size,1,none⟩) gx).trans a_1⟩)
   go_wp2_with fail
   refine jm (n:=18) (S:=fun v=>v.cell? ⟨w.heap.size,0,none⟩=some (.slice (some ⟨bn,offn,none⟩) ns.length cn)/\v.cell? ⟨w.heap.size,1,none⟩=some vl) k_ (Cx.out _ (aaj _ _).drew) (fun hS=>?_)
   refine tE_ 0 rfl rfl ?_;(try simp only[Act.put,abi,aal,aap])
   refine tE_ 1 rfl rfl ?_;(try simp only[Act.put,abi,aal,aap])
   refine tE_ 2 rfl rfl ?_;(try simp only[Act.put,abi,aal,aap])
   refine tE_ 3 rfl rfl ?_;(try simp only[Act.put,abi,aal,aap])
   refine tE_ 7 rfl rfl ?_;(try simp only[Act.put,abi,aal,aap])
   refine tE_ 8 rfl rfl ?_;(try simp only[Act.put,abi,aal,aap])
   refine tE_ 9 rfl rfl ?_;(try simp only[Act.put,abi,aal,aap])
   refine tE_ 10 rfl rfl ?_;(try simp only[Act.put,abi,aal,aap])
   refine tE_ 11 rfl rfl ?_;(try simp only[Act.put,abi,aal,aap])
   rw[X2.out];have HC:=h_ (fun (v:World) (hb:Below wr.heap.size wr v)=>yF (.slice (some ⟨bn,offn,none⟩) ns.length cn) vl ls d v (hl.below (Hb.trans (hb.mono Hb.size))) F3);have HD:=h_ (fun (v:World) (hb:Below wr.heap.size wr v)=>yF (.slice (some ⟨bn,offn,none⟩) ns.length cn) vl ls (twin d) v (hl.below (Hb.trans (hb.mono Hb.size))) hpt);rw[nL] at HC;rw[U0] at HD;have Nw:bn<wr.heap.size:=aaD Gd Hb.size;have HT:Hid (∀v:World,Below wr.heap.size wr v->v.cell? ⟨bn,offn+t*2,none⟩=some (.int .i64 (ndI ns t).1)/\v.cell? ⟨bn,offn+t*2+1,none⟩=some (.int .i64 (ndI ns t).2)):=h_ (fun v hv=>⟨(hv.cell (p:=⟨bn,offn+t*2,none⟩) Nw).trans ((Hb.cell (p:=⟨bn,offn+t*2,none⟩) Gd).trans t0),(hv.cell (p:=⟨bn,offn+t*2+1,none⟩) Nw).trans ((Hb.cell (p:=⟨bn,offn+t*2+1,none⟩) Gd).trans t1)⟩);have HU:Hid (∀v:World,Below wr.heap.size wr v->v.cell? ⟨bn,offn+u*2,none⟩=some (.int .i64 (ndI ns u).1)/\v.cell? ⟨bn,offn+u*2+1,none⟩=some (.int .i64 (ndI ns u).2)):=h_ (fun v hv=>⟨(hv.cell (p:=⟨bn,offn+u*2,none⟩) Nw).trans ((Hb.cell (p:=⟨bn,offn+u*2,none⟩) Gd).trans u0),(hv.cell (p:=⟨bn,offn+u*2+1,none⟩) Nw).trans ((Hb.cell (p:=⟨bn,offn+u*2+1,none⟩) Gd).trans u1)⟩);have HS:Hid (∀v:World,Below wr.heap.size wr v->v.cell? ⟨w.heap.size,0,none⟩=some (.slice (some ⟨bn,offn,none⟩) ns.length cn)/\v.cell? ⟨w.heap.size,1,none⟩=some vl):=Cx
   have Ni:Hid (yk ns ls d=(ndI ns t).1*(ndI ns u).2 -(ndI ns t).2*(ndI ns u).1):=h_ (by unfold yk;rw[nL,mh]);obtain⟨p0,p1,p2,p3⟩:=zD (nI.out t CV);obtain⟨q0,q1,q2,q3⟩:=zD (nI.out u GK);have it1:(0:Int)<=(t:Int):=o_
   have it2:(t:Int)<(ns.length:Int):=o_
   have iu1:(0:Int)<=(u:Int):=o_
   have iu2:(u:Int)<(ns.length:Int):=o_
   generalize twin d=pe at*;clear Cx t0 t1 u0 u1 nL mh U0
   refine z3J (n:=18) (Inv:=fun L a v=>∃v8 v9 v20 v21 v22 v28 v29 v30,a= {
     tmps:= #[.agg #[.slice (some ⟨bn,offn,none⟩) ns.length cn,vl],.slice (some ⟨b4,off4,none⟩) f.length cu,.pointer (some ⟨w.heap.size,0,none⟩),undef,.int .i64 0,.int .i64 (yj ns ls f k),undef,.int .i64 d,v8,v9,
      .slice (some ⟨b4,off4,none⟩) f.length cu,.int .i64 f.length,.int .i64 k,.bool true,.pointer (some ⟨b4,off4+k,none⟩),.int .i64 d,.pointer (some ⟨w.heap.size,0,none⟩),.slice (some ⟨bn,offn,none⟩) ns.length cn,.agg #[.slice (some ⟨bn,offn,none⟩) ns.length cn,vl],.int .i64 d,v20,v21,v22,
      .pointer (some ⟨w.heap.size,0,none⟩),.slice (some ⟨bn,offn,none⟩) ns.length cn,.agg #[.slice (some ⟨bn,offn,none⟩) ns.length cn,vl],.int .i64 d,.int .i64 pe,v28,v29,v30,
      u31,u32,u33,u34,u35,u36,u37,u38,u39,u40,u41,u42,u43,u44,undef],defers:=[] }/\
     Below wr.heap.size wr v/\(∀j∈ [0,1,2,3,7,8,9,10,11],tk L j=true)/\
     Aft L 4 (v20= .int .i64 t)/\Aft L 5 (v21= .pointer (some ⟨bn,offn+t*2,none⟩))/\Aft L 6 (v22= .agg #[.int .i64 (ndI ns t).1,.int .i64 (ndI ns t).2])/\
     Aft L 12 (v28= .int .i64 u)/\Aft L 13 (v29= .pointer (some ⟨bn,offn+u*2,none⟩))/\Aft L 14 (v30= .agg #[.int .i64 (ndI ns u).1,.int .i64 (ndI ns u).2])/\
     One L 15 17 wr.heap.size 106 #[.int .i64 0,.int .i64 0] #[.int .i64 (ndI ns t).1,.int .i64 (ndI ns t).2] v8 v/\
     One L 16 18 wr.heap.size 106 #[.int .i64 0,.int .i64 0] #[.int .i64 (ndI ns u).1,.int .i64 (ndI ns u).2] v9 v/\
     Apart2 L 15 16 v8 v9) (by decide) k_ k_ ?_ ?_ 10 _ _ _ rfl ?_ k_ ?_
   ·intro L a v hI i hi hr
    obtain⟨v8,v9,v20,v21,v22,v28,v29,v30,rfl,hb,GF,f4,f5,f6,f12,f13,f14,o8,o9,p89⟩:=hI;have GK:=V0 hr;have No:=HS.out v hb
    rcases(show i=4∨i=5∨i=6∨i=12∨i=13∨i=14∨i=15∨i=16∨i=17∨i∈ [0,1,2,3,7,8,9,10,11] by simp only[List.mem_cons,List.mem_nil_iff,or_false];omega) with rfl|rfl|rfl|rfl|rfl|rfl|rfl|rfl|rfl|hm
    ·--4
     refine qF rfl (fun K hK=>?_)
     rw[aao (by rfl)];go_simp
     go_at_call 241
     refine(HC.out _ hb).mono ?_
     rintro en w1 ⟨rfl,h9⟩
     go_wp2_with fail
     have H8:=hb.trans (h9.mono hb.size);exact⟨HS.out _ H8,_,_,_,_,_,_,_,_,rfl,H8,preS GF,Aft.new rfl,f5.keep (by decide),f6.keep (by decide),f12.keep (by decide),f13.keep (by decide),f14.keep (by decide),o8.step (by decide) (by decide) h9,o9.step (by decide) (by decide) h9,p89.step (by decide) (by decide)⟩
    ·--5
     obtain rfl:=f4 (qX hr rfl k_);refine qF rfl (fun K hK=>?_)
     rw[aao (by rfl)];go_simp;exact hK _ _ ⟨No,_,_,_,_,_,_,_,_,rfl,hb,preS GF,f4.keep (by decide),Aft.new rfl,f6.keep (by decide),f12.keep (by decide),f13.keep (by decide),f14.keep (by decide),o8.step (by decide) (by decide) (aaj _ _),o9.step (by decide) (by decide) (aaj _ _),p89.step (by decide) (by decide)⟩
    ·--6
     obtain rfl:=f5 (qX hr rfl k_);obtain⟨c0,c1⟩:=HT.out v hb;refine qF rfl (fun K hK=>?_)
     rw[aao (by rfl)];go_simp;exact hK _ _ ⟨No,_,_,_,_,_,_,_,_,rfl,hb,preS GF,f4.keep (by decide),f5.keep (by decide),Aft.new rfl,f12.keep (by decide),f13.keep (by decide),f14.keep (by decide),o8.step (by decide) (by decide) (aaj _ _),o9.step (by decide) (by decide) (aaj _ _),p89.step (by decide) (by decide)⟩
    ·--12
     refine qF rfl (fun K hK=>?_)
     rw[aao (by rfl)];go_simp
     go_at_call 241
     refine(HD.out _ hb).mono ?_
     rintro en w1 ⟨rfl,h9⟩
     go_wp2_with fail
     have H8:=hb.trans (h9.mono hb.size);exact⟨HS.out _ H8,_,_,_,_,_,_,_,_,rfl,H8,preS GF,f4.keep (by decide),f5.keep (by decide),f6.keep (by decide),Aft.new rfl,f13.keep (by decide),f14.keep (by decide),o8.step (by decide) (by decide) h9,o9.step (by decide) (by decide) h9,p89.step (by decide) (by decide)⟩
    ·--13
     obtain rfl:=f12 (qX hr rfl k_);refine qF rfl (fun K hK=>?_)
     rw[aao (by rfl)];go_simp;exact hK _ _ ⟨No,_,_,_,_,_,_,_,_,rfl,hb,preS GF,f4.keep (by decide),f5.keep (by decide),f6.keep (by decide),f12.keep (by decide),Aft.new rfl,f14.keep (by decide),o8.step (by decide) (by decide) (aaj _ _),o9.step (by decide) (by decide) (aaj _ _),p89.step (by decide) (by decide)⟩
    ·--14
     obtain rfl:=f13 (qX hr rfl k_);obtain⟨c0,c1⟩:=HU.out v hb;refine qF rfl (fun K hK=>?_)
     rw[aao (by rfl)];go_simp;exact hK _ _ ⟨No,_,_,_,_,_,_,_,_,rfl,hb,preS GF,f4.keep (by decide),f5.keep (by decide),f6.keep (by decide),f12.keep (by decide),f13.keep (by decide),Aft.new rfl,o8.step (by decide) (by decide) (aaj _ _),o9.step (by decide) (by decide) (aaj _ _),p89.step (by decide) (by decide)⟩
    ·--15
     refine qF rfl (fun K hK=>?_)
     rw[aao (by rfl)];go_simp;have h9:Below v.heap.size v (v.alloc (.cells #[.int .i64 0,.int .i64 0] 106)):=(aaj _ _).alloc (aaa _) _;have H8:=hb.trans (h9.mono hb.size);exact hK _ _ ⟨HS.out _ H8,_,_,_,_,_,_,_,_,rfl,H8,preS GF,f4.keep (by decide),f5.keep (by decide),f6.keep (by decide),f12.keep (by decide),f13.keep (by decide),f14.keep (by decide),o8.lay GK (by decide) hb.size,o9.step (by decide) (by decide) h9,Apart2.newL o9 (by decide)⟩
    ·--16
     refine qF rfl (fun K hK=>?_)
     rw[aao (by rfl)];go_simp;have h9:Below v.heap.size v (v.alloc (.cells #[.int .i64 0,.int .i64 0] 106)):=(aaj _ _).alloc (aaa _) _;have H8:=hb.trans (h9.mono hb.size);exact hK _ _ ⟨HS.out _ H8,_,_,_,_,_,_,_,_,rfl,H8,preS GF,f4.keep (by decide),f5.keep (by decide),f6.keep (by decide),f12.keep (by decide),f13.keep (by decide),f14.keep (by decide),o8.step (by decide) (by decide) h9,o9.lay GK (by decide) hb.size,Apart2.newR o8 (by decide)⟩
    ·--17
     have h15:=qX (j:=15) hr rfl k_;obtain⟨g,rfl,hg,hB⟩:=o8.zero h15 GK;obtain rfl:=f6 (qX hr rfl k_);obtain⟨b_0,b_1,b_f0,b_f1⟩:=hB.b2;refine qF rfl (fun K hK=>?_)
     rw[aao (by rfl)];go_simp;have H8:=(hb.setCell (p:=⟨g,0,none⟩) hg (.int .i64 (ndI ns t).1)).setCell (p:=⟨g,1,none⟩) hg (.int .i64 (ndI ns t).2);exact hK _ _ ⟨HS.out _ H8,_,_,_,_,_,_,_,_,rfl,H8,preS GF,f4.keep (by decide),f5.keep (by decide),f6.keep (by decide),f12.keep (by decide),f13.keep (by decide),f14.keep (by decide),o8.fill h15 GK rfl (by decide),o9.far (by decide) (by decide) (fun h=>(p89 h15 h).symm) 0 1 _ _,p89.step (by decide) (by decide)⟩
    ·rw[GF i hm] at GK;cases GK
   ·intro a v hI
    obtain⟨v8,v9,v20,v21,v22,v28,v29,v30,rfl,hb,GF,f4,f5,f6,f12,f13,f14,o8,o9,p89⟩:=hI;obtain rfl:=f14 k_;obtain⟨g9,rfl,U4,hB⟩:=o9.zero k_ k_;obtain⟨g8,rfl,hg8,U5⟩:=o8.full k_;have n8:g8≠g9:=fun h=>p89 k_ k_ (by rw[h])
    obtain⟨b_0,b_1,b_f0,b_f1⟩:=hB.b2;refine zL (fuel:=0) (n:=18) (i:=18) rfl k_ (fun K hK=>?_)
    rw[aao (by rfl)];go_simp;refine hK _ _ (fun h=>absurd h (by decide)) (fun _=>?_)
    clear hK K;refine yv k_ ?_ _
    have H8:=(hb.setCell (p:=⟨g9,0,none⟩) U4 (.int .i64 (ndI ns u).1)).setCell (p:=⟨g9,1,none⟩) U4 (.int .i64 (ndI ns u).2)
    have Ri:Blk ((v.setCell ⟨g9,0,none⟩ (.int .i64 (ndI ns u).1)).setCell ⟨g9,1,none⟩ (.int .i64 (ndI ns u).2)) g9 106 #[.int .i64 (ndI ns u).1,.int .i64 (ndI ns u).2]:=by
     have:=(hB.set_ 0 (.int .i64 (ndI ns u).1)).set_ 1 (.int .i64 (ndI ns u).2)
     simpa using this
    have Rj:=(U5.far (p:=⟨g9,0,none⟩) n8 (.int .i64 (ndI ns u).1)).far (p:=⟨g9,1,none⟩) n8 (.int .i64 (ndI ns u).2);generalize ((v.setCell ⟨g9,0,none⟩ (.int .i64 (ndI ns u).1)).setCell ⟨g9,1,none⟩ (.int .i64 (ndI ns u).2))=w3 at*;have hWW:=hW.below H8 gx;have gj:=Hb.trans (H8.mono Hb.size);clear hB U5 b_0 b_1 b_f0 b_f1 hb o8 o9 p89 f4 f5 f6 f12 f13 f14 GF HC HD HT HU HS hW Hb hS a_0 a_1;obtain⟨c_0,c_1,c_f0,c_f1⟩:=Rj.b2;obtain⟨e_0,e_1,e_f0,e_f1⟩:=Ri.b2;generalize (ndI ns t).1=X at*;generalize (ndI ns t).2=Y at*;generalize (ndI ns u).1=U at*;generalize (ndI ns u).2=V at*;have m1:=vY (u:=X) (v:=V) o_ o_ o_ o_;have m2:=vY (u:=Y) (v:=U) o_ o_ o_ o_;obtain⟨m1a,m1b⟩:=m1;obtain⟨m2a,m2b⟩:=m2;obtain⟨ba,bb⟩:=fE;go_wp2;go_roundw
    case rel=>
     have mr:∃k':Nat,k'<=f.length/\Value.int .i64 ((k:Int)+1)= .int .i64 k'/\Value.int .i64 (yj ns ls f k+(X*V -Y*U))= .int .i64 (yj ns ls f k')/\Blk w3 w.heap.size 27 #[.slice (some ⟨bn,offn,none⟩) ns.length cn,vl]/\Below w.heap.size w w3:=⟨k+1,by omega,by go_num,by rw[MB.out,Ni.out],hWW,gj⟩
     first|exact mr|((repeat apply Exists.intro);exact⟨mr,rfl⟩)
    case measure=>simp[intOf];omega
   ·intro j h1 h2
    have:j=18:=by
     have h3:j<19:=h2;omega
    subst this;rfl
   ·refine⟨_,_,_,_,_,_,_,_,rfl,(aaj _ _).drew,by decide,Aft.no rfl,Aft.no rfl,Aft.no rfl,Aft.no rfl,Aft.no rfl,Aft.no rfl,One.start rfl rfl,One.start rfl rfl,Apart2.start rfl⟩
  ·have gi:k=f.length:=o_
   subst gi;have HR:Hid (z9X ns ls f=yj ns ls f f.length):=h_ rfl;go_wp2;go_ret
   exact⟨zo HR.out.symm,Hb⟩
def qz (F:List (List Nat)) (d:Nat):Nat:=F.findIdx (·.contains d)
theorem yg {F:List (List Nat)} {d:Nat} (h:d∈F.flatten):qz F d<F.length/\d∈F.getD (qz F d) []:=by
 rw[List.mem_flatten] at h;obtain⟨f,hf,hd⟩:=h;have h1:qz F d<F.length:=List.findIdx_lt_length_of_exists ⟨f,hf,by simpa using hd⟩;refine⟨h1,?_⟩
 have h2:(F[qz F d]'h1).contains d=true:=List.findIdx_getElem (w:=h1);rw[List.getD,aac h1]
 simpa using h2
theorem yr:∀ {F:List (List Nat)},F.flatten.Nodup->∀ {i j d:Nat},i<F.length->j<F.length->d∈F.getD i []->d∈F.getD j []->i=j
 | [],_,i,j,d,hi,_,_,_=>absurd hi (by simp)
 |f::F,hn,i,j,d,hi,hj,h1,h2=>by
  rw[List.flatten_cons,List.nodup_append] at hn;obtain⟨_,CT,YK⟩:=hn
  have mem:∀k,k<F.length->d∈F.getD k []->d∈F.flatten:=fun k hk hd=>by
   rw[List.mem_flatten];rw[List.getD,aac hk] at hd;exact⟨F[k],abg hk,by simpa using hd⟩
  match i,j with
  |0,0=>rfl
  |0,j+1=>exact absurd rfl (YK d (by simpa using h1) d (mem j (by simpa using hj) (by simpa using h2)))
  |i+1,0=>exact absurd rfl (YK d (by simpa using h2) d (mem i (by simpa using hi) (by simpa using h1)))
  |i+1,j+1=>rw[yr CT (show i<F.length by simpa using hi) (show j<F.length by simpa using hj) (by simpa using h1) (by simpa using h2)]
section
variable {ns ls:List Pr} (Ho:∀j:Nat,j<ls.length->zv ns (ndI ls j)=true)
include Ho
theorem z2F {f d:Nat} (hf:f<(zg ns ls).length) (hd:d∈(zg ns ls).getD f []):qz (zg ns ls) d=f:=by
 obtain⟨_,h2,_⟩:=qV Ho (2*ls.length) (aaa _)
 have hm:d∈(zg ns ls).flatten :=by
  rw[List.mem_flatten];rw[List.getD,aac hf] at hd;exact⟨_,abg hf,by simpa using hd⟩
 obtain⟨g1,g2⟩:=yg hm;exact yr h2 g1 hf g2 hd
theorem z2T {d:Nat} (hd:d<2*ls.length):qz (zg ns ls) (j5 ns ls d)=qz (zg ns ls) d:=by
 obtain⟨h1,h2,h3⟩:=qV Ho (2*ls.length) (aaa _);obtain⟨g1,g2⟩:=yg (h1 d hd);refine z2F Ho g1 ?_
 have hm:(zE ns ls (2*ls.length)).getD (qz (zE ns ls (2*ls.length)) d) []∈zE ns ls (2*ls.length):=by
  rw[List.getD,aac g1];exact abg g1
 obtain⟨e,he,hw⟩:=h3 _ hm;rw[hw] at g2
 show j5 ns ls d∈(zE ns ls (2*ls.length)).getD (qz (zE ns ls (2*ls.length)) d) []
 rw[hw];obtain⟨i,hi⟩:=(yq Ho he d).1 g2;exact(yq Ho he _).2 ⟨i+1,by rw[<-hi];rfl⟩
theorem z2q {f:Nat} (hf:f<(zg ns ls).length):∃d,d<2*ls.length/\qz (zg ns ls) d=f:=by
 obtain⟨_,_,h3⟩:=qV Ho (2*ls.length) (aaa _);obtain⟨e,he,hw⟩:=h3 _ (abg hf);refine⟨e,he,z2F Ho hf ?_⟩
 have hw':(zg ns ls)[f]=qA ns ls e:=hw;rw[List.getD,aac hf,Option.getD_some,hw'];exact Xx Ho he
end
theorem z8x (g:Nat->Int) (bf:Nat->Bool) (d:Nat) (G:List Nat):((insN bf d G).map g).sum =g d+(G.map g).sum :=by
 unfold insN;have hs:=abo (posN bf G G.length) G;generalize G.take (posN bf G G.length)=a at*;generalize G.drop (posN bf G G.length)=b at*;subst hs;simp only[aaz,List.sum_append,aaS,List.sum_cons]
 omega
theorem z14 (ns ls:List Pr) (g:Nat->Int) (k:Nat):∀m,((ardS ns ls k m).map g).sum =sumR m (fun d=>if zc ls d=(k:Int) then g d else 0)
 |0=>by simp[ardS,sumR]
 |m+1=>by
  simp only[sumR]
  by_cases h:zc ls m=k
  ·rw[kt h,z8x,z14 ns ls g k m,aao h];omega
  ·rw[xQ h,z14 ns ls g k m,aaq h];omega
theorem z3K {ns ls:List Pr} {k i:Nat} (hi:i<(ardS ns ls k (2*ls.length)).length):
  yU ns ls ((ardS ns ls k (2*ls.length)).getD i 0)=(ardS ns ls k (2*ls.length)).getD ((i+(ardS ns ls k (2*ls.length)).length -1)%(ardS ns ls k (2*ls.length)).length) 0:=by
 have hm:(ardS ns ls k (2*ls.length)).getD i 0∈ardS ns ls k (2*ls.length):=by
  rw[List.getD,aac hi];exact abg hi
 obtain⟨h1,h2⟩:=(y9 ns ls k _ _).1 hm
 have hr:qG ns ls ((ardS ns ls k (2*ls.length)).getD i 0)=ardS ns ls k (2*ls.length):=by
  unfold qG;rw[h2,aa5]
 unfold yU;rw[hr]
 have hx:(ardS ns ls k (2*ls.length)).idxOf ((ardS ns ls k (2*ls.length)).getD i 0)=i:=by
  rw[List.getD,aac hi];simp only[Option.getD_some]
  have Hf:=abt (abg hi);exact(List.getElem_inj (vu ns ls k (2*ls.length))).1 (List.getElem_idxOf Hf)
 rw[hx]
theorem z6s (ns ls:List Pr) (g:Nat->Int) (k:Nat):((ardS ns ls k (2*ls.length)).map (fun e=>g (yU ns ls e))).sum =((ardS ns ls k (2*ls.length)).map g).sum :=by
 rw[V8,V8,<-z60 (fun i=>g ((ardS ns ls k (2*ls.length)).getD i 0))];exact yI _ (fun i hi=>by rw[z3K hi])
theorem z5e {ns ls:List Pr} {g:Nat->Int} (hg:∀d,d<2*ls.length->g (j5 ns ls d)=g d) (k:Nat):
  sumR (2*ls.length) (fun d=>if zc ls d=(k:Int) then g d -g (twin d) else 0)=0:=by
 rw[<-z14 ns ls (fun d=>g d -g (twin d)) k]
 have h1:((ardS ns ls k (2*ls.length)).map (fun d=>g d -g (twin d))).sum =((ardS ns ls k (2*ls.length)).map g).sum -((ardS ns ls k (2*ls.length)).map (fun d=>g (twin d))).sum :=by
  generalize ardS ns ls k (2*ls.length)=R
  induction R with
  |nil=>rfl
  |cons a R ih=>simp only[aaS,List.sum_cons] at ih⊢;omega
 rw[h1]
 have h2:(ardS ns ls k (2*ls.length)).map (fun d=>g (twin d))=(ardS ns ls k (2*ls.length)).map (fun e=>g (yU ns ls e)):=by
  refine List.map_congr_left (fun e he=>?_)
  have hd:=((y9 ns ls k _ _).1 he).1;have:=hg (twin e) (js hd);unfold j5 at this;rw[vo] at this;exact this.symm
 rw[h2,z6s ns ls];omega
section
variable {ns ls:List Pr} (Ho:∀j:Nat,j<ls.length->zv ns (ndI ls j)=true)
include Ho
theorem z6M {g:Nat->Int} (hg:∀d,d<2*ls.length->g (j5 ns ls d)=g d) (X:Nat->Int):
  sumR ls.length (fun j=>(X (zc ls (2*j)).toNat -X (dTo ls (2*j)).toNat)*(g (2*j) -g (2*j+1)))=0:=by
 have h0:sumR ns.length (fun v=>sumR (2*ls.length) (fun d=>if (v:Nat)=(zc ls d).toNat then X v*(g d -g (twin d)) else 0))=0:=by
  refine Zp _ (fun v hv=>?_)
  have h:=z5e hg v
  have e:sumR (2*ls.length) (fun d=>if (v:Nat)=(zc ls d).toNat then X v*(g d -g (twin d)) else 0)=X v*sumR (2*ls.length) (fun d=>if zc ls d=(v:Int) then g d -g (twin d) else 0):=by
   have hm:∀m,m<=2*ls.length->sumR m (fun d=>if (v:Nat)=(zc ls d).toNat then X v*(g d -g (twin d)) else 0)=X v*sumR m (fun d=>if zc ls d=(v:Int) then g d -g (twin d) else 0):=by
    intro m
    induction m with
    |zero=>intro _;simp[sumR]
    |succ m ih=>
     intro hm;simp only[sumR]
     rw[ih o_,Int.mul_add];obtain⟨t,ht,_⟩:=qE Ho (show m<2*ls.length by omega)
     by_cases Uz:t=v
     ·rw[aao (by rw[ht,aa5];exact Uz.symm),aao (by rw[ht,Uz])]
     ·rw[aaq (by rw[ht,aa5];exact fun h=>Uz h.symm),aaq (by rw[ht];omega),Int.mul_zero]
   exact hm _ (aaa _)
  rw[e,h,Int.mul_zero]
 rw[XY] at h0
 have h1:sumR (2*ls.length) (fun d=>sumR ns.length (fun v=>if v=(zc ls d).toNat then X v*(g d -g (twin d)) else 0))=sumR (2*ls.length) (fun d=>X (zc ls d).toNat *(g d -g (twin d))):=by
  refine yI _ (fun d hd=>?_)
  obtain⟨t,ht,hl⟩:=qE Ho hd;rw[Zd (fun v=>X v*(g d -g (twin d))) (zc ls d).toNat ns.length,aao (by rw[ht,aa5];exact hl)]
 rw[h1,z2x] at h0;rw[<-h0];refine yI _ (fun j hj=>?_)
 have t1:twin (2*j)=2*j+1:=by unfold twin;rw[aao o_]
 have t2:twin (2*j+1)=2*j:=by unfold twin;rw[aaq o_];omega
 have t3:zc ls (2*j+1)=dTo ls (2*j):=by rw[<-t1,jt]
 rw[t1,t2,t3,Int.sub_mul]
 have:X (dTo ls (2*j)).toNat *(g (2*j+1) -g (2*j))= -(X (dTo ls (2*j)).toNat *(g (2*j) -g (2*j+1))):=by
  rw[<-Int.mul_neg];congr 1;omega
 omega
theorem Z7 {g:Nat->Int} (hg:∀d,d<2*ls.length->g (j5 ns ls d)=g d) (ht:∀d,d<2*ls.length->g (twin d)=g d) {d e:Nat} (hd:d<2*ls.length) (he:e<2*ls.length) (hf:zc ls d=zc ls e):g d=g e:=by
 obtain⟨k,hk,_⟩:=qE Ho hd
 have key:∀i,i<(ardS ns ls k (2*ls.length)).length ->g ((ardS ns ls k (2*ls.length)).getD i 0)=g ((ardS ns ls k (2*ls.length)).getD 0 0):=by
  intro i
  induction i with
  |zero=>intro _;rfl
  |succ i ih=>
   intro hi;rw[<-ih o_];have h1:=z3K (ns:=ns) (ls:=ls) hi;rw[show i+1+(ardS ns ls k (2*ls.length)).length -1=i+(ardS ns ls k (2*ls.length)).length by omega,Nat.add_mod_right,abu o_] at h1;rw[<-h1]
   have hm:(ardS ns ls k (2*ls.length)).getD (i+1) 0∈ardS ns ls k (2*ls.length):=by
    rw[List.getD,aac hi];exact abg hi
   have hl:=((y9 ns ls k _ _).1 hm).1;generalize (ardS ns ls k (2*ls.length)).getD (i+1) 0=x at*;have h2:=hg (twin x) (js hl);unfold j5 at h2;rw[vo] at h2;rw[h2,ht x hl]
 have at':∀x,x<2*ls.length->zc ls x=k->g x=g ((ardS ns ls k (2*ls.length)).getD 0 0):=by
  intro x hx hxk;obtain⟨i,hi,hxi⟩:=aba ((y9 ns ls k _ _).2 ⟨hx,hxk⟩);rw[<-key i hi,List.getD,aac hi,hxi];rfl
 rw[at' d hd hk,at' e he (by rw[<-hf,hk])]
end
theorem z5K {ns ls:List Pr} (hw:ze ns ls=true):(zg ns ls).length +ns.length<=ls.length+2:=by
 have Hh:=zM hw;have Ho:∀j:Nat,j<ls.length->zv ns (ndI ls j)=true:=fun j hj=>(Hh.1.2.2.2.2.2 j hj).1
 have Cw:=z0I Ho
 have GJ:∀i,i<ns.length->(zm ns.length ls ls.length).getD i 0=0:=by
  intro i hi;unfold ze at hw;rw[aaG,aaG] at hw;have:=List.all_eq_true.1 hw.2.2;have Hj:i<(zm ns.length ls ls.length).length :=by rw[jc];exact hi
  have h2:=this (zm ns.length ls ls.length)[i] (abg Hj)
  simpa[List.getD,Hj] using h2
 have fZ:∀j,j<ls.length->(ndI ls j).1=((zc ls (2*j)).toNat :Int)/\(ndI ls j).2=((dTo ls (2*j)).toNat :Int)/\(zc ls (2*j)).toNat <ns.length/\(dTo ls (2*j)).toNat <ns.length:=by
  intro j hj;obtain⟨p,q,h1,h2,h3,h4⟩:=Cw j hj;have e1:zc ls (2*j)=(ndI ls j).1:=by unfold zc;rw[aaq o_,show 2*j/2=j by omega]
  have e2:dTo ls (2*j)=(ndI ls j).2:=by unfold dTo;rw[aaq o_,show 2*j/2=j by omega]
  rw[e1,e2,h1,h2,aa5,aa5];exact⟨rfl,rfl,h3,h4⟩
 have ru:Vx ns.length ls.length (fun j=>(zc ls (2*j)).toNat) (fun j=>(dTo ls (2*j)).toNat) (fun _=>true):=by
  intro C hC i hi
  have h1:=vi Cw C (fun j hj p q hp hq=>by
   obtain⟨g1,g2,_,_⟩:=fZ j hj;rw[g1] at hp;rw[g2] at hq;have e1:(zc ls (2*j)).toNat =p:=o_
   have e2:(dTo ls (2*j)).toNat =q:=o_
   rw[<-e1,<-e2];exact hC j hj rfl) ls.length (aaa _) i hi
  rw[GJ i hi] at h1;exact h1
 obtain⟨J,hJ,hmin⟩:=XG (cntJ ls.length (fun _=>true)) _ (aaa _) ru;have hcount:=ZA hJ
 have hfc:Vx (zg ns ls).length ls.length (fun j=>qz (zg ns ls) (2*j)) (fun j=>qz (zg ns ls) (2*j+1)) (fun j=> !J j):=by
  intro C hC
  classical
  let g:Nat->Int:=fun d=>if C (qz (zg ns ls) d) then 1 else 0
  have hg:∀d,d<2*ls.length->g (j5 ns ls d)=g d:=fun d hd=>by
   show(if C (qz (zg ns ls) (j5 ns ls d)) then(1:Int) else 0)=_
   rw[z2T Ho hd]
  have V3:∀a b,(C (qz (zg ns ls) a)↔C (qz (zg ns ls) b))->g a=g b:=fun a b h=>by
   show(if C (qz (zg ns ls) a) then(1:Int) else 0)=(if C (qz (zg ns ls) b) then(1:Int) else 0)
   by_cases h1:C (qz (zg ns ls) a)
   ·rw[aao h1,aao (h.1 h1)]
   ·rw[aaq h1,aaq (fun h2=>h1 (h.2 h2))]
  have MC:∀t,t<ls.length->g (2*t)=g (2*t+1):=by
   intro t ht
   cases hJt:J t
   ·exact V3 _ _ (hC t ht (by simp[hJt]))
   ·have gd:=hmin t ht hJt
    apply abk
    intro hgt
    apply gd
    intro X hX
    by_cases C7:X (zc ls (2*t)).toNat ↔X (dTo ls (2*t)).toNat
    ·refine hJ X (fun j hj YL=>?_)
     by_cases UA:j=t
     ·subst UA;exact C7
     ·exact hX j hj (by simp[YL,UA])
    ·exfalso
     have hz:=z6M Ho hg (fun v=>if X v then 1 else 0)
     have e:sumR ls.length (fun j=>((if X (zc ls (2*j)).toNat then(1:Int) else 0) -(if X (dTo ls (2*j)).toNat then(1:Int) else 0))*(g (2*j) -g (2*j+1)))=
       sumR ls.length (fun j=>if j=t then((if X (zc ls (2*j)).toNat then(1:Int) else 0) -(if X (dTo ls (2*j)).toNat then(1:Int) else 0))*(g (2*j) -g (2*j+1)) else 0):=by
      refine yI _ (fun j hj=>?_)
      by_cases UA:j=t
      ·rw[aao UA]
      ·rw[aaq UA]
       cases YL:J j
       ·rw[V3 _ _ (hC j hj (by simp[YL])),Int.sub_self,Int.mul_zero]
       ·have h1:=hX j hj (by simp[YL,UA])
        have h2:(if X (zc ls (2*j)).toNat then(1:Int) else 0)=(if X (dTo ls (2*j)).toNat then(1:Int) else 0):=by
         by_cases h3:X (zc ls (2*j)).toNat
         ·rw[aao h3,aao (h1.1 h3)]
         ·rw[aaq h3,aaq (fun h4=>h3 (h1.2 h4))]
        rw[h2,Int.sub_self,Int.zero_mul]
     have hz':sumR ls.length (fun j=>((if X (zc ls (2*j)).toNat then(1:Int) else 0) -(if X (dTo ls (2*j)).toNat then(1:Int) else 0))*(g (2*j) -g (2*j+1)))=0:=hz;rw[e,Zd (fun j=>((if X (zc ls (2*j)).toNat then(1:Int) else 0) -(if X (dTo ls (2*j)).toNat then(1:Int) else 0))*(g (2*j) -g (2*j+1))) t,aao ht] at hz'
     by_cases h1:X (zc ls (2*t)).toNat
     ·have h2:¬X (dTo ls (2*t)).toNat :=fun h=>C7 ⟨fun _=>h,fun _=>h1⟩
      rw[aao h1,aaq h2] at hz';omega
     ·have h2:X (dTo ls (2*t)).toNat :=abk fun h=>C7 ⟨fun h3=>absurd h3 h1,fun h3=>absurd h3 h⟩
      rw[aaq h1,aao h2] at hz';omega
  have htw:∀d,d<2*ls.length->g (twin d)=g d:=by
   intro d hd;have h:=MC (d/2) o_;unfold twin
   by_cases h2:d%2=0
   ·rw[aao h2]
    rw[show 2*(d/2)=d by omega] at h;exact h.symm
   ·rw[aaq h2]
    rw[show 2*(d/2)+1=d by omega,show 2*(d/2)=d -1 by omega] at h;exact h
  have we:∀d e,d<2*ls.length->e<2*ls.length->g d=g e:=by
   intro d0 e0 mw he0
   have rv:=ru (fun v=>∀x,x<2*ls.length->zc ls x=(v:Int)->g x=g d0) (fun j hj _=>by
    obtain⟨g1,g2,g3,g4⟩:=fZ j hj
    have e1:zc ls (2*j)=((zc ls (2*j)).toNat :Int):=by
     obtain⟨t,ht,_⟩:=qE Ho (show 2*j<2*ls.length by omega);rw[ht,aa5]
    have e2:zc ls (2*j+1)=((dTo ls (2*j)).toNat :Int):=by
     have t1:twin (2*j)=2*j+1:=by unfold twin;rw[aao o_]
     have:=jt ls (2*j);rw[t1] at this;obtain⟨t,ht,_⟩:=qE Ho (show 2*j+1<2*ls.length by omega);rw[this] at ht⊢;rw[ht,aa5]
    constructor
    ·intro h x hx Rl
     have h1:=h (2*j) o_ e1;rw[Z7 Ho hg htw hx (show 2*j+1<2*ls.length by omega) (by rw[Rl,e2]),<-MC j hj,h1]
    ·intro h x hx Rl
     have h1:=h (2*j+1) o_ e2;rw[Z7 Ho hg htw hx (show 2*j<2*ls.length by omega) (by rw[Rl,<-e1]),MC j hj,h1])
   obtain⟨t,ht,Nk⟩:=qE Ho mw;obtain⟨s,hs,YM⟩:=qE Ho he0;have ht0:=(rv t Nk).1 (fun x hx Rl=>Z7 Ho hg htw hx mw (by rw[Rl,ht]));exact((rv s YM).2 ht0 e0 he0 hs).symm
  intro f hf;obtain⟨d,hd,hfd⟩:=z2q Ho hf;obtain⟨d',hd',hfd'⟩:=z2q Ho (show 0<(zg ns ls).length by omega);have h:=we d d' hd hd';have h':(if C (qz (zg ns ls) d) then(1:Int) else 0)=(if C (qz (zg ns ls) d') then(1:Int) else 0):=h;rw[hfd,hfd'] at h'
  by_cases h1:C f
  ·by_cases h2:C 0
   ·exact⟨fun _=>h2,fun _=>h1⟩
   ·rw[aao h1,aaq h2] at h';omega
  ·by_cases h2:C 0
   ·rw[aaq h1,aao h2] at h';omega
   ·exact⟨fun h=>absurd h h1,fun h=>absurd h h2⟩
 have h1:=ZA hfc;have h2:=z27 ls.length J;omega
end Go.Proofs.YtnjcpljhmhdhkaaGreat
