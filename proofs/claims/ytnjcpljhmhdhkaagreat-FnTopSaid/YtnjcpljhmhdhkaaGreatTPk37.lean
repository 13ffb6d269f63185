/- part 37 -/
import Derived.Test.YtnjcpljhmhdhkaaGreatTPk21
import Derived.Test.YtnjcpljhmhdhkaaGreatTPk24
import Derived.Test.YtnjcpljhmhdhkaaGreatTPk27
import Derived.Laws.EntriesVeiled
set_option linter.unusedSimpArgs false
set_option linter.unusedVariables false
set_option maxRecDepth 100000
set_option maxHeartbeats 16000000
namespace Go.Proofs.YtnjcpljhmhdhkaaGreat
open Go.RowKit
noncomputable def colW (ns ls:List Pr) (n:Int):List Int:=(yd ns ls n).getD []
noncomputable def xm (ns ls:List Pr) (n:Int):Bool:=(yd ns ls n).isSome
theorem Z6 {ns ls:List Pr} {n:Int} (h:zf ns ls=false∨inB n 1 6=false):yd ns ls n=none:=by
 unfold yd
 rcases h with h|h
 ·rw[h];rfl
 ·rw[h,Bool.and_false];rfl
theorem z2b {ns ls:List Pr} {n:Nat} (h1:zf ns ls=true) (h2:inB n 1 6=true):yd ns ls n=srch (adB ns ls) (noW (z9 ns ls).length) n (z9 ns ls).length []:=by
 unfold yd;rw[h1,h2,zK h1];rfl
theorem z9s (F:Nat):vj (noW F) (-1) 5=true:=by
 rw[jW];intro j hj;rw[Z8] at hj;rw[z1G hj];decide
def noK (F k:Nat):List Int:=List.replicate k (-1)++List.replicate (F -k) 0
theorem z7C (F:Nat):noK F 0=List.replicate F 0:=by simp[noK]
theorem z8T (F:Nat):noK F F=noW F:=by simp[noK,noW]
theorem z83 {F k:Nat} (h:k<F):(noK F k).set k (-1)=noK F (k+1):=by
 unfold noK;rw[aan,aaq (by simp),aaC,aae,show F -k=(F -(k+1))+1 by omega,List.replicate_succ,aal,List.replicate_succ' (n:=k),aay];rfl
theorem z94 {F k:Nat} (h:k<=F):(noK F k).length =F:=by simp[noK];omega
theorem z1Q (vn vl:Value) (ns ls:List Pr) (w:World) (hn:RP w vn ns) (hl:RP w vl ls):
  Calls Tryz.prog 183 #[.agg #[vn,vl]] w (RetI (noW (z9 ns ls).length) w):=by
 have Hi:Below w.heap.size w (w.alloc (.cells #[vn,vl] 27)):=bel_
 obtain⟨i0,hi,iz0,iz1,iz2⟩:=info_parts qq;have fK:=zD ns ls
 go_enter Tryz.func183,Tryz.ntmps183
 go_wp2_with fail
 refine(jS _ _ ns ls _ (hn.below Hi) (hl.below Hi)).mono ?_
 rintro e w1 ⟨v1,rfl,Hj,Hb⟩;have Ha:=Hi.trans (Hb.mono Hi.size);obtain⟨A1,c1,rfl⟩:=Hj.form;generalize (z9 ns ls).length =F at*
 go_wp2_with (at_make;refine wpList_make_full _ rfl _ _ 31 rfl w.heap.size 3 i0 (.int .i64 0) 1 Tryz.underlying31 hi iz0 iz1 .i64 .i64 _ _ F rfl rfl rfl rfl (by rw[iz2];omega) (by unfold maxLen;omega) (by have:=Ha.size;omega) ?_)
 intro w3 gZ gR;have GJ:Below w1.heap.size w1 w3:=(aaj _ _).grown gR (aaa _) (by intro k hk;cases hk);have He:=Ha.trans (GJ.mono Ha.size)
 have ft:OwnI w.heap.size w3 (.slice (some ⟨w1.heap.size,0,none⟩) F F) (noK F 0):=by
  rw[z7C];unfold OwnI;rw[aaC,<-z2J];exact gZ
 have H7:=Ha.size;generalize w1.heap.size=gs at*;go_wp2
 go_loopw [11] (fun x wr=>∃k:Nat,k<=F/\x= .int .i64 k/\OwnI w.heap.size wr (.slice (some ⟨gs,0,none⟩) F F) (noK F k)/\Below w.heap.size w wr) (fun x _=>F -(intOf x).toNat)
 case atStart=>exact⟨0,aab _,rfl,ft,He⟩
 case round=>
  obtain⟨k,hk,rfl,ho,hB⟩:=hrel
  by_cases Hf:k<F
  ·have Hu:(k:Int)<(F:Int):=o_
   have ik1:(0:Int)<=(k:Int):=o_
   have hx:=OwnE.cell (t:=3) (enc:=vI) ho 0 (q:=k) (by rw[z94 hk];exact Hf);obtain⟨z,hz⟩:∃z,wr.cell? ⟨gs,k,none⟩=some z:=⟨_,hx⟩;have fz:=OwnE.frz (t:=3) (enc:=vI) ho k;have HO:=h_ (show OwnI w.heap.size (wr.setCell ⟨gs,k,none⟩ (.int .i64 (-1))) (.slice (some ⟨gs,0,none⟩) F F) (noK F (k+1)) by rw[<-z83 Hf];exact kj ho k (-1));have HB:=h_ (hB.setCell (p:=⟨gs,k,none⟩) H7 (.int .i64 (-1)));go_wp2;go_roundw
   case rel=>exact⟨k+1,by omega,by go_num,HO.out,HB.out⟩
   case measure=>simp[intOf];omega
  ·have gn:k=F:=o_
   subst gn;rw[z8T] at ho;go_wp2;go_ret
   exact⟨_,rfl,ho,hB⟩
theorem xI (vn vl vw:Value) (ns ls:List Pr) (w:World) (hn:RP w vn ns) (hl:RP w vl ls) (hw:RI w vw (noW (z9 ns ls).length)):
  CB_ 235 #[.agg #[vn,vl],vw] w (.bool (zf ns ls)):=by
 have Hi:Below w.heap.size w (w.alloc (.cells #[vn,vl] 27)):=bel_
 have gE:Blk (w.alloc (.cells #[vn,vl] 27)) w.heap.size 27 #[vn,vl]:=Blk.newAt rfl;obtain⟨Aw,cw,rfl,R4,hmw,_⟩:=hw.form;rw[Z8] at*;have M5:=h_ (z9s (z9 ns ls).length);have HW:=h_ hw
 cases hq:zf ns ls
 ·go_enter Tryz.func235,Tryz.ntmps235
  go_wp2_with fail
  refine(j8 _ _ ns ls _ _ (hn.below Hi) (hl.below Hi) hq).mono ?_
  rintro e w1 ⟨rfl,Hb⟩;have Ha:=Hi.trans (Hb.mono Hi.size);go_wp2;go_ret
  exact⟨rfl,Ha⟩
 ·go_enter Tryz.func235,Tryz.ntmps235
  go_wp2_with fail
  refine(j8 _ _ ns ls _ _ (hn.below Hi) (hl.below Hi) hq).mono ?_
  rintro e w1 ⟨rfl,Hb⟩;have Ha:=Hi.trans (Hb.mono Hi.size);have gc:=gE.below Hb gE.lt;obtain⟨a_0,a_1⟩:=gc.c2
  go_wp2_with fail
  refine(jS _ _ ns ls _ (hn.below Ha) (hl.below Ha)).mono ?_
  rintro e w2 ⟨v2,rfl,Hn,Hh⟩;obtain⟨A2,c2,rfl⟩:=Hn.form;have Hc:=Ha.trans (Hh.mono Ha.size)
  go_wp2_with fail
  refine(z0M _ _ (-1) 5 _ (HW.out.below Hc)).mono ?_
  rintro e w' ⟨rfl,rfl⟩;rw[M5.out];go_wp2;go_ret
  exact⟨rfl,Hc⟩
theorem z5R {w:World} {b o F c:Nat} (h:RI w (.slice (some ⟨b,o,none⟩) F c) (noW F)) (hF:0<F):b<w.heap.size/\∀k,k<F->w.cell? ⟨b,o+k,none⟩=some (.int .i64 (-1)):=by
 obtain⟨Aw,cw,he,_,_,R4⟩:=h.form;rw[Z8] at R4;obtain⟨bw',ow',hA,hbW,hcw2⟩:=R4 hF
 injection he with he1 _ _
 rw[<-he1] at hA
 injection hA with hA
 injection hA with GT FA _
 subst GT;subst FA;exact⟨hbW,fun k hk=>by rw[hcw2 k hk,z1G hk]⟩
theorem z64 (vn vl:Value) (ns ls:List Pr) (bW oW cW n gO:Nat) (w:World) (hn:RP w vn ns) (hl:RP w vl ls) (hw:zf ns ls=true) (wG:n<=6)
  (hcW:(z9 ns ls).length <=cW) (hW:RI w (.slice (some ⟨bW,oW,none⟩) (z9 ns ls).length cW) (noW (z9 ns ls).length)) (hO:Blk w gO 31 #[.slice none 0 0]):
  Calls Tryz.prog 236 #[.agg #[vn,vl],.slice (some ⟨bW,oW,none⟩) (z9 ns ls).length cW,.int .i64 n,.func (.func 237) #[] #[.pointer (some ⟨gO,0,none⟩)]] w fun e w'=>
   e= .returned (.tuple #[])/\∃u,Blk w' gO 31 #[u]/\OwnI w.heap.size w' u ((srch (adB ns ls) (noW (z9 ns ls).length) n (z9 ns ls).length []).getD [])/\(srch (adB ns ls) (noW (z9 ns ls).length) n (z9 ns ls).length []=none->u= .slice none 0 0)/\w.grownBy w' (some gO):=by
 obtain⟨i0,hi,iz0,iz1,iz2⟩:=info_parts qq;have fK:=zD ns ls;have CX:=yh hw;have Co:=zK hw;have hOl:=hO.lt;obtain⟨w0,GG⟩:∃u,u=(((w.alloc (.cells #[vn,vl] 27)).alloc (.cells #[.slice (some ⟨bW,oW,none⟩) (z9 ns ls).length cW] 31)).alloc (.cells #[.int .i64 n] 3)).alloc (.cells #[.func (.func 237) #[] #[.pointer (some ⟨gO,0,none⟩)]] 205):=⟨_,rfl⟩;have Hi:Below w.heap.size w w0:=by rw[GG];exact bel_
 have F8:Blk w0 w.heap.size 27 #[vn,vl]:=by rw[GG];exact(((Blk.newAt rfl).alloc _).alloc _).alloc _
 have hG0:Blk w0 (w.heap.size+1) 31 #[.slice (some ⟨bW,oW,none⟩) (z9 ns ls).length cW]:=by rw[GG];exact((Blk.newAt (by simp)).alloc _).alloc _
 have hN0:Blk w0 (w.heap.size+1+1) 3 #[.int .i64 n]:=by rw[GG];exact(Blk.newAt (by simp)).alloc _
 have Ux:Blk w0 (w.heap.size+1+1+1) 205 #[.func (.func 237) #[] #[.pointer (some ⟨gO,0,none⟩)]]:=by rw[GG];exact Blk.newAt (by simp)
 have Ry:=h_ (z0A vn vl ns ls w0 (hn.below Hi) (hl.below Hi) hw);have Bs:=h_ GG;obtain⟨hbW,R4⟩:=z5R hW CX;have HCW:=h_ R4
 have hWO:bW≠gO:=by
  intro e;have h1:=HCW.out 0 CX;rw[e,hO.cell] at h1
  rcases oW with _|o
  ·cases h1
  ·simp at h1
 have HBIT:Hid (∀g f,g<(z9 ns ls).length ->f<(z9 ns ls).length ->((qZ ns ls).getD f 0).testBit g=adB ns ls g f):=h_ (fun g f hg hf=>by rw[z3k hw (by rw[<-Co];exact hf),z25]);have nF:Hid (∀f,f<(z9 ns ls).length ->(qZ ns ls).getD f 0<2^40):=h_ (fun f hf=>aaD (z1g hw (by rw[<-Co];exact hf)) (aaE o_ (by rw[<-Co];exact fK)));have fQ:(qZ ns ls).length =(z9 ns ls).length :=by unfold qZ;rw[jX,Co]
 generalize hRR:srch (adB ns ls) (noW (z9 ns ls).length) n (z9 ns ls).length []=RR at*;have RX:=h_ hRR;have nh:=h_ fQ;generalize (z9 ns ls).length =F at*;generalize qZ ns ls=NN at*
 go_enter Tryz.func236,Tryz.ntmps236
 go_wp2_with fail
 rw[<-Bs.out];refine Ry.out.mono ?_
 rintro e w1 ⟨v1,rfl,Hj,Hb⟩;have Ha:=Hi.trans (Hb.mono Hi.size);obtain⟨bA,cA,rfl,hcA,hbA0,R3,MP⟩:=OwnI.blk Hj (by rw[za,nh.out];exact CX);rw[za,nh.out] at hcA MP⊢;have CZ:=hG0.below Hb hG0.lt;have hN1:=hN0.below Hb hN0.lt;have YW:=Ux.below Hb Ux.lt;have H7:=YW.lt;have HCA:Hid (∀k,k<F->w1.cell? ⟨bA,k,none⟩=some (.int .i64 (NN.getD k 0:Nat))):=h_ (fun k hk=>by rw[MP k hk,qg]);have g0:w1.cell? ⟨w.heap.size+1,0,none⟩=some (.slice (some ⟨bW,oW,none⟩) F cW):=CZ.cell 0;have wD:F<=40:=fK;obtain⟨w2,gw⟩:∃u,u=w1.alloc (.cells #[.slice (some ⟨bA,0,none⟩) F cA] 31):=⟨_,rfl⟩;have Hh:Below w1.heap.size w1 w2:=by rw[gw];exact bel_
 have FA:Blk w2 w1.heap.size 31 #[.slice (some ⟨bA,0,none⟩) F cA]:=by rw[gw];exact Blk.newAt rfl
 have C0:=h_ gw;have Hc:=Ha.trans (Hh.mono Ha.size);have l1:w.heap.size+1<w1.heap.size:=o_
 go_wp2_with (at_make;refine wpList_make_full _ rfl _ _ 31 rfl w.heap.size 3 i0 (.int .i64 0) 1 Tryz.underlying31 hi iz0 iz1 .i64 .i64 _ _ F rfl rfl rfl rfl (by rw[iz2];omega) (by unfold maxLen;omega) (by simp;omega) ?_)
 rw[<-C0.out];intro w3 gZ gR;have Fi:w2.heap.size=w1.heap.size+1:=by rw[C0.out];simp
 have GJ:Below w2.heap.size w2 w3:=(aaj _ _).grown gR (aaa _) (by intro k hk;cases hk);have He:=Hc.trans (GJ.mono Hc.size)
 have hC3:OwnI w.heap.size w3 (.slice (some ⟨w1.heap.size+1,0,none⟩) F F) (List.replicate F 0):=by
  unfold OwnI;rw[aaC,<-z2J];exact gZ
 have hC3l:w1.heap.size+1<w3.heap.size:=(OwnI.lt hC3 (w1.heap.size+1) rfl).2;have HB0S:=h_ Hi.size;have b12:=Hh.trans (GJ.mono Hh.size);have ni:=CZ.below b12 CZ.lt;have bz:=hN1.below b12 hN1.lt;have Bt:=YW.below b12 YW.lt;have F0:=FA.below GJ FA.lt;have HCA3:Hid (∀k,k<F->w3.cell? ⟨bA,0+k,none⟩=some (.int .i64 (NN.getD k 0:Nat))):=h_ (fun k hk=>by rw[aaF];exact(b12.cell (p:=⟨bA,k,none⟩) R3).trans (HCA.out k hk));have HCW3:Hid (∀k,k<F->w3.cell? ⟨bW,oW+k,none⟩=some (.int .i64 (-1))):=h_ (fun k hk=>(He.cell (p:=⟨bW,oW+k,none⟩) hbW).trans (HCW.out k hk));have GI:=hO.below He hOl;have hbw1s:=Ha.size;have nA:¬w1.heap.size=w1.heap.size+1:=o_
 have hbb0:w.heap.size<=bA:=by have:=HB0S.out;omega
 obtain⟨w5,GE⟩:∃u,u=(w3.alloc (.cells #[.slice (some ⟨w1.heap.size+1,0,none⟩) F F] 31)).alloc (.cells #[.func (.func 257) #[] #[.pointer (some ⟨w3.heap.size,0,none⟩),.pointer (some ⟨w.heap.size+1+1+1,0,none⟩),.pointer (some ⟨w.heap.size+1+1,0,none⟩),.pointer (some ⟨w.heap.size+1,0,none⟩),.pointer (some ⟨w1.heap.size,0,none⟩),.pointer (some ⟨w3.heap.size+1,0,none⟩)]] 218):=⟨_,rfl⟩;have b35:Below w3.heap.size w3 w5:=by rw[GE];exact bel_
 have H8:=He.trans (b35.mono He.size);have hgC5:Blk w5 w3.heap.size 31 #[.slice (some ⟨w1.heap.size+1,0,none⟩) F F]:=by rw[GE];exact(Blk.newAt rfl).alloc _
 have hgP5:Blk w5 (w3.heap.size+1) 218 #[.func (.func 257) #[] #[.pointer (some ⟨w3.heap.size,0,none⟩),.pointer (some ⟨w.heap.size+1+1+1,0,none⟩),.pointer (some ⟨w.heap.size+1+1,0,none⟩),.pointer (some ⟨w.heap.size+1,0,none⟩),.pointer (some ⟨w1.heap.size,0,none⟩),.pointer (some ⟨w3.heap.size+1,0,none⟩)]]:=by rw[GE];exact Blk.newAt (by simp)
 have R5:=ni.below b35 ni.lt;have Bv:=bz.below b35 bz.lt;have FP:=Bt.below b35 Bt.lt;have CE:=F0.below b35 F0.lt;have Br:=GI.below b35 GI.lt;have Wx:=hC3.kept b35;have Gk:w5.heap.size=w3.heap.size+1+1:=by rw[GE];simp
 have HP:PutI (w1.heap.size+1) gO w3.heap.size (w.heap.size+1+1+1) (w.heap.size+1+1) (w.heap.size+1) w1.heap.size (w3.heap.size+1) bW oW cW bA 0 cA F n (fun k=>NN.getD k 0) w5:=
  ⟨⟨hgC5.lt,by omega,by omega,hgC5.cell 0⟩,⟨FP.lt,by omega,by omega,FP.cell 0⟩,⟨Bv.lt,by omega,by omega,Bv.cell 0⟩,⟨R5.lt,by omega,by omega,R5.cell 0⟩,⟨CE.lt,nA,by omega,CE.cell 0⟩,⟨hgP5.lt,by omega,by omega,hgP5.cell 0⟩,
   fun k hk=>⟨by omega,by omega,hWO,(b35.cell (p:=⟨bW,oW+k,none⟩) (show bW<w3.heap.size by have:=hbw1s;omega)).trans (HCW3.out k hk)⟩,
   fun k hk=>⟨by omega,by omega,by omega,(b35.cell (p:=⟨bA,0+k,none⟩) (show bA<w3.heap.size by omega)).trans (HCA3.out k hk)⟩⟩
 have ma:=h_ (z8Q w.heap.size (w1.heap.size+1) gO w3.heap.size (w.heap.size+1+1+1) (w.heap.size+1+1) (w.heap.size+1) w1.heap.size (w3.heap.size+1) bW oW cW bA 0 cA F n (fun k=>NN.getD k 0) (adB ns ls) HBIT.out nF.out wD wG o_ F [] (List.replicate F 0) 0 w5 rfl (by simp) HP Wx rfl Br);have HW5:=h_ GE;have HBW5:=h_ H8
 go_wp2_with fail
 rw[<-HW5.out];refine ma.out.mono ?_
 rintro e w6 ⟨b,rfl,ht,_,h6⟩;have H8:=HBW5.out;have HG:Hid (w.grownBy w6 (some gO)):=h_ ⟨ht.os.trans H8.os,ht.tape.trans H8.tape,ht.output.trans H8.output,aai H8.size ht.size,fun i hi Hv=>(ht.block i (aaD hi H8.size) (fun e=>e.elim (fun e=>by omega) (fun e=>Hv (by rw[e])))).trans (H8.block i hi)⟩
 have HQ:Hid (∃u,Blk w6 gO 31 #[u]/\OwnI w.heap.size w6 u (RR.getD [])/\(RR=none->u= .slice none 0 0)):=h_ (by
  rw[<-RX.out]
  rcases h6 with ⟨_,wG,bG⟩|⟨_,L,u,hL6,bG,hu6⟩
  ·exact⟨_,bG,by rw[wG];exact OwnI.nil _ _,fun _=>rfl⟩
  ·exact⟨u,bG,by rw[hL6];exact OwnI.mono hu6 H8.size,fun h=>by rw[hL6] at h;cases h⟩)
 go_wp2
 go_end0
 obtain⟨u,h1,h2,h3⟩:=HQ.out;exact⟨rfl,u,h1,h2,h3,HG.out⟩
theorem z61 (vn vl vw:Value) (ns ls:List Pr) (z:Int) (w:World) (hn:RP w vn ns) (hl:RP w vl ls) (hW:RI w vw (noW (z9 ns ls).length)):
  Calls Tryz.prog 182 #[.agg #[vn,vl],vw,.int .i64 z] w (z0N (colW ns ls z) (xm ns ls z) w):=by
 have Hi:Below w.heap.size w (w.alloc (.cells #[vn,vl] 27)):=bel_
 have gE:Blk (w.alloc (.cells #[vn,vl] 27)) w.heap.size 27 #[vn,vl]:=Blk.newAt rfl
 cases hq:zf ns ls
 ·have HR:=h_ (Z6 (n:=z) (.inl hq))
  go_enter Tryz.func182,Tryz.ntmps182
  go_wp2_with fail
  refine(xI _ _ _ ns ls _ (hn.below Hi) (hl.below Hi) (hW.below Hi)).mono ?_
  rw[hq];rintro e w1 ⟨rfl,Hb⟩;have Ha:=Hi.trans (Hb.mono Hi.size);go_wp2;exact bodyPost_ret (v:= .tuple #[.slice none 0 0,.bool false]) (by simp[results,Tryz.results182,go_sem]) rfl ⟨_,by unfold xm;rw[HR.out];rfl,by unfold colW;rw[HR.out];exact OwnI.nil _ _,Ha⟩
 ·cases hz:inB z 1 6
  ·have HR:=h_ (Z6 (ns:=ns) (ls:=ls) (n:=z) (.inr hz))
   go_enter Tryz.func182,Tryz.ntmps182
   go_wp2_with fail
   refine(xI _ _ _ ns ls _ (hn.below Hi) (hl.below Hi) (hW.below Hi)).mono ?_
   rw[hq];rintro e w1 ⟨rfl,Hb⟩;have Ha:=Hi.trans (Hb.mono Hi.size)
   go_wp2_with fail
   refine(zn z 1 6 false _ hz).mono ?_
   rintro e w' ⟨rfl,rfl⟩;go_wp2;exact bodyPost_ret (v:= .tuple #[.slice none 0 0,.bool false]) (by simp[results,Tryz.results182,go_sem]) rfl ⟨_,by unfold xm;rw[HR.out];rfl,by unfold colW;rw[HR.out];exact OwnI.nil _ _,Ha⟩
  ·obtain⟨n,rfl⟩:∃n:Nat,z=n:=⟨z.toNat,by have:=zc.1 hz;omega⟩
   have wG:n<=6:=by have:=zc.1 hz;omega
   have HS:=h_ (z2b hq hz);have CX:=yh hq;obtain⟨Aw,cw,rfl,R4,hmw,Ma⟩:=hW.form;rw[Z8] at R4 hmw Ma hW⊢;obtain⟨bw,ow,rfl,gi,_⟩:=Ma CX;have HZ:=h_ hz;have fg:Hid (∀L,srch (adB ns ls) (noW (z9 ns ls).length) n (z9 ns ls).length []=some L->L.length=(z9 ns ls).length):=h_ (fun L h=>by have:=z6q h;simpa using this);clear hz Ma
   go_enter Tryz.func182,Tryz.ntmps182
   go_wp2_with fail
   refine(xI _ _ _ ns ls _ (hn.below Hi) (hl.below Hi) (hW.below Hi)).mono ?_
   rw[hq];rintro e w1 ⟨rfl,Hb⟩;have Ha:=Hi.trans (Hb.mono Hi.size);have gc:=gE.below Hb gE.lt;have H7:=gc.lt;clear Hb gE Hi
   go_wp2_with fail
   refine(zn _ 1 6 true _ HZ.out).mono ?_
   rintro e w' ⟨rfl,rfl⟩;have Hh:=Ha.alloc Ha.size (.cells #[.slice none 0 0] 31);have CW:Blk (w1.alloc (.cells #[.slice none 0 0] 31)) w1.heap.size 31 #[.slice none 0 0]:=Blk.newAt rfl;have HP:=h_ (z64 vn vl ns ls bw ow cw n w1.heap.size _ (hn.below Hh) (hl.below Hh) hq wG R4 (hW.below Hh) CW);have CT:=h_ Hh;obtain⟨a_0,a_1⟩:=gc.c2;clear Hh CW hW hn hl gc hq
   go_wp2_with fail
   refine HP.out.mono ?_
   rintro e w3 ⟨rfl,u,GI,hu3,GV,gq⟩;have Hg:Below w.heap.size w w3:=CT.out.grown gq CT.out.size (fun k hk=>by cases hk;exact Ha.size);have hu3':=OwnI.mono hu3 (CT.out.size);have hO3l:=GI.lt;have hnq:=fun (u:World) (a:Option Addr) (l c:Nat)=>run_neq_slice_nil_any (P:=Tryz.prog) u 31 3 a l c 0 0 Tryz.underlying31
   clear HP CT hu3 gq a_0 a_1;generalize srch (adB ns ls) (noW (z9 ns ls).length) n (z9 ns ls).length []=RR at*
   cases RR with
   |none=>
    have e1:=GV rfl;subst e1;have q0:w3.cell? ⟨w1.heap.size,0,none⟩=some (.slice none 0 0):=GI.cell 0;clear GV GI
    go_wp2_with fail
    (refine z7 k_ k_ (fun hG=>?_))
    repeat (go_big_quiet_step (fail))
    refine wpQuiet_nil ?_
    clear hG;rintro w5 ⟨⟨_,Gk⟩,rfl⟩;have FE:=h_ (Hg.trans (Gk.mono Hg.size));clear Gk q0;go_wp2;exact bodyPost_ret (v:= .tuple #[.slice none 0 0,.bool false]) (by simp[results,Tryz.results182,go_sem]) rfl ⟨_,by unfold xm;rw[HS.out];rfl,by unfold colW;rw[HS.out];exact OwnI.nil _ _,FE.out⟩
   |some L=>
    have hL:OwnI w.heap.size w3 u L:=hu3';have hl:=fg.out L rfl;obtain⟨bu,cu,rfl,_,_,_,_⟩:=OwnI.blk hL o_;have q0:w3.cell? ⟨w1.heap.size,0,none⟩=some (.slice (some ⟨bu,0,none⟩) L.length cu):=GI.cell 0;clear GV GI hu3' hl
    go_wp2_with fail
    (refine z7 k_ k_ (fun hG=>?_))
    repeat (go_big_quiet_step (fail))
    refine wpQuiet_nil ?_
    clear hG;rintro w5 ⟨⟨_,Gk⟩,rfl⟩;have FE:=h_ (Hg.trans (Gk.mono Hg.size));have HL5:=h_ (hL.kept Gk);clear Gk q0 hL;go_wp2;exact bodyPost_ret (v:= .tuple #[.slice (some ⟨bu,0,none⟩) L.length cu,.bool true]) (by simp[results,Tryz.results182,go_sem]) rfl ⟨_,by unfold xm;rw[HS.out];rfl,by unfold colW;rw[HS.out];exact HL5.out,FE.out⟩
theorem Ve (vn vl:Value) (ns ls:List Pr) (z:Int) (w:World) (hn:RP w vn ns) (hl:RP w vl ls):
  Calls Tryz.prog 104 #[.agg #[vn,vl],.int .i64 z] w (z0N (colW ns ls z) (xm ns ls z) w):=by
 have mt:=h_ (fun (v:World) (hb:Below w.heap.size w v)=>z1Q vn vl ns ls v (hn.below hb) (hl.below hb));have r7:=h_ (fun (v:World) (u:Value) (hb:Below w.heap.size w v) (hu:RI v u (noW (z9 ns ls).length))=>z61 vn vl u ns ls z v (hn.below hb) (hl.below hb) hu)
 go_enter Tryz.func104,Tryz.ntmps104
 go_wp2_with fail
 go_region_held3 (fun w'=>w'.cell? ⟨w.heap.size,0,none⟩=some vn/\w'.cell? ⟨w.heap.size,1,none⟩=some vl)
  (go_keep)
  (first|(go_at_call 183;refine(mt.out _ bel_).mono ?_;rintro e w1 ⟨v1,rfl,Hj,Hb⟩;(have gl:=bdC Hb);have H7:=Hb.size;(try simp at H7);(try have gY:=p0_ w w1);have Ha:Below w.heap.size w w1:=bel_)|(go_at_call 182;refine(r7.out _ _ bel_ (Hj.reads.below bel_)).mono ?_;rintro e w2 ⟨v2,rfl,Hn,Hh⟩;(have gV:=bcC Hh)))
 have Hc:Below w.heap.size w w2:=bel_
 have Cu:=h_ (OwnI.mono Hn (show w.heap.size<=_ by first|omega|(have:=Ha.size;simp at*;omega)));go_wp2;exact bodyPost_ret (v:= .tuple #[v2,.bool (xm ns ls z)]) (by simp[results,Tryz.results104,go_sem]) rfl ⟨_,rfl,Cu.out,Hc⟩
theorem JO (vn vl:Value) (ns ls:List Pr) (z:Int) (w:World) (hn:RP w vn ns) (hl:RP w vl ls):
  Calls Tryz.prog 103 #[.agg #[vn,vl],.int .i64 z] w (z0N (colW ns ls z) (xm ns ls z) w):=by
 have Hi:Below w.heap.size w (w.alloc (.cells #[vn,vl] 27)):=bel_
 have gE:Blk (w.alloc (.cells #[vn,vl] 27)) w.heap.size 27 #[vn,vl]:=Blk.newAt rfl
 cases hq:zf ns ls
 ·have HR:=h_ (Z6 (n:=z) (.inl hq))
  go_enter Tryz.func103,Tryz.ntmps103
  go_wp2_with fail
  refine(qU _ _ ns ls _ _ (hn.below Hi) (hl.below Hi) hq).mono ?_
  rintro e w1 ⟨rfl,Hb⟩;have Ha:=Hi.trans (Hb.mono Hi.size);have HO:Hid (OwnI w.heap.size (w1.alloc (.cells #[] 3)) (.slice (some ⟨w1.heap.size,0,none⟩) 0 0) []):=h_ (OwnI.made rfl Ha.size);have HB:=h_ (Ha.alloc Ha.size (.cells #[] 3));go_wp2;exact bodyPost_ret (v:= .tuple #[.slice (some ⟨w1.heap.size,0,none⟩) 0 0,.bool false]) (by simp[results,Tryz.results103,go_sem]) rfl ⟨_,by unfold xm;rw[HR.out];rfl,by unfold colW;rw[HR.out];exact HO.out,HB.out⟩
 ·cases hz:inB z 1 6
  ·have HR:=h_ (Z6 (ns:=ns) (ls:=ls) (n:=z) (.inr hz))
   have HZ:=h_ hz
   go_enter Tryz.func103,Tryz.ntmps103
   go_wp2_with fail
   refine(qU _ _ ns ls _ _ (hn.below Hi) (hl.below Hi) hq).mono ?_
   rintro e w1 ⟨rfl,Hb⟩;have Ha:=Hi.trans (Hb.mono Hi.size);have HO:Hid (OwnI w.heap.size (w1.alloc (.cells #[] 3)) (.slice (some ⟨w1.heap.size,0,none⟩) 0 0) []):=h_ (OwnI.made rfl Ha.size);have HB:=h_ (Ha.alloc Ha.size (.cells #[] 3))
   go_wp2_with fail
   refine(qf _ _ _ _).mono ?_
   rintro e w' ⟨rfl,rfl⟩;rw[HZ.out];go_wp2;exact bodyPost_ret (v:= .tuple #[.slice (some ⟨w1.heap.size,0,none⟩) 0 0,.bool false]) (by simp[results,Tryz.results103,go_sem]) rfl ⟨_,by unfold xm;rw[HR.out];rfl,by unfold colW;rw[HR.out];exact HO.out,HB.out⟩
  ·obtain⟨n,rfl⟩:∃n:Nat,z=n:=⟨z.toNat,by have:=zc.1 hz;omega⟩
   have wG:n<=6:=by have:=zc.1 hz;omega
   have HS:=h_ (z2b hq hz);have CX:=yh hq;have fK:=zD ns ls;have HZ:=h_ hz;have mQ:=h_ (fun (v:World) (hb:Below w.heap.size w v)=>Je vn vl ns ls v (hn.below hb) (hl.below hb) hq);have Y8:=h_ (qU vn vl ns ls true _ (hn.below Hi) (hl.below Hi) hq)
   have Wi:Hid (∀base w v gs,OwnTab base w v (z9 ns ls).length gs (besW ns ls)->∃g c,v= .slice (some ⟨g,0,none⟩) (z9 ns ls).length c/\JF w g 0 (z9 ns ls).length (adB ns ls)):=h_ (fun base w v gs h=>by
    have Co:=zK hq;have Hd:(besW ns ls).length =(z9 ns ls).length :=by unfold besW;rw[jP,Co]
    have Fo:∀i,i<(z9 ns ls).length ->((besW ns ls).getD i []).length =(z9 ns ls).length :=fun i hi=>by unfold besW;rw[vN _ _ _ _ (by rw[<-Co];exact hi),Co]
    obtain⟨g,c,rfl,gL,gu⟩:=h.blk (by rw[Hd];exact CX);refine⟨g,c,by rw[h.len,Hd],gu,fun i hi=>⟨gs.getD i 0,(z2Z h (by rw[Hd];exact hi)).2,?_,fun j hj=>?_⟩⟩
    ·rw[aaF];exact h.cell (by rw[Hd];exact hi)
    ·rw[h.cell2 (by rw[Hd];exact hi) (by rw[Fo i hi];exact hj),z4W hq (by rw[<-Co];exact hi) (by rw[<-Co];exact hj)])
   generalize (z9 ns ls).length =F at*
   go_enter Tryz.func103,Tryz.ntmps103
   go_wp2_with fail
   refine Y8.out.mono ?_
   rintro e w1 ⟨rfl,Hb⟩;have Ha:=Hi.trans (Hb.mono Hi.size);have gc:=gE.below Hb gE.lt
   go_wp2_with fail
   refine(qf _ _ _ _).mono ?_
   rintro e w' ⟨rfl,rfl⟩;rw[HZ.out];obtain⟨a_0,a_1⟩:=gc.c2
   go_wp2_with fail
   refine(mQ.out _ Ha).mono ?_
   rintro e w2 ⟨v2,gs,rfl,Hn,Hh⟩;obtain⟨g,c,rfl,NS⟩:=Wi.out _ _ _ _ Hn;have Hc:=Ha.trans (Hh.mono Ha.size)
   go_wp2_with fail
   refine(z5N F _ fK).mono ?_
   rintro e w3 ⟨v3,rfl,Hq,Hg⟩;have He:=Hc.trans (Hg.mono Hc.size);have ht3:=NS.below Hg;have H5:Below w3.heap.size w3 (w3.alloc (.cells #[] 3)):=bel_
   have Ho:=He.trans (H5.mono He.size);have HSE:=h_ (z45 F n g c (adB ns ls) v3 fK wG F [] (.slice (some ⟨w3.heap.size,0,none⟩) 0 0) (w3.alloc (.cells #[] 3)) (by simp) ⟨ht3.below H5,Hq.reads.below H5⟩ (OwnI.reads (OwnI.made (base:=0) rfl (aab _))));have mK:=h_ Ho
   go_wp2_with fail
   refine HSE.out.mono ?_
   rw[<-HS.out];rintro e w5 ⟨v5,rfl,fk,gk⟩;have C7:=h_ (OwnI.mono fk mK.out.size);have FE:=h_ (mK.out.trans (gk.mono mK.out.size));go_wp2;exact bodyPost_ret (v:= .tuple #[v5,.bool (yd ns ls n).isSome]) (by simp[results,Tryz.results103,go_sem]) rfl ⟨_,rfl,C7.out,FE.out⟩
theorem z6k (near:Nat->Nat) (ok:Nat->Bool) (F s k:Nat):qI near ok F s (k+1)=rndC near ok (qI near ok F s k) F:=rfl
theorem z7Q (near:Nat->Nat) (ok:Nat->Bool) (s k:Nat):rndC near ok s (k+1)=stpC near ok (rndC near ok s k) k:=rfl
theorem z9T {near:Nat->Nat} {ok:Nat->Bool} {s g:Nat} (h:ok g=false∨near g &&& s=0):stpC near ok s g=s:=by
 unfold stpC
 rcases h with h|h<;>simp[h]
theorem z96 {near:Nat->Nat} {ok:Nat->Bool} {s g:Nat} (h1:ok g=true) (h2:¬near g &&& s=0):stpC near ok s g=s ||| 2^g:=by
 unfold stpC;simp[h1,h2]
theorem z5I (vn vl vc:Value) (ns ls:List Pr) (cs:List Int) (f:Nat) (x:Int) (w:World) (hn:RP w vn ns) (hl:RP w vl ls) (hc:RI w vc cs) (hw:zf ns ls=true) (Hz:cs.length=(z9 ns ls).length) (hf:f<cs.length):
  CB_ 227 #[.agg #[vn,vl],vc,.int .i64 f,.int .i64 x] w (.int .i64 (qI (fun g=>(qZ ns ls).getD g 0) (okX cs f x) cs.length (2^f) cs.length:Nat)):=by
 have Hi:Below w.heap.size w (w.alloc (.cells #[vn,vl] 27)):=bel_
 have fK:=zD ns ls;have Co:=zK hw;have wD:cs.length<=40:=o_
 obtain⟨Ac,cc,rfl,Gj,bM,Gy⟩:=hc.form;unfold maxLen at bM;obtain⟨bc,oc,rfl,Gl,FY⟩:=Gy o_;have Fk:=h_ FY;have nF:Hid (∀g,g<cs.length->(qZ ns ls).getD g 0<2^40):=h_ (fun g hg=>aaD (z1g hw (by rw[<-Co,<-Hz];exact hg)) (aaE o_ (by rw[<-Co];exact fK)));have fQ:(qZ ns ls).length =cs.length:=by unfold qZ;rw[jX,<-Co];exact Hz.symm
 have nh:=h_ fQ;have Fq:Hid (∀i,okX cs f x i=(decide (cs.getD i 0=cs.getD f 0)||decide (cs.getD i 0=x))):=h_ (fun _=>rfl);have h2f:2^f<2^cs.length:=aa3 o_ hf;have h240:(2:Nat)^cs.length<=2^40:=aaE o_ wD;have HR1:Hid (∀k,qI (fun g=>(qZ ns ls).getD g 0) (okX cs f x) cs.length (2^f) k<2^40):=h_ (fun k=>aaD (xJ h2f k) h240);have Wm:Hid (∀s k,s<2^40->k<=cs.length->rndC (fun g=>(qZ ns ls).getD g 0) (okX cs f x) s k<2^40):=h_ (fun s k hs hk=>Jz hs k o_);have GZ:=h_ (fun k=>z6k (fun g=>(qZ ns ls).getD g 0) (okX cs f x) cs.length (2^f) k);have gD:=h_ (fun s k=>z7Q (fun g=>(qZ ns ls).getD g 0) (okX cs f x) s k);have HN:=h_ (fun s g h=>z9T (near:=fun g=>(qZ ns ls).getD g 0) (ok:=okX cs f x) (s:=s) (g:=g) h);have HY:=h_ (fun s g h1 h2=>z96 (near:=fun g=>(qZ ns ls).getD g 0) (ok:=okX cs f x) (s:=s) (g:=g) h1 h2);have HZ1:Hid (qI (fun g=>(qZ ns ls).getD g 0) (okX cs f x) cs.length (2^f) 0=2^f):=h_ rfl;have HZ2:Hid (∀s,rndC (fun g=>(qZ ns ls).getD g 0) (okX cs f x) s 0=s):=h_ (fun _=>rfl);have Ry:=h_ (z0A vn vl ns ls _ (hn.below Hi) (hl.below Hi) hw);have xf:=shl64 (k:=f) o_;have hf64:f<64:=o_
 have if1:(0:Int)<=(f:Int):=o_
 have if2:(f:Int)<(cs.length:Int):=o_
 have hyf:=Fk.out f hf;generalize cs.getD f 0=y at*;generalize qI (fun g=>(qZ ns ls).getD g 0) (okX cs f x) cs.length (2^f)=RS1 at*;generalize rndC (fun g=>(qZ ns ls).getD g 0) (okX cs f x)=RC at*;generalize stpC (fun g=>(qZ ns ls).getD g 0) (okX cs f x)=ST at*;generalize okX cs f x=OK at*;generalize qZ ns ls=NN at*;have FO:Hid (RS1 0=2^f):=HZ1;generalize Wz:((2^f:Nat):Int)=Q2 at*;have HQ2:=h_ Wz;clear Wz h2f h240 Gy FY hc hn hl hw Co fQ fK Hz
 go_enter Tryz.func227,Tryz.ntmps227
 go_wp2_with fail
 refine Ry.out.mono ?_
 rintro e w1 ⟨v1,rfl,Hj,Hb⟩;have Ha:=Hi.trans (Hb.mono Hi.size);obtain⟨bA,cA,rfl,hcA,hbA0,R3,MP⟩:=OwnI.blk Hj (by rw[za,nh.out];omega);rw[za,nh.out] at hcA MP⊢;have HA:Hid (∀k,k<cs.length->w1.cell? ⟨bA,k,none⟩=some (.int .i64 (NN.getD k 0:Nat))):=h_ (fun k hk=>by rw[MP k hk,qg]);have hyf1:=(Ha.cell (p:=⟨bc,oc+f,none⟩) Gl).trans hyf;have hbc1:bc<w1.heap.size:=aaD Gl Ha.size;have HCC1:Hid (∀k,k<cs.length->w1.cell? ⟨bc,oc+k,none⟩=some (.int .i64 (cs.getD k 0))):=h_ (fun k hk=>(Ha.cell (p:=⟨bc,oc+k,none⟩) Gl).trans (Fk.out k hk));clear Hb Hj MP Hi hyf Ry;go_wp2
 go_loopw [10,19] (fun s t wr=>∃j:Nat,j<=cs.length/\t= .int .i64 j/\s= .int .i64 (RS1 j:Nat)/\wr=w1) (fun _ t _=>cs.length -(intOf t).toNat)
 case atStart=>exact⟨0,aab _,rfl,by rw[FO.out];simp only[HQ2.out,xf],rfl⟩
 case round=>
  obtain⟨j,hj,rfl,rfl,rfl⟩:=hrel
  by_cases Hf:j<cs.length
  ·have Hu:(j:Int)<(cs.length:Int):=o_
   have HT:=h_ (HR1.out j);have Rs:=h_ (GZ.out j);have HTZ:=h_ (HZ2.out (RS1 j));generalize hT:RS1 j=T at*;clear hT;go_wp2
   go_loopw [10,23] (fun s t w2=>∃i:Nat,i<=cs.length/\t= .int .i64 i/\s= .int .i64 (RC T i:Nat)/\w2=wr) (fun _ t _=>cs.length -(intOf t).toNat)
   case atStart=>exact⟨0,aab _,rfl,by rw[HTZ.out],rfl⟩
   case round=>
    obtain⟨i,hi,rfl,rfl,rfl⟩:=hrel
    by_cases FH:i<cs.length
    ·have Uz:(i:Int)<(cs.length:Int):=o_
     have ii1:(0:Int)<=(i:Int):=o_
     have hs40:=Wm.out T i HT.out hi;have HS:=h_ (gD.out T i);have gl:=HCC1.out i FH;have MX:=HA.out i FH;have Ns:=nF.out i FH;have cB:=h_ (fun s h=>HN.out s i h);have Ms:=h_ (fun s h1 h2=>HY.out s i h1 h2);have HO:=h_ (Fq.out i);generalize cs.getD i 0=c at*;generalize RC T i=s at*;generalize NN.getD i 0=nk at*;have oa:=QR (a:=nk) (b:=s) o_ o_;have xi:=shl64 (k:=i) o_;have hi64:i<64:=o_
     have Pi:2^i<2^40:=aa3 o_ o_;have oo:=vk (a:=s) (b:=2^i) o_ o_;generalize hnd:nk &&& s=nd at*;generalize Cj:s ||| 2^i=os at*
     generalize hPI:((2^i:Nat):Int)=P2 at*;have NR:=h_ hnd;have HOR:=h_ Cj;clear hnd Cj hPI Pi hs40 Ns
     by_cases MQ:c=y∨c=x
     ·have ME:Hid (OK i=true):=h_ (by rw[HO.out];rcases MQ with h|h<;>simp[h])
      by_cases h0:nd=0
      ·have e3:(((nd:Nat):Int) != 0)=false:=by rw[h0];rfl
       have HX:=h_ (cB.out s (.inr (by rw[NR.out];exact h0)));clear h0
       by_cases h1:c=y
       ·have e1:(c==y)=true:=beq_iff_eq.2 h1
        clear MQ h1;go_wp2;go_roundw
        case rel=>exact⟨i+1,by omega,by go_num,by rw[HS.out,HX.out],by trivial⟩
        case measure=>simp[intOf];omega
       ·have e1:(c==y)=false:=beq_eq_false_iff_ne.2 h1
        have e2:(c==x)=true:=beq_iff_eq.2 (MQ.resolve_left h1);clear MQ h1;go_wp2;go_roundw
        case rel=>exact⟨i+1,by omega,by go_num,by rw[HS.out,HX.out],by trivial⟩
        case measure=>simp[intOf];omega
      ·have e3:(((nd:Nat):Int) != 0)=true:=by rw[bne_iff_ne];omega
       have HX:=h_ ((Ms.out s ME.out (by rw[NR.out];exact h0)).trans HOR.out);clear h0
       by_cases h1:c=y
       ·have e1:(c==y)=true:=beq_iff_eq.2 h1
        clear MQ h1;go_wp2;go_roundw
        case rel=>exact⟨i+1,by omega,by go_num,by rw[HS.out,HX.out],by trivial⟩
        case measure=>simp[intOf];omega
       ·have e1:(c==y)=false:=beq_eq_false_iff_ne.2 h1
        have e2:(c==x)=true:=beq_iff_eq.2 (MQ.resolve_left h1);clear MQ h1;go_wp2;go_roundw
        case rel=>exact⟨i+1,by omega,by go_num,by rw[HS.out,HX.out],by trivial⟩
        case measure=>simp[intOf];omega
     ·have e1:(c==y)=false:=beq_eq_false_iff_ne.2 (fun h=>MQ (.inl h))
      have e2:(c==x)=false:=beq_eq_false_iff_ne.2 (fun h=>MQ (.inr h));have HX:=h_ (cB.out s (.inl (by rw[HO.out];simp only[not_or] at MQ;simp[MQ.1,MQ.2])));clear MQ;go_wp2;go_roundw
      case rel=>exact⟨i+1,by omega,by go_num,by rw[HS.out,HX.out],by trivial⟩
      case measure=>simp[intOf];omega
    ·have nQ:i=cs.length:=o_
     subst nQ;go_wp2;go_roundw
     case rel=>exact⟨j+1,by omega,by go_num,by rw[Rs.out],by trivial⟩
     case measure=>simp[intOf];omega
  ·have GS:j=cs.length:=o_
   subst GS;go_wp2;go_ret
   exact⟨rfl,Ha⟩
theorem yr {ns ls:List Pr} {cs:List Int} {f x:Int} (h:yj ns ls cs f x=false):ZB ns ls cs f x=[]:=by unfold ZB;rw[h];rfl
theorem kS {ns ls:List Pr} {cs:List Int} {f:Nat} {x:Int} (h:yj ns ls cs f x=true):ZB ns ls cs f x=qc ns ls cs f x:=by unfold ZB;rw[h,aa5];rfl
theorem vG {ns ls:List Pr} {cs:List Int} {f x:Int} (h:q7 ns ls cs=false∨inB f 0 ((cs.length:Int) -1)=false∨inB x 0 5=false):yj ns ls cs f x=false:=by
 unfold yj
 rcases h with h|h|h<;>simp[h]
theorem VL {ns ls:List Pr} {cs:List Int} {f x:Int} (h1:q7 ns ls cs=true) (h2:inB f 0 ((cs.length:Int) -1)=true) (h3:inB x 0 5=true):yj ns ls cs f x=true:=by
 unfold yj;rw[h1,h2,h3];rfl
theorem z5F {ns ls:List Pr} {cs:List Int} {f:Nat} {x:Int} (hw:zf ns ls=true) (hl:cs.length=(z9 ns ls).length) (hf:f<cs.length):
  memS (qI (fun g=>(qZ ns ls).getD g 0) (okX cs f x) cs.length (2^f) cs.length) cs.length=qc ns ls cs f x/\qI (fun g=>(qZ ns ls).getD g 0) (okX cs f x) cs.length (2^f) cs.length<2^cs.length:=by
 have Co:=zK hw;have Gq:cs.length=(zg ns ls).length :=by rw[hl,Co]
 refine⟨?_,xJ (aa3 o_ hf) _⟩
 exact z1N (near:=fun g=>(qZ ns ls).getD g 0) (fun g i hg hi=>z3k hw o_) (fun g hg=>by rw[Gq];exact z1g hw o_) (fun g i=>z25 ns ls g i) hf
theorem z1I (vn vl vc:Value) (ns ls:List Pr) (cs:List Int) (f x:Int) (w:World) (hn:RP w vn ns) (hl:RP w vl ls) (hc:RI w vc cs) (hle:cs.length<=1048576):
  Calls Tryz.prog 171 #[.agg #[vn,vl],vc,.int .i64 f,.int .i64 x] w (RetN (natI (ZB ns ls cs f x)) w):=by
 have Hi:Below w.heap.size w (w.alloc (.cells #[vn,vl] 27)):=bel_
 have gE:Blk (w.alloc (.cells #[vn,vl] 27)) w.heap.size 27 #[vn,vl]:=Blk.newAt rfl;obtain⟨Ac,cc,rfl,Gj,bM,_⟩:=hc.form;unfold maxLen at bM
 cases hp:q7 ns ls cs
 ·have HR:=h_ (yr (vG (f:=f) (x:=x) (.inl hp)))
  go_enter Tryz.func171,Tryz.ntmps171
  go_wp2_with fail
  refine(yS _ _ _ ns ls cs _ _ (hn.below Hi) (hl.below Hi) (hc.below Hi) hp).mono ?_
  rintro e w1 ⟨rfl,Hb⟩;have Ha:=Hi.trans (Hb.mono Hi.size);go_wp2;go_ret
  exact⟨_,rfl,by rw[HR.out];exact OwnI.nil _ _,fun _=>rfl,Ha⟩
 ·cases hf:inB f 0 ((cs.length:Int) -1)
  ·have HR:=h_ (yr (vG (ns:=ns) (ls:=ls) (x:=x) (.inr (.inl hf))))
   have HF:=h_ hf;clear hf
   go_enter Tryz.func171,Tryz.ntmps171
   go_wp2_with fail
   refine(yS _ _ _ ns ls cs _ _ (hn.below Hi) (hl.below Hi) (hc.below Hi) hp).mono ?_
   rintro e w1 ⟨rfl,Hb⟩;have Ha:=Hi.trans (Hb.mono Hi.size)
   go_wp2_with fail
   refine(zn f 0 _ false _ HF.out).mono ?_
   rintro e w' ⟨rfl,rfl⟩;go_wp2;go_ret
   exact⟨_,rfl,by rw[HR.out];exact OwnI.nil _ _,fun _=>rfl,Ha⟩
  ·cases hx:inB x 0 5
   ·have HR:=h_ (yr (vG (ns:=ns) (ls:=ls) (cs:=cs) (f:=f) (.inr (.inr hx))))
    have HF:=h_ hf;have HX:=h_ hx;clear hf hx
    go_enter Tryz.func171,Tryz.ntmps171
    go_wp2_with fail
    refine(yS _ _ _ ns ls cs _ _ (hn.below Hi) (hl.below Hi) (hc.below Hi) hp).mono ?_
    rintro e w1 ⟨rfl,Hb⟩;have Ha:=Hi.trans (Hb.mono Hi.size)
    go_wp2_with fail
    refine(zn f 0 _ true _ HF.out).mono ?_
    rintro e w' ⟨rfl,rfl⟩
    go_wp2_with fail
    refine(zn x 0 5 false _ HX.out).mono ?_
    rintro e w' ⟨rfl,rfl⟩;go_wp2;go_ret
    exact⟨_,rfl,by rw[HR.out];exact OwnI.nil _ _,fun _=>rfl,Ha⟩
   ·obtain⟨k,rfl⟩:∃k:Nat,f=k:=⟨f.toNat,by have:=zc.1 hf;omega⟩
    have hk:k<cs.length:=by have:=zc.1 hf;omega
    have HR:=h_ (kS (VL hp hf hx));obtain⟨hw,Hz,_,_⟩:=vQ.1 hp;rw[<-zK hw] at Hz;have fK:=zD ns ls;obtain⟨bH,hm2⟩:=z5F (x:=x) hw Hz hk;have HM:=h_ bH;have HL:=h_ hm2;have HS:=h_ (xU (ns:=ns) (ls:=ls) (x:=x) hk);have Wo:=h_ (fun (v:World) (hb:Below w.heap.size w v)=>z5I vn vl _ ns ls cs k x v (hn.below hb) (hl.below hb) (hc.below hb) hw Hz hk);have rh:=h_ (yS vn vl _ ns ls cs _ _ (hn.below Hi) (hl.below Hi) (hc.below Hi) hp);have Mp:cs.length<=40:=o_
    have HF:=h_ hf;have HX:=h_ hx;clear hf hx bH hm2 Hz fK hn hl hc hw hp;generalize qI (fun g=>(qZ ns ls).getD g 0) (okX cs k x) cs.length (2^k) cs.length=R at*
    go_enter Tryz.func171,Tryz.ntmps171
    go_wp2_with fail
    refine rh.out.mono ?_
    rintro e w1 ⟨rfl,Hb⟩;have Ha:=Hi.trans (Hb.mono Hi.size);have gc:=gE.below Hb gE.lt;clear Hb Hi gE rh
    go_wp2_with fail
    refine(zn _ 0 _ true _ HF.out).mono ?_
    rintro e w' ⟨rfl,rfl⟩
    go_wp2_with fail
    refine(zn x 0 5 true _ HX.out).mono ?_
    rintro e w' ⟨rfl,rfl⟩;obtain⟨a_0,a_1⟩:=gc.c2
    go_wp2_with fail
    refine(Wo.out _ Ha).mono ?_
    rintro e w2 ⟨rfl,Hh⟩;have Hc:=Ha.trans (Hh.mono Ha.size);clear Hh gc a_0 a_1
    go_wp2_with fail
    refine(QU R cs.length _ HL.out Mp).mono ?_
    rintro e w3 ⟨v3,rfl,Hq,Hg⟩;have HB:=h_ (Hc.trans (Hg.mono Hc.size));have HO:=h_ (OwnI.mono Hq Hc.size);clear Hq Hg;go_wp2;go_ret
    refine⟨_,rfl,by rw[HR.out,<-HM.out];exact HO.out,fun h=>?_,HB.out⟩
    rw[HR.out,za] at h;have:=HS.out;rw[abx h] at this
    cases this
theorem z28 (cs:List Int) (C:List Nat) (y x:Int) (k:Nat):swK cs C y x (k+1)=(swK cs C y x k).set (C.getD k 0) (if cs.getD (C.getD k 0) 0=x then y else x):=rfl
theorem Ze {ns ls:List Pr} {cs:List Int} {f x:Int} (h:yj ns ls cs f x=false∨cs.getD f.toNat 0=x):vx ns ls cs f x=false/\vv ns ls cs f x=cs:=by
 have hb:vx ns ls cs f x=false:=by
  unfold vx
  rcases h with h|h
  ·rw[h];rfl
  ·rw[aaQ h];simp
 exact⟨hb,by unfold vv;rw[hb];rfl⟩
theorem z0o {ns ls:List Pr} {cs:List Int} {f:Nat} {x:Int} (h1:yj ns ls cs f x=true) (h2:¬cs.getD f 0=x):vx ns ls cs f x=true/\vv ns ls cs f x=swK cs (qc ns ls cs f x) (cs.getD f 0) x (qc ns ls cs f x).length :=by
 have hb:vx ns ls cs f x=true:=by
  unfold vx;rw[h1,aa5,aaO h2];rfl
 exact⟨hb,by unfold vv;rw[hb,aa5];rfl⟩
theorem z5n (vn vl vc:Value) (ns ls:List Pr) (cs:List Int) (f x:Int) (w:World) (hn:RP w vn ns) (hl:RP w vl ls) (hc:RI w vc cs) (hle:cs.length<=1048576):
  Calls Tryz.prog 96 #[.agg #[vn,vl],vc,.int .i64 f,.int .i64 x] w (z0N (vv ns ls cs f x) (vx ns ls cs f x) w):=by
 have Hi:Below w.heap.size w (w.alloc (.cells #[vn,vl] 27)):=bel_
 have gE:Blk (w.alloc (.cells #[vn,vl] 27)) w.heap.size 27 #[vn,vl]:=Blk.newAt rfl;have Mt:=h_ (fun (v:World) (hb:Below w.heap.size w v)=>z1I vn vl vc ns ls cs f x v (hn.below hb) (hl.below hb) (hc.below hb) hle);have Wn:=h_ (ku vc cs _ (hc.below Hi) hle);have MH:=fun (u:World) (a:Option Addr) (l c:Nat)=>Lib.run_eql_slice_nil (P:=Tryz.prog) u 31 3 a l c 0 0 Tryz.underlying31
 cases hq:yj ns ls cs f x
 ·obtain⟨Fd,Fi⟩:=Ze (.inl hq)
  have GZ:=h_ Fd;have gD:=h_ Fi;have HI:=h_ (yr hq);clear Fd Fi hq
  go_enter Tryz.func96,Tryz.ntmps96
  go_wp2_with fail
  refine Wn.out.mono ?_
  rintro e w1 ⟨v1,rfl,Hj,Hb⟩;have Ha:=Hi.trans (Hb.mono Hi.size);have gc:=gE.below Hb gE.lt;obtain⟨a_0,a_1⟩:=gc.c2;clear Hb Wn
  go_wp2_with fail
  refine(Mt.out _ Ha).mono ?_
  rw[HI.out];rintro e w2 ⟨v2,rfl,_,N8,Hh⟩;have e2:=N8 rfl;subst e2;have HB:=h_ (Ha.trans (Hh.mono Ha.size));have HO:=h_ (OwnI.mono (Hj.kept Hh) (show w.heap.size<=_ by simp));clear Hj N8 Hh gc a_0 a_1 Mt;go_wp2;exact bodyPost_ret (v:= .tuple #[v1,.bool false]) (by simp[results,Tryz.results96,go_sem]) rfl ⟨_,by rw[GZ.out],by rw[gD.out];exact HO.out,HB.out⟩
 ·have Mo:=hq
  unfold yj at Mo;rw[aaG,aaG] at Mo;obtain⟨k,rfl⟩:∃k:Nat,f=k:=⟨f.toNat,by have:=zc.1 Mo.2.1;omega⟩;have hk:k<cs.length:=by have:=zc.1 Mo.2.1;omega
  have HI:=h_ (kS hq);have HMEM:=h_ (xU (ns:=ns) (ls:=ls) (x:=x) hk);have Cf:=h_ (fun i (h:i∈qc ns ls cs k x)=>z0I h);obtain⟨Ac,cc,rfl,Gj,bM,Gy⟩:=hc.form;unfold maxLen at bM;obtain⟨bc,oc,rfl,Gl,FY⟩:=Gy o_;have Fk:=h_ FY;have ik1:(0:Int)<=(k:Int):=o_
  have ik2:(k:Int)<(cs.length:Int):=o_
  have Ba:=h_ (fun h=>Ze (ns:=ns) (ls:=ls) (cs:=cs) (f:=(k:Int)) (x:=x) (.inr h));have YQ:=h_ (fun h=>z0o (ns:=ns) (ls:=ls) (cs:=cs) (f:=k) (x:=x) hq h);have Uw:=h_ (fun C y k=>z28 cs C y x k);have bL:=h_ (fun C y k=>Za cs C y x k);have HSZ:Hid (∀C y,swK cs C y x 0=cs):=h_ (fun _ _=>rfl);clear hq Mo hc Gy FY hn hl;rw[aa5] at Ba;have hcwl:=VB ns ls cs k x;generalize qc ns ls cs k x=C at*;have hCp:0<C.length:=abh HMEM.out;have RV:Hid (∀j,j<C.length->C.getD j 0<cs.length):=h_ (fun j hj=>Cf.out _ (by rw[aa6,aac hj];exact abg hj))
  go_enter Tryz.func96,Tryz.ntmps96
  go_wp2_with fail
  refine Wn.out.mono ?_
  rintro e w1 ⟨v1,rfl,Hj,Hb⟩;have Ha:=Hi.trans (Hb.mono Hi.size);have gc:=gE.below Hb gE.lt;obtain⟨a_0,a_1⟩:=gc.c2;clear Hb Wn
  go_wp2_with fail
  refine(Mt.out _ Ha).mono ?_
  rw[HI.out];rintro e w2 ⟨v2,rfl,Hn,_,Hh⟩;have Hc:=Ha.trans (Hh.mono Ha.size);have gd:=OwnI.mono (Hj.kept Hh) (show w.heap.size<=_ by simp);obtain⟨g1,c1,rfl,gl,hg1b,gL,_⟩:=OwnI.blk Hj o_;obtain⟨b2,c2,rfl,gV,mT,hb2l,GD⟩:=OwnI.blk Hn (by rw[za];exact hCp);rw[za] at gV GD⊢;have hne12:b2≠g1:=o_
  have HC2:=h_ GD;have WA:=(Hc.cell (p:=⟨bc,oc+k,none⟩) Gl).trans (Fk.out k hk);have r5:bc<w2.heap.size:=aaD Gl Hc.size;have Mw:w.heap.size<=g1:=by simp at hg1b;omega
  clear Hj Hn Hh gc a_0 a_1 Mt GD;generalize cs.getD k 0=y at*
  by_cases MR:y=x
  ·have e1:(y==x)=true:=beq_iff_eq.2 MR
   obtain⟨Fd,Fi⟩:=Ba.out MR;have GZ:=h_ Fd;have gD:=h_ Fi;have HO:=h_ gd;clear Fd Fi gd MR;go_wp2;exact bodyPost_ret (v:= .tuple #[.slice (some ⟨g1,0,none⟩) cs.length c1,.bool false]) (by simp[results,Tryz.results96,go_sem]) rfl ⟨_,by rw[GZ.out],by rw[gD.out];exact HO.out,Hc⟩
  ·have e1:(y==x)=false:=beq_eq_false_iff_ne.2 MR
   obtain⟨Fd,Fi⟩:=YQ.out MR;have GZ:=h_ Fd;have gD:=h_ Fi;have C8:OwnI w.heap.size w2 (.slice (some ⟨g1,0,none⟩) cs.length c1) (swK cs C y x 0):=by rw[HSZ.out];exact gd
   have fH:w2.grownBy w2 (some g1):=qu _ _;clear Fd Fi gd MR;go_wp2
   go_loopw [34] (fun t wr=>∃j:Nat,j<=C.length/\t= .int .i64 j/\OwnI w.heap.size wr (.slice (some ⟨g1,0,none⟩) cs.length c1) (swK cs C y x j)/\w2.grownBy wr (some g1)) (fun t _=>C.length -(intOf t).toNat)
   case atStart=>exact⟨0,aab _,rfl,C8,fH⟩
   case round=>
    clear C8 fH;obtain⟨j,hj,rfl,ho,hg⟩:=hrel
    by_cases Hf:j<C.length
    ·have Hu:(j:Int)<(C.length:Int):=o_
     have ij1:(0:Int)<=(j:Int):=o_
     have q0:=(jJ (o:=j) (hg.block b2 hb2l (fun e=>hne12 (by cases e;rfl)))).trans (HC2.out j Hf);rw[qg] at q0;have C5:=RV.out j Hf;have HS:=h_ (Uw.out C y j);have We:=bL.out C y j;generalize C.getD j 0=d at*;have q1:=(jJ (o:=oc+d) (hg.block bc r5 (fun e=>by cases e;omega))).trans ((Hc.cell (p:=⟨bc,oc+d,none⟩) Gl).trans (Fk.out d C5));have q2:=(jJ (o:=oc+k) (hg.block bc r5 (fun e=>by cases e;omega))).trans WA;have id1:(0:Int)<=(d:Int):=o_
     have id2:(d:Int)<(cs.length:Int):=o_
     have Fy:=OwnE.cell (t:=3) (enc:=vI) ho 0 (q:=d) o_;obtain⟨zz,ux⟩:∃z,wr.cell? ⟨g1,d,none⟩=some z:=⟨_,Fy⟩;have fz:=OwnE.frz (t:=3) (enc:=vI) ho d;have HO:=h_ (fun z=>kj ho d z);have HG:=h_ (fun z=>qv hg d z);generalize cs.getD d 0=c at*;clear Fy ho hg We
     by_cases MS:c=x
     ·have e2:(c==x)=true:=beq_iff_eq.2 MS
      have wF:=h_ (HS.out.trans (by rw[aao MS]));clear MS;go_wp2;go_roundw
      case rel=>exact⟨j+1,by omega,by go_num,by rw[wF.out];exact HO.out y,HG.out _⟩
      case measure=>simp[intOf];omega
     ·have e2:(c==x)=false:=beq_eq_false_iff_ne.2 MS
      have wF:=h_ (HS.out.trans (by rw[aaq MS]));clear MS;go_wp2;go_roundw
      case rel=>exact⟨j+1,by omega,by go_num,by rw[wF.out];exact HO.out x,HG.out _⟩
      case measure=>simp[intOf];omega
    ·have GS:j=C.length:=o_
     subst GS;have HB:=h_ (Hc.grown hg Hc.size (fun k hk=>by cases hk;exact Mw));have HO:=h_ ho;clear ho hg;go_wp2;exact bodyPost_ret (v:= .tuple #[.slice (some ⟨g1,0,none⟩) cs.length c1,.bool true]) (by simp[results,Tryz.results96,go_sem]) rfl ⟨_,by rw[GZ.out],by rw[gD.out];exact HO.out,HB.out⟩
end Go.Proofs.YtnjcpljhmhdhkaaGreat
