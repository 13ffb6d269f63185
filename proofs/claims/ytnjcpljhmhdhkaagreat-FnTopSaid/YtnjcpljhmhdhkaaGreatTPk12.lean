/- part 12 -/
import Derived.Test.YtnjcpljhmhdhkaaGreatTPk11
import Derived.Deep.Slices
import Derived.Deep.Fields
import Derived.ChangeSame
import Derived.OwnWalk
import Derived.StillTailTactics
import Derived.Deep.RegionHeld3
import Derived.Outline
set_option linter.unusedSimpArgs false
set_option linter.unusedVariables false
set_option linter.unusedSectionVars false
set_option maxRecDepth 100000
set_option maxHeartbeats 8000000
namespace Go.Proofs.YtnjcpljhmhdhkaaGreat
open Go.RowKit
theorem j8 (vn vl:Value) (ns ls:List Pr) (b:Bool) (w:World) (hn:RP w vn ns) (hl:RP w vl ls) (hb:zf ns ls=b):
  CB_ 79 #[.agg #[vn,vl]] w (.bool b):=by
 subst hb;exact z3U vn vl ns ls w hn hl
theorem j9 {W:World} {v:Value} {t:TypeId} {g:Nat} (hg:g=W.heap.size):(W.alloc (.cells #[v] t)).cell? ⟨g,0,none⟩=some v:=(Blk.newAt hg).cell 0
theorem Zg:3≠4:=by decide
theorem OwnF.made {base g:Nat} {w:World} (hg:g=w.heap.size) (hb:base<=w.heap.size):OwnF base (w.alloc (.cells #[] 31)) (.slice (some ⟨g,0,none⟩) 0 0) []:=by
 subst hg;exact⟨[],rfl,World.ownsRow_made _ _ _ hb (by simp[maxLen]) (by simp),fun k hk=>absurd hk (by simp)⟩
theorem OwnF.grownNone {base:Nat} {w w':World} {v:Value} {F:List (List Nat)} (h:OwnF base w v F) (hg:w.grownBy w' none):OwnF base w' v F:=
 h.far hg (fun k hk=>by cases hk)
theorem OwnF.offType {base b2:Nat} {w w':World} {v u:Value} {F:List (List Nat)} {l:List Bool} (h:OwnF base w v F) (hs:OwnE 4 Value.bool b2 w u l) (hg:w.grownBy w' u.ownBlock):OwnF base w' v F:=by
 obtain⟨vs,h1,h2,h3⟩:=h
 have Rl:OwnE 31 (fun x:Value=>x) base w v vs:=by
  unfold OwnE;rw[List.map_id',h1];exact h2
 refine⟨vs,h1,?_,fun k hk=>OwnE.other (t:=3) (enc:=vI) (h3 k hk) hs Zg hg⟩
 have:=OwnE.other Rl hs (by decide) hg;unfold OwnE at this;rw[List.map_id',h1] at this;exact this
theorem jS (vn vl:Value) (ns ls:List Pr) (w:World) (hn:RP w vn ns) (hl:RP w vl ls):
  Calls Tryz.prog 145 #[.agg #[vn,vl]] w (RetF (z9 ns ls) w):=by
 obtain⟨An,cn,rfl,FQ,GW,_⟩:=hn.formI;obtain⟨Al,cl,rfl,Hz,GM,_⟩:=hl.formI;unfold maxLen at GW GM;have Hi:Below w.heap.size w (w.alloc (.cells #[.slice An ns.length cn,.slice Al ls.length cl] 27)):=bel_
 have gE:Blk (w.alloc (.cells #[.slice An ns.length cn,.slice Al ls.length cl] 27)) w.heap.size 27 #[.slice An ns.length cn,.slice Al ls.length cl]:=Blk.newAt rfl
 cases hw:zf ns ls
 ·have HR:Hid (z9 ns ls=[]):=h_ (by simp[z9,hw])
  go_enter Tryz.func145,Tryz.ntmps145
  go_wp2_with fail
  refine(j8 _ _ ns ls _ _ (hn.below Hi) (hl.below Hi) hw).mono ?_
  rintro e w1 ⟨rfl,Hb⟩;have Ha:=Hi.trans (Hb.mono Hi.size);go_wp2;go_ret
  exact⟨_,rfl,by rw[HR.out];exact OwnF.nil _ _,Ha⟩
 ·have HR:Hid (z9 ns ls=zG ns ls (2*ls.length)):=h_ (by simp[z9,hw];rfl)
  have Hk:=(zL hw).1;have fZ:=(zL hw).2;have GN:=Hk.2.2.1;have Hr:∀j:Nat,j<ls.length->zt ns (ndI ls j)=true:=fun j hj=>(Hk.2.2.2.2.2 j hj).1
  obtain⟨i0,hi,iz0,iz1,iz2⟩:=info_parts Z9;have HWK:=h_ (fun (v:World) (d:Nat) (hv:Below w.heap.size w v) (hd:d<2*ls.length)=>z5S (.slice An ns.length cn) (.slice Al ls.length cl) ns ls d v (hn.below hv) (hl.below hv) hd Hk);have mR:=h_ (fun d hd=>Qk (ns:=ns) Hr (d:=d) hd);have rK:=h_ (fun d hd=>Vd (ns:=ns) Hr (d:=d) hd);have nS:=h_ (kW ns ls);have HFY:=h_ (fun m h=>vP (ns:=ns) (ls:=ls) (m:=m) h);have Yi:=h_ (fun m h=>kJ (ns:=ns) (ls:=ls) (m:=m) h);have uN:Hid (zG ns ls 0=[]):=h_ rfl;have e2:2*(ls.length:Int)=((2*ls.length:Nat):Int):=o_
  clear Hk Hr
  go_enter Tryz.func145,Tryz.ntmps145
  go_wp2_with fail
  refine(j8 _ _ ns ls _ _ (hn.below Hi) (hl.below Hi) hw).mono ?_
  rintro e w1 ⟨rfl,Hb⟩;have Ha:=Hi.trans (Hb.mono Hi.size);have gc:=gE.below Hb gE.lt;have H7:=gc.lt;clear Hb Hi gE hw;obtain⟨a_0,a_1⟩:=gc.c2;generalize rE:2*ls.length=N at*;have uO:N<=40:=o_
  go_wp2_with (at_make;refine wpList_make_full _ rfl _ _ 182 rfl (w.heap.size+1) 4 i0 (.bool false) 1 Tryz.underlying182 hi iz0 iz1 .i64 .i64 _ _ N rfl rfl rfl rfl (by rw[iz2];omega) (by unfold maxLen;omega) o_ ?_)
  intro w2 gZ gR;have Hh:Below w.heap.size w w2:=Ha.grown gR Ha.size (by intro k hk;cases hk);have gX:Blk w2 w.heap.size 27 #[.slice An ns.length cn,.slice Al ls.length cl]:=(gR.block _ H7 (fun e=>by cases e)).trans gc
  have ft:OwnE 4 Value.bool (w.heap.size+1) w2 (.slice (some ⟨w1.heap.size,0,none⟩) N N) ((List.range N).map (jo (zG ns ls 0))):=by
   unfold OwnE;rw[uN.out,z0r,aaC];rw[<-z4Q];exact gZ
  have C8:OwnF (w1.heap.size+1) w2 (.slice none 0 0) []:=OwnF.nil _ _;have NY:=H7;generalize w1.heap.size=gs at*;clear gZ gR Ha gc a_0 a_1 H7;obtain⟨a_0,a_1⟩:=gX.c2;go_wp2
  go_loopw [4,19] (fun v x wr=>∃d:Nat,d<=N/\x= .int .i64 d/\OwnF (gs+1) wr v (zG ns ls d)/\OwnE 4 Value.bool (w.heap.size+1) wr (.slice (some ⟨gs,0,none⟩) N N) ((List.range N).map (jo (zG ns ls d)))/\Blk wr w.heap.size 27 #[.slice An ns.length cn,.slice Al ls.length cl]/\Below w.heap.size w wr) (fun _ x _=>N -(intOf x).toNat)
  case atStart=>exact⟨0,aab _,rfl,by rw[uN.out];exact C8,ft,gX,Hh⟩
  case round=>
   clear ft gX Hh a_0 a_1;obtain⟨d,hd,rfl,ho,ft,hW,Hd⟩:=hrel;have gI:=hW.lt;have Bj:gs<wr.heap.size:=(ft.lt gs rfl).2
   by_cases Hf:d<N
   ·have Hu:(d:Int)<(N:Int):=o_
    have hx:=ft.cell false (q:=d) (by simpa using Hf);rw[z4A Hf] at hx;have HY:=h_ (HFY.out d);have BL:=h_ (Yi.out d);have fK:=nS.out d;generalize zG ns ls d=F at*;obtain⟨a_0,a_1⟩:=hW.c2
    cases hs:jo F d
    ·rw[hs] at hx
     have HS:=h_ (BL.out hs);clear hs
     go_wp2_with fail
     refine(HWK.out _ d Hd Hf).mono ?_
     rintro e w3 ⟨v3,rfl,Hq,Hg⟩;have uP:=ho.kept Hg;have F5:=ft.kept Hg;have Gz:=hW.below Hg gI;have gy:=Hd.trans (Hg.mono Hd.size);have rL:OwnI (gs+1) w3 v3 (natI (qG ns ls d)):=Hq.mono o_;have HB:=h_ (mR.out d Hf);have hwl:=rK.out d Hf;generalize qG ns ls d=f at*;obtain⟨A3,c3,rfl⟩:=rL.form;rw[za] at rL⊢;rw[<-z2q N F f] at F5;clear Hg Hq ho ft hW Hd a_0 a_1 hx gI;go_wp2
     go_loopw [31] (fun x wr=>∃j:Nat,j<=f.length/\x= .int .i64 j/\OwnF (gs+1) wr u4 F/\OwnE 4 Value.bool (w.heap.size+1) wr (.slice (some ⟨gs,0,none⟩) N N) (mkS N F f j)/\OwnI (gs+1) wr (.slice A3 f.length c3) (natI f)/\Blk wr w.heap.size 27 #[.slice An ns.length cn,.slice Al ls.length cl]/\Below w.heap.size w wr) (fun x _=>f.length -(intOf x).toNat)
     case atStart=>exact⟨0,aab _,rfl,uP,F5,rL,Gz,gy⟩
     case round=>
      clear uP F5 rL Gz gy;obtain⟨j,hj,rfl,ho,ft,hI,hW,Hd⟩:=hrel;have gI:=hW.lt
      by_cases ce:j<f.length
      ·have uQ:(j:Int)<(f.length:Int):=o_
       have ij1:(0:Int)<=(j:Int):=o_
       obtain⟨A4,c4,Yj,cf,hm4,Gm⟩:=hI.reads.form;rw[za] at Yj
       cases Yj
       rw[za] at Gm;obtain⟨b4,off4,rfl,H5,fU⟩:=Gm o_;have hx:=fU j ce;rw[qg] at hx;have Ck:f.getD j 0<N:=HB.out _ (by rw[List.getD,aac ce];exact abg ce);have GZ:=h_ (z2R N F f j ce);generalize f.getD j 0=x at*;have ix1:(0:Int)<=(x:Int):=o_
       have ix2:(x:Int)<(N:Int):=o_
       have Cx:=ft.cell false (q:=x) (by rw[z1p];exact Ck);obtain⟨z,hz⟩:∃z,wr.cell? ⟨gs,x,none⟩=some z:=⟨_,Cx⟩;have fx:=ft.frz x;have nU:Hid (OwnE 4 Value.bool (w.heap.size+1) (wr.setCell ⟨gs,x,none⟩ (.bool true)) (.slice (some ⟨gs,0,none⟩) N N) (mkS N F f (j+1))):=h_ (by rw[GZ.out];exact ft.set_ x true);have Mw:wr.grownBy (wr.setCell ⟨gs,x,none⟩ (.bool true)) (some gs):=qv (qu _ _) x _;have HOF:=h_ (ho.far Mw (fun k hk=>by cases hk;omega));have HIF:=h_ (hI.far Mw (fun k hk=>by cases hk;omega));have Yk:=h_ (hW.far (p:=⟨gs,x,none⟩) (show ¬w.heap.size=gs by omega) (.bool true));have NW:=h_ (Hd.setCell (p:=⟨gs,x,none⟩) (show w.heap.size<=gs by omega) (.bool true));clear ho ft hI hW Hd Cx Mw fU Gm;go_wp2;go_roundw
       case rel=>exact⟨j+1,by omega,by go_num,HOF.out,nU.out,HIF.out,Yk.out,NW.out⟩
       case measure=>simp[intOf];omega
      ·have GS:j=f.length:=o_
       subst GS;have nU:Hid (OwnE 4 Value.bool (w.heap.size+1) wr (.slice (some ⟨gs,0,none⟩) N N) ((List.range N).map (jo (F++[f])))):=h_ (by rw[<-z4Y];exact ft);have hgz4:gs<wr.heap.size:=(ft.lt gs rfl).2;clear ft
       go_wp2_with (at_builtin;refine kh rfl _ _ rfl (gs+1) _ (.slice A3 f.length c3) F f rfl wr.heap.size rfl (j9 (by simp)) (ho.alloc _) (hI.alloc _) o_ (by simp;omega) ?_)
       intro v4 w4 hF4 Gf;have uR:∀k,(u4:Value).ownBlock =some k->gs+1<=k/\k<wr.heap.size:=fun k hk=>ho.lt k hk
       have nV:Below w.heap.size w w4:=(Hd.alloc Hd.size (.cells #[.slice A3 f.length c3] 31)).grown Gf (by simp;have:=Hd.size;omega) (fun k hk=>by have:=(uR k hk).1;omega);have bj:Blk w4 w.heap.size 27 #[.slice An ns.length cn,.slice Al ls.length cl]:=(Gf.block _ (by simp;omega) (fun e=>by have:=(uR _ e.symm).1;omega)).trans (hW.alloc _)
       have mp:OwnE 4 Value.bool (w.heap.size+1) w4 (.slice (some ⟨gs,0,none⟩) N N) ((List.range N).map (jo (F++[f]))):=by
        obtain⟨vs,g1,g2,g3⟩:=ho.alloc (.cells #[.slice A3 f.length c3] 31);exact OwnE.other (nU.out.alloc _) g2 (by decide) Gf
       clear ho hI hW Hd Gf uR;go_wp2;go_roundw
       case rel=>exact⟨d+1,by omega,by go_num,by rw[HS.out];exact hF4,by rw[HS.out];exact mp,bj,nV⟩
       case measure=>simp[intOf];omega
    ·rw[hs] at hx
     have HS:=h_ (HY.out hs);clear hs;go_wp2;go_roundw
     case rel=>exact⟨d+1,by omega,by go_num,by rw[HS.out];exact ho,by rw[HS.out];exact ft,hW,Hd⟩
     case measure=>simp[intOf];omega
   ·have C1:d=N:=o_
    subst C1;go_wp2;go_ret
    exact⟨_,rfl,by rw[HR.out];exact ho.mono o_,Hd⟩
theorem jU (vn vl:Value) (ns ls:List Pr) (w:World) (hn:RP w vn ns) (hl:RP w vl ls):
  Calls Tryz.prog 121 #[.agg #[vn,vl]] w (RetF (z9 ns ls) w):=by
 obtain⟨An,cn,rfl,FQ,GW,_⟩:=hn.formI;obtain⟨Al,cl,rfl,Hz,GM,_⟩:=hl.formI;unfold maxLen at GW GM;have Hi:Below w.heap.size w ((w.alloc (.cells #[.slice An ns.length cn,.slice Al ls.length cl] 27)).alloc (.cells #[] 31)):=bel_
 have gE:Blk ((w.alloc (.cells #[.slice An ns.length cn,.slice Al ls.length cl] 27)).alloc (.cells #[] 31)) w.heap.size 27 #[.slice An ns.length cn,.slice Al ls.length cl]:=(Blk.newAt rfl).alloc _;have hOz:OwnF (w.heap.size+1) ((w.alloc (.cells #[.slice An ns.length cn,.slice Al ls.length cl] 27)).alloc (.cells #[] 31)) (.slice (some ⟨w.heap.size+1,0,none⟩) 0 0) []:=OwnF.made (by simp) (by simp)
 cases hw:zf ns ls
 ·have HR:Hid (z9 ns ls=[]):=h_ (by simp[z9,hw])
  go_enter Tryz.func121,Tryz.ntmps121
  go_wp2_with fail
  refine(qU _ _ ns ls _ _ (hn.below Hi) (hl.below Hi) hw).mono ?_
  rintro e w1 ⟨rfl,Hb⟩;have Ha:=Hi.trans (Hb.mono Hi.size);have rM:=hOz.kept Hb;go_wp2;go_ret
  exact⟨_,rfl,by rw[HR.out];exact rM.mono o_,Ha⟩
 ·have HR:Hid (z9 ns ls=zG ns ls (2*ls.length)):=h_ (by simp[z9,hw];rfl)
  have Hk:=(zL hw).1;have fZ:=(zL hw).2;have GN:=Hk.2.2.1;have Hr:∀j:Nat,j<ls.length->zt ns (ndI ls j)=true:=fun j hj=>(Hk.2.2.2.2.2 j hj).1
  obtain⟨i0,hi,iz0,iz1,iz2⟩:=info_parts Z9;have HWK:=h_ (fun (v:World) (d:Nat) (hv:Below w.heap.size w v) (hd:d<2*ls.length)=>z5W (.slice An ns.length cn) (.slice Al ls.length cl) ns ls d v (hn.below hv) (hl.below hv) hd Hk);have mR:=h_ (fun d hd=>Qk (ns:=ns) Hr (d:=d) hd);have rK:=h_ (fun d hd=>Vd (ns:=ns) Hr (d:=d) hd);have nS:=h_ (kW ns ls);have HFY:=h_ (fun m h=>vP (ns:=ns) (ls:=ls) (m:=m) h);have Yi:=h_ (fun m h=>kJ (ns:=ns) (ls:=ls) (m:=m) h);have uN:Hid (zG ns ls 0=[]):=h_ rfl;have e2:2*(ls.length:Int)=((2*ls.length:Nat):Int):=o_
  clear Hk Hr
  go_enter Tryz.func121,Tryz.ntmps121
  go_wp2_with fail
  refine(qU _ _ ns ls _ _ (hn.below Hi) (hl.below Hi) hw).mono ?_
  rintro e w1 ⟨rfl,Hb⟩;have Ha:=Hi.trans (Hb.mono Hi.size);have gc:=gE.below Hb gE.lt;have rM:=hOz.kept Hb;have H7:=gc.lt;clear Hb Hi gE hw;obtain⟨a_0,a_1⟩:=gc.c2;generalize rE:2*ls.length=N at*;have uO:N<=40:=o_
  go_wp2_with (at_make;refine wpList_make_full _ rfl _ _ 182 rfl (w.heap.size+1) 4 i0 (.bool false) 1 Tryz.underlying182 hi iz0 iz1 .i64 .i64 _ _ N rfl rfl rfl rfl (by rw[iz2];omega) (by unfold maxLen;omega) o_ ?_)
  intro w2 gZ gR;have Hh:Below w.heap.size w w2:=Ha.grown gR Ha.size (by intro k hk;cases hk);have gX:Blk w2 w.heap.size 27 #[.slice An ns.length cn,.slice Al ls.length cl]:=(gR.block _ H7 (fun e=>by cases e)).trans gc
  have ft:OwnE 4 Value.bool (w.heap.size+1) w2 (.slice (some ⟨w1.heap.size,0,none⟩) N N) ((List.range N).map (jo (zG ns ls 0))):=by
   unfold OwnE;rw[uN.out,z0r,aaC];rw[<-z4Q];exact gZ
  have C8:OwnF (w.heap.size+1) w2 (.slice (some ⟨w.heap.size+1,0,none⟩) 0 0) []:=rM.grownNone gR;clear hOz rM;have NY:=H7;generalize w1.heap.size=gs at*;clear gZ gR Ha gc a_0 a_1 H7;obtain⟨a_0,a_1⟩:=gX.c2;go_wp2
  go_loopw [3,5] (fun v x wr=>∃d:Nat,d<=N/\x= .int .i64 d/\OwnF (w.heap.size+1) wr v (zG ns ls d)/\OwnE 4 Value.bool (w.heap.size+1) wr (.slice (some ⟨gs,0,none⟩) N N) ((List.range N).map (jo (zG ns ls d)))/\Blk wr w.heap.size 27 #[.slice An ns.length cn,.slice Al ls.length cl]/\Below w.heap.size w wr) (fun _ x _=>N -(intOf x).toNat)
  case atStart=>exact⟨0,aab _,rfl,by rw[uN.out];exact C8,ft,gX,Hh⟩
  case round=>
   clear ft gX Hh a_0 a_1;obtain⟨d,hd,rfl,ho,ft,hW,Hd⟩:=hrel;have gI:=hW.lt
   by_cases Hf:d<N
   ·have Hu:(d:Int)<(N:Int):=o_
    have hx:=ft.cell false (q:=d) (by simpa using Hf);rw[z4A Hf] at hx;have HY:=h_ (HFY.out d);have BL:=h_ (Yi.out d);have fK:=nS.out d;generalize zG ns ls d=F at*;obtain⟨a_0,a_1⟩:=hW.c2
    cases hs:jo F d
    ·rw[hs] at hx
     have HS:=h_ (BL.out hs);clear hs
     go_wp2_with fail
     refine(HWK.out _ d Hd Hf).mono ?_
     rintro e w3 ⟨v3,rfl,Hq,Hg⟩;have uP:=ho.kept Hg;have F5:=ft.kept Hg;have Gz:=hW.below Hg gI;have gy:=Hd.trans (Hg.mono Hd.size);have rL:OwnI (w.heap.size+1) w3 v3 (natI (qG ns ls d)):=Hq.mono o_;have HB:=h_ (mR.out d Hf);have hwl:=rK.out d Hf;generalize qG ns ls d=f at*;obtain⟨A3,c3,rfl⟩:=rL.form;rw[za] at rL⊢;rw[<-z2q N F f] at F5;clear Hg Hq ho ft hW Hd a_0 a_1 hx gI;go_wp2
     go_loopw [7] (fun x wr=>∃j:Nat,j<=f.length/\x= .int .i64 j/\OwnF (w.heap.size+1) wr u3 F/\OwnE 4 Value.bool (w.heap.size+1) wr (.slice (some ⟨gs,0,none⟩) N N) (mkS N F f j)/\OwnI (w.heap.size+1) wr (.slice A3 f.length c3) (natI f)/\Blk wr w.heap.size 27 #[.slice An ns.length cn,.slice Al ls.length cl]/\Below w.heap.size w wr) (fun x _=>f.length -(intOf x).toNat)
     case atStart=>exact⟨0,aab _,rfl,uP,F5,rL,Gz,gy⟩
     case round=>
      clear uP F5 rL Gz gy;obtain⟨j,hj,rfl,ho,ft,hI,hW,Hd⟩:=hrel;have gI:=hW.lt
      by_cases ce:j<f.length
      ·have uQ:(j:Int)<(f.length:Int):=o_
       have ij1:(0:Int)<=(j:Int):=o_
       obtain⟨A4,c4,Yj,cf,hm4,Gm⟩:=hI.reads.form;rw[za] at Yj
       cases Yj
       rw[za] at Gm;obtain⟨b4,off4,rfl,H5,fU⟩:=Gm o_;have hx:=fU j ce;rw[qg] at hx;have Ck:f.getD j 0<N:=HB.out _ (by rw[List.getD,aac ce];exact abg ce);have GZ:=h_ (z2R N F f j ce);generalize f.getD j 0=x at*;have ix1:(0:Int)<=(x:Int):=o_
       have ix2:(x:Int)<(N:Int):=o_
       have Cx:=ft.cell false (q:=x) (by rw[z1p];exact Ck);obtain⟨z,hz⟩:∃z,wr.cell? ⟨gs,x,none⟩=some z:=⟨_,Cx⟩;have fx:=ft.frz x;have nU:Hid (OwnE 4 Value.bool (w.heap.size+1) (wr.setCell ⟨gs,x,none⟩ (.bool true)) (.slice (some ⟨gs,0,none⟩) N N) (mkS N F f (j+1))):=h_ (by rw[GZ.out];exact ft.set_ x true);have Mw:wr.grownBy (wr.setCell ⟨gs,x,none⟩ (.bool true)) (some gs):=qv (qu _ _) x _;have HOF:=h_ (ho.offType ft Mw);have HIF:=h_ (OwnE.other (t:=3) (enc:=vI) hI ft Zg Mw);have Yk:=h_ (hW.far (p:=⟨gs,x,none⟩) (show ¬w.heap.size=gs by omega) (.bool true));have NW:=h_ (Hd.setCell (p:=⟨gs,x,none⟩) (show w.heap.size<=gs by omega) (.bool true));clear ho ft hI hW Hd Cx Mw fU Gm;go_wp2;go_roundw
       case rel=>exact⟨j+1,by omega,by go_num,HOF.out,nU.out,HIF.out,Yk.out,NW.out⟩
       case measure=>simp[intOf];omega
      ·have GS:j=f.length:=o_
       subst GS;have nU:Hid (OwnE 4 Value.bool (w.heap.size+1) wr (.slice (some ⟨gs,0,none⟩) N N) ((List.range N).map (jo (F++[f])))):=h_ (by rw[<-z4Y];exact ft);clear ft
       go_wp2_with (at_builtin;refine kh rfl _ _ rfl (w.heap.size+1) _ (.slice A3 f.length c3) F f rfl wr.heap.size rfl (j9 (by simp)) (ho.alloc _) (hI.alloc _) o_ (by simp;omega) ?_)
       intro v4 w4 hF4 Gf;have uR:∀k,(u3:Value).ownBlock =some k->w.heap.size+1<=k/\k<wr.heap.size:=fun k hk=>ho.lt k hk
       have nV:Below w.heap.size w w4:=(Hd.alloc Hd.size (.cells #[.slice A3 f.length c3] 31)).grown Gf (by simp;have:=Hd.size;omega) (fun k hk=>by have:=(uR k hk).1;omega);have bj:Blk w4 w.heap.size 27 #[.slice An ns.length cn,.slice Al ls.length cl]:=(Gf.block _ (by simp;omega) (fun e=>by have:=(uR _ e.symm).1;omega)).trans (hW.alloc _)
       have mp:OwnE 4 Value.bool (w.heap.size+1) w4 (.slice (some ⟨gs,0,none⟩) N N) ((List.range N).map (jo (F++[f]))):=by
        obtain⟨vs,g1,g2,g3⟩:=ho.alloc (.cells #[.slice A3 f.length c3] 31);exact OwnE.other (nU.out.alloc _) g2 (by decide) Gf
       clear ho hI hW Hd Gf uR;go_wp2;go_roundw
       case rel=>exact⟨d+1,by omega,by go_num,by rw[HS.out];exact hF4,by rw[HS.out];exact mp,bj,nV⟩
       case measure=>simp[intOf];omega
    ·rw[hs] at hx
     have HS:=h_ (HY.out hs);clear hs;go_wp2;go_roundw
     case rel=>exact⟨d+1,by omega,by go_num,by rw[HS.out];exact ho,by rw[HS.out];exact ft,hW,Hd⟩
     case measure=>simp[intOf];omega
   ·have C1:d=N:=o_
    subst C1;go_wp2;go_ret
    exact⟨_,rfl,by rw[HR.out];exact ho.mono o_,Hd⟩
theorem RF.get {w:World} {v:Value} {F:List (List Nat)} (h:RF w v F):∃A c,v= .slice A F.length c/\F.length<=c/\F.length<=maxLen/\(0<F.length->∃b off,A=some ⟨b,off,none⟩/\b<w.heap.size/\∀k,k<F.length->∃u,w.cell? ⟨b,off+k,none⟩=some u/\RI w u (natI (F.getD k []))):=by
 obtain⟨vs,h1,h2⟩:=h;obtain⟨A,c,e1,e2,e3,e4⟩:=h1.get;refine⟨A,c,e1,e2,e3,fun hn=>?_⟩
 obtain⟨b,off,g1,g2,g3⟩:=e4 hn;exact⟨b,off,g1,g2,fun k hk=>⟨_,g3 k hk,h2 k hk⟩⟩
theorem V0 (ns ls:List Pr) (f:List Nat) (k:Nat):yv ns ls f (k+1)=yv ns ls f k+yC ns ls (f.getD k 0):=rfl
theorem z3c (vn vl u:Value) (ns ls:List Pr) (f:List Nat) (w:World) (hn:RP w vn ns) (hl:RP w vl ls) (hu:RI w u (natI f)) (hf:∀e∈f,e<2*ls.length) (fK:f.length<=40) (Hk:zC ns ls):
  CB_ 209 #[.agg #[vn,vl],u] w (.int .i64 (vy ns ls f)):=by
 have GN:=Hk.2.2.1;have Hr:∀j:Nat,j<ls.length->zt ns (ndI ls j)=true:=fun j hj=>(Hk.2.2.2.2.2 j hj).1
 obtain⟨An,cn,rfl,FQ,GW,Hp⟩:=hn.formI;obtain⟨bn,offn,rfl,Gh,Gj⟩:=Hp (by have:=Hk.1;omega);obtain⟨Au,cu,rfl,Yl,Ym,cK⟩:=hu.form;rw[za] at Yl Ym cK hu⊢;unfold maxLen at GW Ym;have mR:=h_ (fun k hk=>VT Hk hf k hk);have HTO:=h_ (fun d (hd:d<2*ls.length)=>jM Hr hd);have mt:=h_ (fun d (hd:d<2*ls.length)=>qL Hr hd);have NR:=h_ (fun t ht=>jY Hk.2.2.2.1 t ht);have Yc:=h_ (V0 ns ls f);have HA0:Hid (yv ns ls f 0=0):=h_ rfl;have Fk:=h_ Gj;have HCU:=h_ cK;have HTX:=h_ (fun (e:Nat) (he:e<2*ls.length)=>kX e o_);have HFM:=h_ hf;clear Hp Gj cK Hk Hr hf
 go_enter Tryz.func209,Tryz.ntmps209
 go_wp2
 go_loopw [5,12] (fun n x wr=>∃k:Nat,k<=f.length/\x= .int .i64 k/\n= .int .i64 (yv ns ls f k)/\Blk wr w.heap.size 27 #[.slice (some ⟨bn,offn,none⟩) ns.length cn,vl]/\Below w.heap.size w wr) (fun _ x _=>f.length -(intOf x).toNat)
 case atStart=>exact⟨0,aab _,rfl,by rw[HA0.out],Blk.newAt rfl,by exact bel_⟩
 case round=>
  obtain⟨k,hk,rfl,rfl,hW,Hd⟩:=hrel;have gI:=hW.lt
  by_cases Hf:k<f.length
  ·have Hu:(k:Int)<(f.length:Int):=o_
   have ik1:(0:Int)<=(k:Int):=o_
   obtain⟨b4,off4,rfl,H5,fU⟩:=HCU.out o_;have Fy:=fU k Hf;rw[qg] at Fy;have hx:=(Hd.cell (p:=⟨b4,off4+k,none⟩) H5).trans Fy;have Ck:f.getD k 0<2*ls.length:=HFM.out _ (by rw[List.getD,aac Hf];exact abg Hf);have nW:=h_ (Yc.out k);have GB:=mR.out k hk;generalize f.getD k 0=d at*;obtain⟨u,Be,GV⟩:=HTO.out d Ck;obtain⟨t,MW,Bh⟩:=mt.out d Ck;obtain⟨a_0,a_1⟩:=hW.c2;have X2:=h_ (HTX.out d Ck);have hpt:=jC Ck;have U0:=jz ls d;rw[Be] at U0;obtain⟨t0,t1⟩:=Fk.out t Bh;obtain⟨u0,u1⟩:=Fk.out u GV;have bK:Hid (∀v:World,Below wr.heap.size wr v->v.cell? ⟨w.heap.size,0,none⟩=some (.slice (some ⟨bn,offn,none⟩) ns.length cn)/\v.cell? ⟨w.heap.size,1,none⟩=some vl):=h_ (fun v hv=>⟨(hv.cell (p:=⟨w.heap.size,0,none⟩) gI).trans a_0,(hv.cell (p:=⟨w.heap.size,1,none⟩) gI).trans a_1⟩)
   go_wp2_with fail
   refine qD (n:=18) (S:=fun v=>v.cell? ⟨w.heap.size,0,none⟩=some (.slice (some ⟨bn,offn,none⟩) ns.length cn)/\v.cell? ⟨w.heap.size,1,none⟩=some vl) k_ (bK.out _ (aaj _ _).drew) (fun hS=>?_)
   refine tE_ 0 rfl rfl ?_;(try simp only[lp_])
   refine tE_ 1 rfl rfl ?_;(try simp only[lp_])
   refine tE_ 2 rfl rfl ?_;(try simp only[lp_])
   refine tE_ 3 rfl rfl ?_;(try simp only[lp_])
   refine tE_ 7 rfl rfl ?_;(try simp only[lp_])
   refine tE_ 8 rfl rfl ?_;(try simp only[lp_])
   refine tE_ 9 rfl rfl ?_;(try simp only[lp_])
   refine tE_ 10 rfl rfl ?_;(try simp only[lp_])
   refine tE_ 11 rfl rfl ?_;(try simp only[lp_])
   rw[X2.out];have HC:=h_ (fun (v:World) (hb:Below wr.heap.size wr v)=>yP (.slice (some ⟨bn,offn,none⟩) ns.length cn) vl ls d v (hl.below (Hd.trans (hb.mono Hd.size))) Ck);have HD:=h_ (fun (v:World) (hb:Below wr.heap.size wr v)=>yP (.slice (some ⟨bn,offn,none⟩) ns.length cn) vl ls (twin d) v (hl.below (Hd.trans (hb.mono Hd.size))) hpt);rw[MW] at HC;rw[U0] at HD;have rO:bn<wr.heap.size:=aaD Gh Hd.size;have HT:Hid (∀v:World,Below wr.heap.size wr v->v.cell? ⟨bn,offn+t*2,none⟩=some (.int .i64 (ndI ns t).1)/\v.cell? ⟨bn,offn+t*2+1,none⟩=some (.int .i64 (ndI ns t).2)):=h_ (fun v hv=>⟨(hv.cell (p:=⟨bn,offn+t*2,none⟩) rO).trans ((Hd.cell (p:=⟨bn,offn+t*2,none⟩) Gh).trans t0),(hv.cell (p:=⟨bn,offn+t*2+1,none⟩) rO).trans ((Hd.cell (p:=⟨bn,offn+t*2+1,none⟩) Gh).trans t1)⟩);have HU:Hid (∀v:World,Below wr.heap.size wr v->v.cell? ⟨bn,offn+u*2,none⟩=some (.int .i64 (ndI ns u).1)/\v.cell? ⟨bn,offn+u*2+1,none⟩=some (.int .i64 (ndI ns u).2)):=h_ (fun v hv=>⟨(hv.cell (p:=⟨bn,offn+u*2,none⟩) rO).trans ((Hd.cell (p:=⟨bn,offn+u*2,none⟩) Gh).trans u0),(hv.cell (p:=⟨bn,offn+u*2+1,none⟩) rO).trans ((Hd.cell (p:=⟨bn,offn+u*2+1,none⟩) Gh).trans u1)⟩);have HS:Hid (∀v:World,Below wr.heap.size wr v->v.cell? ⟨w.heap.size,0,none⟩=some (.slice (some ⟨bn,offn,none⟩) ns.length cn)/\v.cell? ⟨w.heap.size,1,none⟩=some vl):=bK
   have ru:Hid (yC ns ls d=(ndI ns t).1*(ndI ns u).2 -(ndI ns t).2*(ndI ns u).1):=h_ (by unfold yC;rw[MW,Be]);obtain⟨p0,p1,p2,p3⟩:=zF (NR.out t Bh);obtain⟨q0,q1,q2,q3⟩:=zF (NR.out u GV);have it1:(0:Int)<=(t:Int):=o_
   have it2:(t:Int)<(ns.length:Int):=o_
   have iu1:(0:Int)<=(u:Int):=o_
   have iu2:(u:Int)<(ns.length:Int):=o_
   generalize twin d=pe at*;clear bK t0 t1 u0 u1 MW Be U0
   refine z4B (n:=18) (Inv:=fun L a v=>∃v8 v9 v20 v21 v22 v28 v29 v30,a= {
     tmps:= #[.agg #[.slice (some ⟨bn,offn,none⟩) ns.length cn,vl],.slice (some ⟨b4,off4,none⟩) f.length cu,.pointer (some ⟨w.heap.size,0,none⟩),undef,.int .i64 0,.int .i64 (yv ns ls f k),undef,.int .i64 d,v8,v9,
      .slice (some ⟨b4,off4,none⟩) f.length cu,.int .i64 f.length,.int .i64 k,.bool true,.pointer (some ⟨b4,off4+k,none⟩),.int .i64 d,.pointer (some ⟨w.heap.size,0,none⟩),.slice (some ⟨bn,offn,none⟩) ns.length cn,.agg #[.slice (some ⟨bn,offn,none⟩) ns.length cn,vl],.int .i64 d,v20,v21,v22,
      .pointer (some ⟨w.heap.size,0,none⟩),.slice (some ⟨bn,offn,none⟩) ns.length cn,.agg #[.slice (some ⟨bn,offn,none⟩) ns.length cn,vl],.int .i64 d,.int .i64 pe,v28,v29,v30,
      u31,u32,u33,u34,u35,u36,u37,u38,u39,u40,u41,u42,u43,u44,undef],defers:=[] }/\
     Below wr.heap.size wr v/\(∀j∈ [0,1,2,3,7,8,9,10,11],tk L j=true)/\
     Aft L 4 (v20= .int .i64 t)/\Aft L 5 (v21= .pointer (some ⟨bn,offn+t*2,none⟩))/\Aft L 6 (v22= .agg #[.int .i64 (ndI ns t).1,.int .i64 (ndI ns t).2])/\
     Aft L 12 (v28= .int .i64 u)/\Aft L 13 (v29= .pointer (some ⟨bn,offn+u*2,none⟩))/\Aft L 14 (v30= .agg #[.int .i64 (ndI ns u).1,.int .i64 (ndI ns u).2])/\
     One L 15 17 wr.heap.size 106 #[.int .i64 0,.int .i64 0] #[.int .i64 (ndI ns t).1,.int .i64 (ndI ns t).2] v8 v/\
     One L 16 18 wr.heap.size 106 #[.int .i64 0,.int .i64 0] #[.int .i64 (ndI ns u).1,.int .i64 (ndI ns u).2] v9 v/\
     Apart2 L 15 16 v8 v9) (by decide) k_ k_ ?_ ?_ 10 _ _ _ rfl ?_ k_ ?_
   ·intro L a v hI i hi hr
    obtain⟨v8,v9,v20,v21,v22,v28,v29,v30,rfl,hb,GQ,f4,f5,f6,f12,f13,f14,o8,o9,p89⟩:=hI;have GV:=JP hr;have rH:=HS.out v hb
    rcases(show i=4∨i=5∨i=6∨i=12∨i=13∨i=14∨i=15∨i=16∨i=17∨i∈ [0,1,2,3,7,8,9,10,11] by simp only[List.mem_cons,List.mem_nil_iff,or_false];omega) with rfl|rfl|rfl|rfl|rfl|rfl|rfl|rfl|rfl|hm
    ·--4
     refine qM rfl (fun K hK=>?_)
     rw[aao (by rfl)];go_simp
     go_at_call 241
     refine(HC.out _ hb).mono ?_
     rintro en w1 ⟨rfl,Hb⟩
     go_wp2_with fail
     have gi:=hb.trans (Hb.mono hb.size);exact⟨HS.out _ gi,_,_,_,_,_,_,_,_,rfl,gi,preS GQ,Aft.new rfl,f5.keep (by decide),f6.keep (by decide),f12.keep (by decide),f13.keep (by decide),f14.keep (by decide),o8.step (by decide) (by decide) Hb,o9.step (by decide) (by decide) Hb,p89.step (by decide) (by decide)⟩
    ·--5
     obtain rfl:=f4 (qX hr rfl k_);refine qM rfl (fun K hK=>?_)
     rw[aao (by rfl)];go_simp;exact hK _ _ ⟨rH,_,_,_,_,_,_,_,_,rfl,hb,preS GQ,f4.keep (by decide),Aft.new rfl,f6.keep (by decide),f12.keep (by decide),f13.keep (by decide),f14.keep (by decide),o8.step (by decide) (by decide) (aaj _ _),o9.step (by decide) (by decide) (aaj _ _),p89.step (by decide) (by decide)⟩
    ·--6
     obtain rfl:=f5 (qX hr rfl k_);obtain⟨c0,c1⟩:=HT.out v hb;refine qM rfl (fun K hK=>?_)
     rw[aao (by rfl)];go_simp;exact hK _ _ ⟨rH,_,_,_,_,_,_,_,_,rfl,hb,preS GQ,f4.keep (by decide),f5.keep (by decide),Aft.new rfl,f12.keep (by decide),f13.keep (by decide),f14.keep (by decide),o8.step (by decide) (by decide) (aaj _ _),o9.step (by decide) (by decide) (aaj _ _),p89.step (by decide) (by decide)⟩
    ·--12
     refine qM rfl (fun K hK=>?_)
     rw[aao (by rfl)];go_simp
     go_at_call 241
     refine(HD.out _ hb).mono ?_
     rintro en w1 ⟨rfl,Hb⟩
     go_wp2_with fail
     have gi:=hb.trans (Hb.mono hb.size);exact⟨HS.out _ gi,_,_,_,_,_,_,_,_,rfl,gi,preS GQ,f4.keep (by decide),f5.keep (by decide),f6.keep (by decide),Aft.new rfl,f13.keep (by decide),f14.keep (by decide),o8.step (by decide) (by decide) Hb,o9.step (by decide) (by decide) Hb,p89.step (by decide) (by decide)⟩
    ·--13
     obtain rfl:=f12 (qX hr rfl k_);refine qM rfl (fun K hK=>?_)
     rw[aao (by rfl)];go_simp;exact hK _ _ ⟨rH,_,_,_,_,_,_,_,_,rfl,hb,preS GQ,f4.keep (by decide),f5.keep (by decide),f6.keep (by decide),f12.keep (by decide),Aft.new rfl,f14.keep (by decide),o8.step (by decide) (by decide) (aaj _ _),o9.step (by decide) (by decide) (aaj _ _),p89.step (by decide) (by decide)⟩
    ·--14
     obtain rfl:=f13 (qX hr rfl k_);obtain⟨c0,c1⟩:=HU.out v hb;refine qM rfl (fun K hK=>?_)
     rw[aao (by rfl)];go_simp;exact hK _ _ ⟨rH,_,_,_,_,_,_,_,_,rfl,hb,preS GQ,f4.keep (by decide),f5.keep (by decide),f6.keep (by decide),f12.keep (by decide),f13.keep (by decide),Aft.new rfl,o8.step (by decide) (by decide) (aaj _ _),o9.step (by decide) (by decide) (aaj _ _),p89.step (by decide) (by decide)⟩
    ·--15
     refine qM rfl (fun K hK=>?_)
     rw[aao (by rfl)];go_simp;have Hb:Below v.heap.size v (v.alloc (.cells #[.int .i64 0,.int .i64 0] 106)):=(aaj _ _).alloc (aaa _) _;have gi:=hb.trans (Hb.mono hb.size);exact hK _ _ ⟨HS.out _ gi,_,_,_,_,_,_,_,_,rfl,gi,preS GQ,f4.keep (by decide),f5.keep (by decide),f6.keep (by decide),f12.keep (by decide),f13.keep (by decide),f14.keep (by decide),o8.lay GV (by decide) hb.size,o9.step (by decide) (by decide) Hb,Apart2.newL o9 (by decide)⟩
    ·--16
     refine qM rfl (fun K hK=>?_)
     rw[aao (by rfl)];go_simp;have Hb:Below v.heap.size v (v.alloc (.cells #[.int .i64 0,.int .i64 0] 106)):=(aaj _ _).alloc (aaa _) _;have gi:=hb.trans (Hb.mono hb.size);exact hK _ _ ⟨HS.out _ gi,_,_,_,_,_,_,_,_,rfl,gi,preS GQ,f4.keep (by decide),f5.keep (by decide),f6.keep (by decide),f12.keep (by decide),f13.keep (by decide),f14.keep (by decide),o8.step (by decide) (by decide) Hb,o9.lay GV (by decide) hb.size,Apart2.newR o8 (by decide)⟩
    ·--17
     have h15:=qX (j:=15) hr rfl k_;obtain⟨g,rfl,hg,hB⟩:=o8.zero h15 GV;obtain rfl:=f6 (qX hr rfl k_);obtain⟨b_0,b_1,b_f0,b_f1⟩:=hB.b2;refine qM rfl (fun K hK=>?_)
     rw[aao (by rfl)];go_simp;have gi:=(hb.setCell (p:=⟨g,0,none⟩) hg (.int .i64 (ndI ns t).1)).setCell (p:=⟨g,1,none⟩) hg (.int .i64 (ndI ns t).2);exact hK _ _ ⟨HS.out _ gi,_,_,_,_,_,_,_,_,rfl,gi,preS GQ,f4.keep (by decide),f5.keep (by decide),f6.keep (by decide),f12.keep (by decide),f13.keep (by decide),f14.keep (by decide),o8.fill h15 GV rfl (by decide),o9.far (by decide) (by decide) (fun h=>(p89 h15 h).symm) 0 1 _ _,p89.step (by decide) (by decide)⟩
    ·rw[GQ i hm] at GV;cases GV
   ·intro a v hI
    obtain⟨v8,v9,v20,v21,v22,v28,v29,v30,rfl,hb,GQ,f4,f5,f6,f12,f13,f14,o8,o9,p89⟩:=hI;obtain rfl:=f14 k_;obtain⟨g9,rfl,W9,hB⟩:=o9.zero k_ k_;obtain⟨g8,rfl,hg8,Ya⟩:=o8.full k_;have n8:g8≠g9:=fun h=>p89 k_ k_ (by rw[h])
    obtain⟨b_0,b_1,b_f0,b_f1⟩:=hB.b2;refine zm (fuel:=0) (n:=18) (i:=18) rfl k_ (fun K hK=>?_)
    rw[aao (by rfl)];go_simp;refine hK _ _ (fun h=>absurd h (by decide)) (fun _=>?_)
    clear hK K;refine jr k_ ?_ _
    have gi:=(hb.setCell (p:=⟨g9,0,none⟩) W9 (.int .i64 (ndI ns u).1)).setCell (p:=⟨g9,1,none⟩) W9 (.int .i64 (ndI ns u).2)
    have uG:Blk ((v.setCell ⟨g9,0,none⟩ (.int .i64 (ndI ns u).1)).setCell ⟨g9,1,none⟩ (.int .i64 (ndI ns u).2)) g9 106 #[.int .i64 (ndI ns u).1,.int .i64 (ndI ns u).2]:=by
     have:=(hB.set_ 0 (.int .i64 (ndI ns u).1)).set_ 1 (.int .i64 (ndI ns u).2)
     simpa using this
    have uH:=(Ya.far (p:=⟨g9,0,none⟩) n8 (.int .i64 (ndI ns u).1)).far (p:=⟨g9,1,none⟩) n8 (.int .i64 (ndI ns u).2);generalize ((v.setCell ⟨g9,0,none⟩ (.int .i64 (ndI ns u).1)).setCell ⟨g9,1,none⟩ (.int .i64 (ndI ns u).2))=w3 at*;have hWW:=hW.below gi gI;have H4:=Hd.trans (gi.mono Hd.size);clear hB Ya b_0 b_1 b_f0 b_f1 hb o8 o9 p89 f4 f5 f6 f12 f13 f14 GQ HC HD HT HU HS hW Hd hS a_0 a_1;obtain⟨c_0,c_1,c_f0,c_f1⟩:=uH.b2;obtain⟨e_0,e_1,e_f0,e_f1⟩:=uG.b2;generalize (ndI ns t).1=X at*;generalize (ndI ns t).2=Y at*;generalize (ndI ns u).1=U at*;generalize (ndI ns u).2=V at*;have m1:=kv (u:=X) (v:=V) o_ o_ o_ o_;have m2:=kv (u:=Y) (v:=U) o_ o_ o_ o_;obtain⟨m1a,m1b⟩:=m1;obtain⟨m2a,m2b⟩:=m2;obtain⟨ba,bb⟩:=GB;go_wp2;go_roundw
    case rel=>
     have Bk:∃k':Nat,k'<=f.length/\Value.int .i64 ((k:Int)+1)= .int .i64 k'/\Value.int .i64 (yv ns ls f k+(X*V -Y*U))= .int .i64 (yv ns ls f k')/\Blk w3 w.heap.size 27 #[.slice (some ⟨bn,offn,none⟩) ns.length cn,vl]/\Below w.heap.size w w3:=⟨k+1,by omega,by go_num,by rw[nW.out,ru.out],hWW,H4⟩
     first|exact Bk|((repeat apply Exists.intro);exact⟨Bk,rfl⟩)
    case measure=>simp[intOf];omega
   ·intro j h1 h2
    have:j=18:=by
     have h3:j<19:=h2;omega
    subst this;rfl
   ·refine⟨_,_,_,_,_,_,_,_,rfl,(aaj _ _).drew,by decide,Aft.no rfl,Aft.no rfl,Aft.no rfl,Aft.no rfl,Aft.no rfl,Aft.no rfl,One.start rfl rfl,One.start rfl rfl,Apart2.start rfl⟩
  ·have gn:k=f.length:=o_
   subst gn;have HR:Hid (vy ns ls f=yv ns ls f f.length):=h_ rfl;go_wp2;go_ret
   exact⟨zi HR.out.symm,Hd⟩
attribute [local go_sem ↓] zU zT
theorem z2y (vn vl u:Value) (ns ls:List Pr) (f:List Nat) (w:World) (hn:RP w vn ns) (hl:RP w vl ls) (hu:RI w u (natI f)) (hf:∀e∈f,e<2*ls.length) (fK:f.length<=40) (Hk:zC ns ls):
  CB_ 193 #[.agg #[vn,vl],u] w (.int .i64 (vy ns ls f)):=by
 have Hr:∀j:Nat,j<ls.length->zt ns (ndI ls j)=true:=fun j hj=>(Hk.2.2.2.2.2 j hj).1
 obtain⟨An,cn,rfl,FQ,GW,Hp⟩:=hn.formI;obtain⟨bn,offn,rfl,Gh,Gj⟩:=Hp (by have:=Hk.1;omega);obtain⟨Au,cu,rfl,Yl,Ym,cK⟩:=hu.form;rw[za] at Yl Ym cK hu⊢;unfold maxLen at GW Ym;have mR:=h_ (fun k hk=>VT Hk hf k hk);have HTO:=h_ (fun d (hd:d<2*ls.length)=>jM Hr hd);have mt:=h_ (fun d (hd:d<2*ls.length)=>qL Hr hd);have NR:=h_ (fun t ht=>jY Hk.2.2.2.1 t ht);have Yc:=h_ (V0 ns ls f);have HA0:Hid (yv ns ls f 0=0):=h_ rfl;have Fk:=h_ Gj;have HCU:=h_ cK;have HFM:=h_ hf
 go_enter Tryz.func193,Tryz.ntmps193
 go_wp2
 go_loopw [5,6] (fun n x wr=>∃k:Nat,k<=f.length/\x= .int .i64 k/\n= .int .i64 (yv ns ls f k)/\Blk wr w.heap.size 27 #[.slice (some ⟨bn,offn,none⟩) ns.length cn,vl]/\Below w.heap.size w wr) (fun _ x _=>f.length -(intOf x).toNat)
 case atStart=>exact⟨0,aab _,rfl,by rw[HA0.out],Blk.newAt rfl,by exact bel_⟩
 case round=>
  obtain⟨k,hk,rfl,rfl,hW,Hd⟩:=hrel;have gI:=hW.lt
  by_cases Hf:k<f.length
  ·have Hu:(k:Int)<(f.length:Int):=o_
   have ik1:(0:Int)<=(k:Int):=o_
   obtain⟨b4,off4,rfl,H5,fU⟩:=HCU.out o_;have Fy:=fU k Hf;rw[qg] at Fy;have hx:=(Hd.cell (p:=⟨b4,off4+k,none⟩) H5).trans Fy;have Ck:f.getD k 0<2*ls.length:=HFM.out _ (by rw[List.getD,aac Hf];exact abg Hf);have nW:=h_ (Yc.out k);have GB:=mR.out k hk;generalize f.getD k 0=d at*;obtain⟨u,Be,GV⟩:=HTO.out d Ck;obtain⟨t,MW,Bh⟩:=mt.out d Ck;obtain⟨a_0,a_1⟩:=hW.c2;have nv:RP wr vl ls:=hl.below Hd;have uS:b4<wr.heap.size:=aaD H5 Hd.size
   go_wp2_with fail
   (refine z7 k_ k_ (fun hG=>?_))
   repeat (go_big_quiet_step ((go_at_call 192;exact zE (kA _ _ ls d _ (RS.grw _ nv) Ck))))
   refine wpQuiet_nil ?_
   rintro w3 ⟨⟨_,Hg⟩,rfl⟩;have Gz:=hW.below Hg gI;have gy:=Hd.trans (Hg.mono Hd.size);have ru:Hid (yC ns ls d=(ndI ns t).1*(ndI ns u).2 -(ndI ns t).2*(ndI ns u).1):=h_ (by unfold yC;rw[MW,Be]);obtain⟨p0,p1,p2,p3⟩:=zF (NR.out t Bh);obtain⟨q0,q1,q2,q3⟩:=zF (NR.out u GV);have hbn3:bn<w3.heap.size:=aaD Gh gy.size;have GF:=Gz.lt;have it1:(0:Int)<=(t:Int):=o_
   have it2:(t:Int)<(ns.length:Int):=o_
   have iu1:(0:Int)<=(u:Int):=o_
   have iu2:(u:Int)<(ns.length:Int):=o_
   obtain⟨t0,t1⟩:=Fk.out t Bh;obtain⟨u0,u1⟩:=Fk.out u GV;have c0:=(gy.cell (p:=⟨bn,offn+t*2,none⟩) Gh).trans t0;have c1:=(gy.cell (p:=⟨bn,offn+t*2+1,none⟩) Gh).trans t1;have c2:=(gy.cell (p:=⟨bn,offn+u*2,none⟩) Gh).trans u0;have c3:=(gy.cell (p:=⟨bn,offn+u*2+1,none⟩) Gh).trans u1;rw[Be,MW];obtain⟨a_0,a_1⟩:=Gz.c2;generalize (ndI ns t).1=X at*;generalize (ndI ns t).2=Y at*;generalize (ndI ns u).1=U at*;generalize (ndI ns u).2=V at*;obtain⟨m1a,m1b⟩:=kv (u:=X) (v:=V) o_ o_ o_ o_;obtain⟨m2a,m2b⟩:=kv (u:=Y) (v:=U) o_ o_ o_ o_;obtain⟨ba,bb⟩:=GB
   go_wp2_with fail
   (refine z7 k_ k_ (fun hG=>?_))
   repeat (go_big_quiet_step (fail))
   refine wpQuiet_nil ?_
   rintro w4 ⟨⟨_,nI⟩,rfl⟩;have bj:=h_ (Gz.below nI Gz.lt);have nV:=h_ (gy.trans (nI.mono gy.size));go_wp2;go_roundw
   case rel=>exact⟨k+1,by omega,by go_num,by rw[nW.out,ru.out];congr 1;omega,bj.out,nV.out⟩
   case measure=>simp[intOf];omega
  ·have gn:k=f.length:=o_
   subst gn;have HR:Hid (vy ns ls f=yv ns ls f f.length):=h_ rfl;go_wp2;go_ret
   exact⟨zi HR.out.symm,Hd⟩
theorem y7 {ns ls:List Pr} {k:Nat} (hk:k<(z9 ns ls).length):zC ns ls/\(∀e∈(z9 ns ls).getD k [],e<2*ls.length)/\0<((z9 ns ls).getD k []).length /\((z9 ns ls).getD k []).length <=40:=by
 cases hw:zf ns ls
 ·simp[z9,hw] at hk
 ·have Hk:=(zL hw).1
  have Hr:∀j:Nat,j<ls.length->zt ns (ndI ls j)=true:=fun j hj=>(Hk.2.2.2.2.2 j hj).1
  have GN:=Hk.2.2.1;have hF:z9 ns ls=zG ns ls (2*ls.length):=by simp[z9,hw];rfl
  rw[hF] at hk⊢;have hm:(zG ns ls (2*ls.length)).getD k []∈zG ns ls (2*ls.length):=by rw[List.getD,aac hk];exact abg hk
  obtain⟨h1,h2,h3⟩:=ZD Hr (2*ls.length) (aaa _) _ hm;exact⟨Hk,h1,h2,by omega⟩
theorem zD (ns ls:List Pr):(z9 ns ls).length <=40:=by
 cases hw:zf ns ls
 ·simp[z9,hw]
 ·have GN:=(zL hw).1.2.2.1
  have hF:z9 ns ls=zG ns ls (2*ls.length):=by simp[z9,hw];rfl
  rw[hF];have:=kW ns ls (2*ls.length);omega
noncomputable def j7 (ns ls:List Pr):Int:=z7B ns ls (z9 ns ls)
theorem VA {ns ls:List Pr} {F:List (List Nat)} {m k:Nat} (h:vy ns ls (F.getD k [])<=0):jB ns ls F (m+1) k=k:=by simp only[jB];rw[aao h]
theorem z0g {ns ls:List Pr} {F:List (List Nat)} {m k:Nat} (h:¬vy ns ls (F.getD k [])<=0):jB ns ls F (m+1) k=jB ns ls F m (k+1):=by simp only[jB];rw[aaq h]
theorem VP (vn vl:Value) (ns ls:List Pr) (w:World) (hn:RP w vn ns) (hl:RP w vl ls):
  CB_ 149 #[.agg #[vn,vl]] w (.int .i64 (j7 ns ls)):=by
 have Hi:Below w.heap.size w (w.alloc (.cells #[vn,vl] 27)):=bel_
 have gE:Blk (w.alloc (.cells #[vn,vl] 27)) w.heap.size 27 #[vn,vl]:=Blk.newAt rfl;have FB:=h_ (fun k hk=>y7 (ns:=ns) (ls:=ls) (k:=k) hk);have fK:=zD ns ls;have HR:Hid (j7 ns ls=jB ns ls (z9 ns ls) (z9 ns ls).length 0):=h_ rfl;have HOY:=h_ (fun m k h=>VA (ns:=ns) (ls:=ls) (F:=z9 ns ls) (m:=m) (k:=k) h);have HON:=h_ (fun m k h=>z0g (ns:=ns) (ls:=ls) (F:=z9 ns ls) (m:=m) (k:=k) h);have uT:Hid (∀k,jB ns ls (z9 ns ls) 0 k= -1):=h_ (fun _=>rfl)
 go_enter Tryz.func149,Tryz.ntmps149
 go_wp2_with fail
 refine(jS vn vl ns ls _ (hn.below Hi) (hl.below Hi)).mono ?_
 rintro e w1 ⟨v1,rfl,Hj,Hb⟩;have Ha:=Hi.trans (Hb.mono Hi.size);have gc:=gE.below Hb gE.lt;have uU:=Hj.reads;generalize z9 ns ls=F at*;obtain⟨A1,c1,rfl,gl,bH,Fc⟩:=uU.get;unfold maxLen at bH;obtain⟨a_0,a_1⟩:=gc.c2;go_wp2
 go_loopw [8] (fun x wr=>∃k:Nat,k<=F.length/\x= .int .i64 k/\Hid (jB ns ls F F.length 0=jB ns ls F (F.length -k) k)/\RF wr (.slice A1 F.length c1) F/\Blk wr w.heap.size 27 #[vn,vl]/\Below w.heap.size w wr) (fun x _=>F.length -(intOf x).toNat)
 case atStart=>exact⟨0,aab _,rfl,h_ rfl,uU,gc,Ha⟩
 case round=>
  obtain⟨k,hk,rfl,HK,hF,hW,Hd⟩:=hrel;have gI:=hW.lt
  by_cases Hf:k<F.length
  ·have Hu:(k:Int)<(F.length:Int):=o_
   have ik1:(0:Int)<=(k:Int):=o_
   obtain⟨A2,c2,he2,_,_,hcell⟩:=hF.get
   cases he2
   obtain⟨b4,off4,rfl,H5,fU⟩:=hcell o_;obtain⟨rr,Bp,M4⟩:=fU k Hf;obtain⟨Hk,MC,nY,BM⟩:=FB.out k Hf;have Wg:=h_ (fun (v:World) (u:Value) (hb:Below w.heap.size w v) (hu:RI v u (natI (F.getD k [])))=>z3c vn vl u ns ls (F.getD k []) v (hn.below hb) (hl.below hb) hu MC BM Hk);have HY:=h_ (fun h=>HOY.out (F.length -(k+1)) k h);have BL:=h_ (fun h=>HON.out (F.length -(k+1)) k h);rw[show F.length -(k+1)+1=F.length -k by omega] at HY BL;generalize vy ns ls (F.getD k [])=z at*;obtain⟨a_0,a_1⟩:=hW.c2
   go_wp2_with fail
   refine(Wg.out wr rr Hd M4).mono ?_
   rintro e w5 ⟨rfl,gk⟩;have Mm:=hW.below gk gI;have hF5:=hF.below gk;have nZ:=Hd.trans (gk.mono Hd.size)
   by_cases hz:z<=0
   ·have HX:=h_ (HY.out hz)
    go_wp2;go_ret
    exact⟨zi (by rw[HR.out,HK.out,HX.out]),nZ⟩
   ·have HX:=h_ (BL.out o_)
    go_wp2;go_roundw
    case rel=>exact⟨k+1,by omega,by go_num,h_ (by rw[HK.out,HX.out]),hF5,Mm,nZ⟩
    case measure=>simp[intOf];omega
  ·have gn:k=F.length:=o_
   have HX:Hid (jB ns ls F (F.length -k) k= -1):=h_ (by rw[gn,aae];exact uT.out _);go_wp2;go_ret
   exact⟨zi (by rw[HR.out,HK.out,HX.out]),Hd⟩
theorem X7 (vn vl:Value) (ns ls:List Pr) (w:World) (hn:RP w vn ns) (hl:RP w vl ls):
  CB_ 115 #[.agg #[vn,vl]] w (.int .i64 (j7 ns ls)):=by
 have Hi:Below w.heap.size w (w.alloc (.cells #[vn,vl] 27)):=bel_
 have gE:Blk (w.alloc (.cells #[vn,vl] 27)) w.heap.size 27 #[vn,vl]:=Blk.newAt rfl;have FB:=h_ (fun k hk=>y7 (ns:=ns) (ls:=ls) (k:=k) hk);have fK:=zD ns ls;have HR:Hid (j7 ns ls=jB ns ls (z9 ns ls) (z9 ns ls).length 0):=h_ rfl;have HOY:=h_ (fun m k h=>VA (ns:=ns) (ls:=ls) (F:=z9 ns ls) (m:=m) (k:=k) h);have HON:=h_ (fun m k h=>z0g (ns:=ns) (ls:=ls) (F:=z9 ns ls) (m:=m) (k:=k) h);have uT:Hid (∀k,jB ns ls (z9 ns ls) 0 k= -1):=h_ (fun _=>rfl)
 go_enter Tryz.func115,Tryz.ntmps115
 go_wp2_with fail
 refine(jU vn vl ns ls _ (hn.below Hi) (hl.below Hi)).mono ?_
 rintro e w1 ⟨v1,rfl,Hj,Hb⟩;have Ha:=Hi.trans (Hb.mono Hi.size);have gc:=gE.below Hb gE.lt;have uU:=Hj.reads;generalize z9 ns ls=F at*;obtain⟨A1,c1,rfl,gl,bH,Fc⟩:=uU.get;unfold maxLen at bH;obtain⟨a_0,a_1⟩:=gc.c2;go_wp2
 go_loopw [4] (fun x wr=>∃k:Nat,k<=F.length/\x= .int .i64 k/\Hid (jB ns ls F F.length 0=jB ns ls F (F.length -k) k)/\RF wr (.slice A1 F.length c1) F/\Blk wr w.heap.size 27 #[vn,vl]/\Below w.heap.size w wr) (fun x _=>F.length -(intOf x).toNat)
 case atStart=>exact⟨0,aab _,rfl,h_ rfl,uU,gc,Ha⟩
 case round=>
  obtain⟨k,hk,rfl,HK,hF,hW,Hd⟩:=hrel;have gI:=hW.lt
  by_cases Hf:k<F.length
  ·have Hu:(k:Int)<(F.length:Int):=o_
   have ik1:(0:Int)<=(k:Int):=o_
   obtain⟨A2,c2,he2,_,_,hcell⟩:=hF.get
   cases he2
   obtain⟨b4,off4,rfl,H5,fU⟩:=hcell o_;obtain⟨rr,Bp,M4⟩:=fU k Hf;obtain⟨Hk,MC,nY,BM⟩:=FB.out k Hf;have Wg:=h_ (fun (v:World) (u:Value) (hb:Below w.heap.size w v) (hu:RI v u (natI (F.getD k [])))=>z2y vn vl u ns ls (F.getD k []) v (hn.below hb) (hl.below hb) hu MC BM Hk);have HY:=h_ (fun h=>HOY.out (F.length -(k+1)) k h);have BL:=h_ (fun h=>HON.out (F.length -(k+1)) k h);rw[show F.length -(k+1)+1=F.length -k by omega] at HY BL;generalize vy ns ls (F.getD k [])=z at*;obtain⟨a_0,a_1⟩:=hW.c2
   go_wp2_with fail
   (refine z7 k_ k_ (fun hG=>?_))
   repeat (go_big_quiet_step ((go_at_call 193;exact zE (Wg.out _ rr (Hd.trans (Below.mono (Grw.below _) Hd.size)) (RS.grw _ M4)))))
   refine wpQuiet_nil ?_
   rintro w5 ⟨⟨_,gk⟩,rfl⟩;have Mm:=hW.below gk gI;have hF5:=hF.below gk;have nZ:=Hd.trans (gk.mono Hd.size)
   by_cases hz:z<=0
   ·have HX:=h_ (HY.out hz)
    go_wp2;go_ret
    exact⟨zi (by rw[HR.out,HK.out,HX.out]),nZ⟩
   ·have HX:=h_ (BL.out o_)
    go_wp2;go_roundw
    case rel=>exact⟨k+1,by omega,by go_num,h_ (by rw[HK.out,HX.out]),hF5,Mm,nZ⟩
    case measure=>simp[intOf];omega
  ·have gn:k=F.length:=o_
   have HX:Hid (jB ns ls F (F.length -k) k= -1):=h_ (by rw[gn,aae];exact uT.out _);go_wp2;go_ret
   exact⟨zi (by rw[HR.out,HK.out,HX.out]),Hd⟩
open Go.ChangeShapes Go.WideShapes Go.RowKit
structure Dp where
 k:Int
 a:Int
 b:Int
def Dp.cs (r:Dp):List Value:=[.int .i64 r.k,.int .i64 r.a,.int .i64 r.b]
def RDp (w:World) (v:Value) (l:List Dp):Prop:=RS w 3 v l.length (l.flatMap Dp.cs)
theorem RDp.below {w w':World} {v:Value} {l:List Dp} (h:RDp w v l) (hb:Below w.heap.size w w'):RDp w' v l:=RS.below h hb
theorem RDp.form {w:World} {v:Value} {l:List Dp} (h:RDp w v l):∃A c,v= .slice A l.length c/\l.length<=c/\l.length<=maxLen/\
  (0<l.length->∃b off,A=some ⟨b,off,none⟩/\b<w.heap.size/\∀k (hk:k<l.length),w.cell? ⟨b,off+k*3,none⟩=some (.int .i64 l[k].k)/\w.cell? ⟨b,off+k*3+1,none⟩=some (.int .i64 l[k].a)/\
   w.cell? ⟨b,off+k*3+2,none⟩=some (.int .i64 l[k].b)):=by
 obtain⟨_,A,c,hv,h1,h2,h3⟩:=h;refine⟨A,c,hv,h1,h2,fun hn=>?_⟩
 obtain⟨b,off,hA,Hf,hc⟩:=h3 hn;refine⟨b,off,hA,Hf,fun k hk=>?_⟩
 have g:=fun j hj=>yA Dp.cs 3 (fun _=>rfl) l k j hk hj
 refine⟨?_,?_,?_⟩
 ·exact hc (k*3+0) _ (by rw[g 0 o_];rfl)
 ·have:=hc (k*3+1) _ (by rw[g 1 o_];rfl);rwa [<-aak] at this
 ·have:=hc (k*3+2) _ (by rw[g 2 o_];rfl);rwa [<-aak] at this
section
variable {H:Type} {enc:TypeId×Value->H} {w:World} {base:Nat} {spare:Nat->Bool} {mz:Bool}
end
theorem ki:(Tryz.prog.info? 48).map (fun i=>(i.zero,i.size,i.bytes))=some (some (.agg #[.int .i64 0,.int .i64 0,.int .i64 0]),3,24):=by kernel_rfl
def zx (base:Nat) (w:World) (v:Value) (l:List Dp):Prop:=w.ownsRow base 48 3 v l.length (l.flatMap Dp.cs)
theorem zx.reads {base:Nat} {w:World} {v:Value} {l:List Dp} (h:zx base w v l):RDp w v l:=kI h
theorem zx.kept {base:Nat} {w w':World} {v:Value} {l:List Dp} (h:zx base w v l) (hb:Below w.heap.size w w'):zx base w' v l:=ql h hb
def z9X (l:List Dp) (w:World) (e:Ending) (w':World):Prop:=∃v,e= .returned v/\zx w.heap.size w' v l/\Below w.heap.size w w'
theorem zx.nil (base:Nat) (w:World):zx base w (.slice none 0 0) []:=World.ownsRow_nil _ _ _ _
noncomputable def cn (m:Nat) (p:Nat->Prop):Nat:=((List.range m).filter (fun i=> @decide (p i) (Classical.propDecidable _))).length
structure Swp (m n:Nat) where
 a:Nat->Nat
 b:Nat->Nat
 Bel:Nat->Nat->Prop
 low:Nat->Nat->Prop
 ab:∀j,j<m->a j<b j/\b j<n
 irr:∀j,j<m->¬Bel j j
 tot:∀s i j,i<m->j<m->a i<s->s<=b i->a j<s->s<=b j->i≠j->Bel i j∨Bel j i
 trans:∀s i j k,i<m->j<m->k<m->a i<s->s<=b i->a j<s->s<=b j->a k<s->s<=b k->Bel i j->Bel j k->Bel i k
 lowL:∀s i j,i<m->j<m->a i<s->s<b i->b j=s->(low s i->Bel i j)/\(¬low s i->Bel j i)
 lowR:∀s i j,i<m->j<m->a i<s->s<b i->a j=s->(low s i->Bel i j)/\(¬low s i->Bel j i)
 lowP:∀s i j,i<m->j<m->a i<s->s<b i->a j<s->s<b j->low s i->¬low s j->Bel i j
namespace Swp
variable {m n:Nat} (S:Swp m n)
def Cr (s j:Nat):Prop:=S.a j<s/\s<=S.b j
def Ps (s j:Nat):Prop:=S.a j<s/\s<S.b j
noncomputable def K (s:Nat):Nat:=cn m (S.Cr s)
noncomputable def pos (s j:Nat):Nat:=cn m (fun i=>S.Cr s i/\S.Bel i j)
noncomputable def bb (s:Nat):Nat:=cn m (fun i=>S.Ps s i/\S.low s i)
noncomputable def aa (s:Nat):Nat:=cn m (fun i=>S.Ps s i/\¬S.low s i)
noncomputable def ll (s:Nat):Nat:=cn m (fun i=>S.b i=s)
noncomputable def rr (s:Nat):Nat:=cn m (fun i=>S.a i=s)
noncomputable def off:Nat->Nat
 |0=>0
 |s+1=>off s+S.K s+1
noncomputable def eB (s:Nat):List (Nat×Nat):=(List.range (S.bb s+1)).map (fun i=>(S.off s+i,S.off (s+1)+i))
noncomputable def eA (s k:Nat):List (Nat×Nat):=(List.range k).map (fun i=>(S.off s+(S.bb s+S.ll s)+i,S.off (s+1)+(S.bb s+S.rr s)+i))
noncomputable def eUp:Nat->List (Nat×Nat)
 |0=> []
 |s+1=>eUp s++(S.eB s++S.eA s (S.aa s+1))
noncomputable def eAll (t:Nat):List (Nat×Nat):=S.eUp t++(S.eB t++S.eA t (S.aa t))
end Swp
namespace Swp
variable {m n:Nat} (S:Swp m n)
noncomputable def lab (x:Nat):Nat:=labE (S.eAll (n -1)) x
noncomputable def gap (fw:Bool) (s j:Nat):Nat:=if fw then S.off s+S.pos s j+1 else S.off s+S.pos s j
inductive Turn (s:Nat):Bool->Nat->Bool->Nat->Prop
 |upL {j j':Nat} (h:S.b j=s) (h':S.b j'=s) (hb:S.Bel j j') (hn:∀k,k<m->S.b k=s->¬(S.Bel j k/\S.Bel k j')):Turn s true j false j'
 |backL {j j':Nat} (h:S.b j=s) (h':S.b j'=s) (hj:∀i,i<m->S.b i=s->¬S.Bel j i) (Fb:∀i,i<m->S.b i=s->¬S.Bel i j') (hn:∀i,i<m->S.a i≠s):Turn s true j false j'
 |over {j j':Nat} (h:S.b j=s) (h':S.a j'=s) (hj:∀i,i<m->S.b i=s->¬S.Bel j i) (Fb:∀i,i<m->S.a i=s->¬S.Bel j' i):Turn s true j true j'
 |downR {j j':Nat} (h:S.a j=s) (h':S.a j'=s) (hb:S.Bel j' j) (hn:∀k,k<m->S.a k=s->¬(S.Bel j' k/\S.Bel k j)):Turn s false j true j'
 |backR {j j':Nat} (h:S.a j=s) (h':S.a j'=s) (hj:∀i,i<m->S.a i=s->¬S.Bel i j) (Fb:∀i,i<m->S.a i=s->¬S.Bel j' i) (hn:∀i,i<m->S.b i≠s):Turn s false j true j'
 |under {j j':Nat} (h:S.a j=s) (h':S.b j'=s) (hj:∀i,i<m->S.a i=s->¬S.Bel i j) (Fb:∀i,i<m->S.b i=s->¬S.Bel i j'):Turn s false j false j'
end Swp
def Xp (p:Pr):Int:=42*p.1+2*p.2
theorem jI {ns ls:List Pr} (h:zC ns ls) {j:Nat} (hj:j<ls.length):zt ns (ndI ls j)=true:=(h.2.2.2.2.2 j hj).1
def ptN (ns:List Pr) (v:Nat):Pr:=ndI ns v
def lN (ns ls:List Pr) (j:Nat):Nat:=if Xp (ndI ns (zd ls (2*j)))<Xp (ndI ns (dTo ls (2*j))) then(zd ls (2*j)).toNat else(dTo ls (2*j)).toNat
def rN (ns ls:List Pr) (j:Nat):Nat:=if Xp (ndI ns (zd ls (2*j)))<Xp (ndI ns (dTo ls (2*j))) then(dTo ls (2*j)).toNat else(zd ls (2*j)).toNat
section
variable {ns ls:List Pr} (h:zC ns ls)
include h
end
def Hts (ns ls:List Pr) (P:Int) (A B:Nat->Int):Prop:=
 0<P/\∀j,j<ls.length->A j*Xp (ptN ns (lN ns ls j))+B j=P*(ptN ns (lN ns ls j)).2/\A j*Xp (ptN ns (rN ns ls j))+B j=P*(ptN ns (rN ns ls j)).2
section
variable {ns ls:List Pr} {P:Int} {A B:Nat->Int} (h:zC ns ls) (hh:Hts ns ls P A B)
include h hh
end
def qH (F:List (List Nat)) (d:Nat):Nat:=F.findIdx (·.contains d)
theorem yn {F:List (List Nat)} {d:Nat} (h:d∈F.flatten):qH F d<F.length/\d∈F.getD (qH F d) []:=by
 rw[List.mem_flatten] at h;obtain⟨f,hf,hd⟩:=h;have h1:qH F d<F.length:=List.findIdx_lt_length_of_exists ⟨f,hf,by simpa using hd⟩;refine⟨h1,?_⟩
 have h2:(F[qH F d]'h1).contains d=true:=List.findIdx_getElem (w:=h1);rw[List.getD,aac h1]
 simpa using h2
theorem yH:∀ {F:List (List Nat)},F.flatten.Nodup->∀ {i j d:Nat},i<F.length->j<F.length->d∈F.getD i []->d∈F.getD j []->i=j
 | [],_,i,j,d,hi,_,_,_=>absurd hi (by simp)
 |f::F,hn,i,j,d,hi,hj,h1,h2=>by
  rw[List.flatten_cons,List.nodup_append] at hn;obtain⟨_,bE,hn3⟩:=hn
  have mem:∀k,k<F.length->d∈F.getD k []->d∈F.flatten:=fun k hk hd=>by
   rw[List.mem_flatten];rw[List.getD,aac hk] at hd;exact⟨F[k],abg hk,by simpa using hd⟩
  match i,j with
  |0,0=>rfl
  |0,j+1=>exact absurd rfl (hn3 d (by simpa using h1) d (mem j (by simpa using hj) (by simpa using h2)))
  |i+1,0=>exact absurd rfl (hn3 d (by simpa using h2) d (mem i (by simpa using hi) (by simpa using h1)))
  |i+1,j+1=>rw[yH bE (show i<F.length by simpa using hi) (show j<F.length by simpa using hj) (by simpa using h1) (by simpa using h2)]
section
variable {ns ls:List Pr} (Hr:∀j:Nat,j<ls.length->zt ns (ndI ls j)=true)
include Hr
theorem z32 {f d:Nat} (hf:f<(zg ns ls).length) (hd:d∈(zg ns ls).getD f []):qH (zg ns ls) d=f:=by
 obtain⟨_,h2,_⟩:=qW Hr (2*ls.length) (aaa _)
 have hm:d∈(zg ns ls).flatten :=by
  rw[List.mem_flatten];rw[List.getD,aac hf] at hd;exact⟨_,abg hf,by simpa using hd⟩
 obtain⟨g1,g2⟩:=yn hm;exact yH h2 g1 hf g2 hd
theorem z43 {d:Nat} (hd:d<2*ls.length):qH (zg ns ls) (j4 ns ls d)=qH (zg ns ls) d:=by
 obtain⟨h1,h2,h3⟩:=qW Hr (2*ls.length) (aaa _);obtain⟨g1,g2⟩:=yn (h1 d hd);refine z32 Hr g1 ?_
 have hm:(zG ns ls (2*ls.length)).getD (qH (zG ns ls (2*ls.length)) d) []∈zG ns ls (2*ls.length):=by
  rw[List.getD,aac g1];exact abg g1
 obtain⟨e,he,hw⟩:=h3 _ hm;rw[hw] at g2
 show j4 ns ls d∈(zG ns ls (2*ls.length)).getD (qH (zG ns ls (2*ls.length)) d) []
 rw[hw];obtain⟨i,hi⟩:=(yB Hr he d).1 g2;exact(yB Hr he _).2 ⟨i+1,by rw[<-hi];rfl⟩
theorem z1P {f:Nat} (hf:f<(zg ns ls).length):∃d,d<2*ls.length/\qH (zg ns ls) d=f:=by
 obtain⟨_,_,h3⟩:=qW Hr (2*ls.length) (aaa _);obtain⟨e,he,hw⟩:=h3 _ (abg hf);refine⟨e,he,z32 Hr hf ?_⟩
 have hw':(zg ns ls)[f]=qG ns ls e:=hw;rw[List.getD,aac hf,Option.getD_some,hw'];exact z0v Hr he
end
theorem z9b (g:Nat->Int) (bf:Nat->Bool) (d:Nat) (G:List Nat):((insN bf d G).map g).sum =g d+(G.map g).sum :=by
 unfold insN;have hs:=abo (posN bf G G.length) G;generalize G.take (posN bf G G.length)=a at*;generalize G.drop (posN bf G G.length)=b at*;subst hs;simp only[aaz,List.sum_append,aaS,List.sum_cons]
 omega
theorem z1L (ns ls:List Pr) (g:Nat->Int) (k:Nat):∀m,((ardS ns ls k m).map g).sum =sumR m (fun d=>if zd ls d=(k:Int) then g d else 0)
 |0=>by simp[ardS,sumR]
 |m+1=>by
  simp only[sumR]
  by_cases h:zd ls m=k
  ·rw[kC h,z9b,z1L ns ls g k m,aao h];omega
  ·rw[Qj h,z1L ns ls g k m,aaq h];omega
theorem z4n {ns ls:List Pr} {k i:Nat} (hi:i<(ardS ns ls k (2*ls.length)).length):
  vf ns ls ((ardS ns ls k (2*ls.length)).getD i 0)=(ardS ns ls k (2*ls.length)).getD ((i+(ardS ns ls k (2*ls.length)).length -1)%(ardS ns ls k (2*ls.length)).length) 0:=by
 have hm:(ardS ns ls k (2*ls.length)).getD i 0∈ardS ns ls k (2*ls.length):=by
  rw[List.getD,aac hi];exact abg hi
 obtain⟨h1,h2⟩:=(yf ns ls k _ _).1 hm
 have hr:qK ns ls ((ardS ns ls k (2*ls.length)).getD i 0)=ardS ns ls k (2*ls.length):=by
  unfold qK;rw[h2,aa5]
 unfold vf;rw[hr]
 have hx:(ardS ns ls k (2*ls.length)).idxOf ((ardS ns ls k (2*ls.length)).getD i 0)=i:=by
  rw[List.getD,aac hi];simp only[Option.getD_some]
  have Hf:=abt (abg hi);exact(List.getElem_inj (vS ns ls k (2*ls.length))).1 (List.getElem_idxOf Hf)
 rw[hx]
theorem z7O (ns ls:List Pr) (g:Nat->Int) (k:Nat):((ardS ns ls k (2*ls.length)).map (fun e=>g (vf ns ls e))).sum =((ardS ns ls k (2*ls.length)).map g).sum :=by
 rw[Vl,Vl,<-z7n (fun i=>g ((ardS ns ls k (2*ls.length)).getD i 0))];exact yR _ (fun i hi=>by rw[z4n hi])
theorem z5Z {ns ls:List Pr} {g:Nat->Int} (hg:∀d,d<2*ls.length->g (j4 ns ls d)=g d) (k:Nat):
  sumR (2*ls.length) (fun d=>if zd ls d=(k:Int) then g d -g (twin d) else 0)=0:=by
 rw[<-z1L ns ls (fun d=>g d -g (twin d)) k]
 have h1:((ardS ns ls k (2*ls.length)).map (fun d=>g d -g (twin d))).sum =((ardS ns ls k (2*ls.length)).map g).sum -((ardS ns ls k (2*ls.length)).map (fun d=>g (twin d))).sum :=by
  generalize ardS ns ls k (2*ls.length)=R
  induction R with
  |nil=>rfl
  |cons a R ih=>simp only[aaS,List.sum_cons] at ih⊢;omega
 rw[h1]
 have h2:(ardS ns ls k (2*ls.length)).map (fun d=>g (twin d))=(ardS ns ls k (2*ls.length)).map (fun e=>g (vf ns ls e)):=by
  refine List.map_congr_left (fun e he=>?_)
  have hd:=((yf ns ls k _ _).1 he).1;have:=hg (twin e) (jC hd);unfold j4 at this;rw[vF] at this;exact this.symm
 rw[h2,z7O ns ls];omega
section
variable {ns ls:List Pr} (Hr:∀j:Nat,j<ls.length->zt ns (ndI ls j)=true)
include Hr
theorem z7b {g:Nat->Int} (hg:∀d,d<2*ls.length->g (j4 ns ls d)=g d) (X:Nat->Int):
  sumR ls.length (fun j=>(X (zd ls (2*j)).toNat -X (dTo ls (2*j)).toNat)*(g (2*j) -g (2*j+1)))=0:=by
 have h0:sumR ns.length (fun v=>sumR (2*ls.length) (fun d=>if (v:Nat)=(zd ls d).toNat then X v*(g d -g (twin d)) else 0))=0:=by
  refine Zz _ (fun v hv=>?_)
  have h:=z5Z hg v
  have e:sumR (2*ls.length) (fun d=>if (v:Nat)=(zd ls d).toNat then X v*(g d -g (twin d)) else 0)=X v*sumR (2*ls.length) (fun d=>if zd ls d=(v:Int) then g d -g (twin d) else 0):=by
   have hm:∀m,m<=2*ls.length->sumR m (fun d=>if (v:Nat)=(zd ls d).toNat then X v*(g d -g (twin d)) else 0)=X v*sumR m (fun d=>if zd ls d=(v:Int) then g d -g (twin d) else 0):=by
    intro m
    induction m with
    |zero=>intro _;simp[sumR]
    |succ m ih=>
     intro hm;simp only[sumR]
     rw[ih o_,Int.mul_add];obtain⟨t,ht,_⟩:=qL Hr (show m<2*ls.length by omega)
     by_cases N8:t=v
     ·rw[aao (by rw[ht,aa5];exact N8.symm),aao (by rw[ht,N8])]
     ·rw[aaq (by rw[ht,aa5];exact fun h=>N8 h.symm),aaq (by rw[ht];omega),Int.mul_zero]
   exact hm _ (aaa _)
  rw[e,h,Int.mul_zero]
 rw[XL] at h0
 have h1:sumR (2*ls.length) (fun d=>sumR ns.length (fun v=>if v=(zd ls d).toNat then X v*(g d -g (twin d)) else 0))=sumR (2*ls.length) (fun d=>X (zd ls d).toNat *(g d -g (twin d))):=by
  refine yR _ (fun d hd=>?_)
  obtain⟨t,ht,hl⟩:=qL Hr hd;rw[ZO (fun v=>X v*(g d -g (twin d))) (zd ls d).toNat ns.length,aao (by rw[ht,aa5];exact hl)]
 rw[h1,z2v] at h0;rw[<-h0];refine yR _ (fun j hj=>?_)
 have t1:twin (2*j)=2*j+1:=by unfold twin;rw[aao o_]
 have t2:twin (2*j+1)=2*j:=by unfold twin;rw[aaq o_];omega
 have t3:zd ls (2*j+1)=dTo ls (2*j):=by rw[<-t1,jz]
 rw[t1,t2,t3,Int.sub_mul]
 have:X (dTo ls (2*j)).toNat *(g (2*j+1) -g (2*j))= -(X (dTo ls (2*j)).toNat *(g (2*j) -g (2*j+1))):=by
  rw[<-Int.mul_neg];congr 1;omega
 omega
theorem Zw {g:Nat->Int} (hg:∀d,d<2*ls.length->g (j4 ns ls d)=g d) (ht:∀d,d<2*ls.length->g (twin d)=g d) {d e:Nat} (hd:d<2*ls.length) (he:e<2*ls.length) (hf:zd ls d=zd ls e):g d=g e:=by
 obtain⟨k,hk,_⟩:=qL Hr hd
 have key:∀i,i<(ardS ns ls k (2*ls.length)).length ->g ((ardS ns ls k (2*ls.length)).getD i 0)=g ((ardS ns ls k (2*ls.length)).getD 0 0):=by
  intro i
  induction i with
  |zero=>intro _;rfl
  |succ i ih=>
   intro hi;rw[<-ih o_];have h1:=z4n (ns:=ns) (ls:=ls) hi;rw[show i+1+(ardS ns ls k (2*ls.length)).length -1=i+(ardS ns ls k (2*ls.length)).length by omega,Nat.add_mod_right,abu o_] at h1;rw[<-h1]
   have hm:(ardS ns ls k (2*ls.length)).getD (i+1) 0∈ardS ns ls k (2*ls.length):=by
    rw[List.getD,aac hi];exact abg hi
   have hl:=((yf ns ls k _ _).1 hm).1;generalize (ardS ns ls k (2*ls.length)).getD (i+1) 0=x at*;have h2:=hg (twin x) (jC hl);unfold j4 at h2;rw[vF] at h2;rw[h2,ht x hl]
 have at':∀x,x<2*ls.length->zd ls x=k->g x=g ((ardS ns ls k (2*ls.length)).getD 0 0):=by
  intro x hx hxk;obtain⟨i,hi,Wj⟩:=aba ((yf ns ls k _ _).2 ⟨hx,hxk⟩);rw[<-key i hi,List.getD,aac hi,Wj];rfl
 rw[at' d hd hk,at' e he (by rw[<-hf,hk])]
end
theorem VI {ns ls:List Pr} (hw:zf ns ls=true):(zg ns ls).length +ns.length<=ls.length+2:=by
 have Hk:=zL hw;have Hr:∀j:Nat,j<ls.length->zt ns (ndI ls j)=true:=fun j hj=>(Hk.1.2.2.2.2.2 j hj).1
 have bI:=z1u Hr
 have GU:∀i,i<ns.length->(zl ns.length ls ls.length).getD i 0=0:=by
  intro i hi;unfold zf at hw;rw[aaG,aaG] at hw;have:=List.all_eq_true.1 hw.2.2;have Hm:i<(zl ns.length ls ls.length).length :=by rw[jg];exact hi
  have h2:=this (zl ns.length ls ls.length)[i] (abg Hm)
  simpa[List.getD,Hm] using h2
 have Ft:∀j,j<ls.length->(ndI ls j).1=((zd ls (2*j)).toNat :Int)/\(ndI ls j).2=((dTo ls (2*j)).toNat :Int)/\(zd ls (2*j)).toNat <ns.length/\(dTo ls (2*j)).toNat <ns.length:=by
  intro j hj;obtain⟨p,q,h1,h2,h3,h4⟩:=bI j hj;have e1:zd ls (2*j)=(ndI ls j).1:=by unfold zd;rw[aaq o_,show 2*j/2=j by omega]
  have e2:dTo ls (2*j)=(ndI ls j).2:=by unfold dTo;rw[aaq o_,show 2*j/2=j by omega]
  rw[e1,e2,h1,h2,aa5,aa5];exact⟨rfl,rfl,h3,h4⟩
 have Rz:X3 ns.length ls.length (fun j=>(zd ls (2*j)).toNat) (fun j=>(dTo ls (2*j)).toNat) (fun _=>true):=by
  intro C hC i hi
  have h1:=vE bI C (fun j hj p q hp hq=>by
   obtain⟨g1,g2,_,_⟩:=Ft j hj;rw[g1] at hp;rw[g2] at hq;have e1:(zd ls (2*j)).toNat =p:=o_
   have e2:(dTo ls (2*j)).toNat =q:=o_
   rw[<-e1,<-e2];exact hC j hj rfl) ls.length (aaa _) i hi
  rw[GU i hi] at h1;exact h1
 obtain⟨J,hJ,hmin⟩:=XO (cntJ ls.length (fun _=>true)) _ (aaa _) Rz;have hcount:=J0 hJ
 have hfc:X3 (zg ns ls).length ls.length (fun j=>qH (zg ns ls) (2*j)) (fun j=>qH (zg ns ls) (2*j+1)) (fun j=> !J j):=by
  intro C hC
  classical
  let g:Nat->Int:=fun d=>if C (qH (zg ns ls) d) then 1 else 0
  have hg:∀d,d<2*ls.length->g (j4 ns ls d)=g d:=fun d hd=>by
   show(if C (qH (zg ns ls) (j4 ns ls d)) then(1:Int) else 0)=_
   rw[z43 Hr hd]
  have Yp:∀a b,(C (qH (zg ns ls) a)↔C (qH (zg ns ls) b))->g a=g b:=fun a b h=>by
   show(if C (qH (zg ns ls) a) then(1:Int) else 0)=(if C (qH (zg ns ls) b) then(1:Int) else 0)
   by_cases h1:C (qH (zg ns ls) a)
   ·rw[aao h1,aao (h.1 h1)]
   ·rw[aaq h1,aaq (fun h2=>h1 (h.2 h2))]
  have n9:∀t,t<ls.length->g (2*t)=g (2*t+1):=by
   intro t ht
   cases hJt:J t
   ·exact Yp _ _ (hC t ht (by simp[hJt]))
   ·have Hv:=hmin t ht hJt
    apply abk
    intro hgt
    apply Hv
    intro X hX
    by_cases Bp:X (zd ls (2*t)).toNat ↔X (dTo ls (2*t)).toNat
    ·refine hJ X (fun j hj hJj=>?_)
     by_cases Wk:j=t
     ·subst Wk;exact Bp
     ·exact hX j hj (by simp[hJj,Wk])
    ·exfalso
     have hz:=z7b Hr hg (fun v=>if X v then 1 else 0)
     have e:sumR ls.length (fun j=>((if X (zd ls (2*j)).toNat then(1:Int) else 0) -(if X (dTo ls (2*j)).toNat then(1:Int) else 0))*(g (2*j) -g (2*j+1)))=
       sumR ls.length (fun j=>if j=t then((if X (zd ls (2*j)).toNat then(1:Int) else 0) -(if X (dTo ls (2*j)).toNat then(1:Int) else 0))*(g (2*j) -g (2*j+1)) else 0):=by
      refine yR _ (fun j hj=>?_)
      by_cases Wk:j=t
      ·rw[aao Wk]
      ·rw[aaq Wk]
       cases hJj:J j
       ·rw[Yp _ _ (hC j hj (by simp[hJj])),Int.sub_self,Int.mul_zero]
       ·have h1:=hX j hj (by simp[hJj,Wk])
        have h2:(if X (zd ls (2*j)).toNat then(1:Int) else 0)=(if X (dTo ls (2*j)).toNat then(1:Int) else 0):=by
         by_cases h3:X (zd ls (2*j)).toNat
         ·rw[aao h3,aao (h1.1 h3)]
         ·rw[aaq h3,aaq (fun h4=>h3 (h1.2 h4))]
        rw[h2,Int.sub_self,Int.zero_mul]
     have hz':sumR ls.length (fun j=>((if X (zd ls (2*j)).toNat then(1:Int) else 0) -(if X (dTo ls (2*j)).toNat then(1:Int) else 0))*(g (2*j) -g (2*j+1)))=0:=hz;rw[e,ZO (fun j=>((if X (zd ls (2*j)).toNat then(1:Int) else 0) -(if X (dTo ls (2*j)).toNat then(1:Int) else 0))*(g (2*j) -g (2*j+1))) t,aao ht] at hz'
     by_cases h1:X (zd ls (2*t)).toNat
     ·have h2:¬X (dTo ls (2*t)).toNat :=fun h=>Bp ⟨fun _=>h,fun _=>h1⟩
      rw[aao h1,aaq h2] at hz';omega
     ·have h2:X (dTo ls (2*t)).toNat :=abk fun h=>Bp ⟨fun h3=>absurd h3 h1,fun h3=>absurd h3 h⟩
      rw[aaq h1,aao h2] at hz';omega
  have htw:∀d,d<2*ls.length->g (twin d)=g d:=by
   intro d hd;have h:=n9 (d/2) o_;unfold twin
   by_cases h2:d%2=0
   ·rw[aao h2]
    rw[show 2*(d/2)=d by omega] at h;exact h.symm
   ·rw[aaq h2]
    rw[show 2*(d/2)+1=d by omega,show 2*(d/2)=d -1 by omega] at h;exact h
  have Yq:∀d e,d<2*ls.length->e<2*ls.length->g d=g e:=by
   intro d0 e0 mu he0
   have RE:=Rz (fun v=>∀x,x<2*ls.length->zd ls x=(v:Int)->g x=g d0) (fun j hj _=>by
    obtain⟨g1,g2,g3,g4⟩:=Ft j hj
    have e1:zd ls (2*j)=((zd ls (2*j)).toNat :Int):=by
     obtain⟨t,ht,_⟩:=qL Hr (show 2*j<2*ls.length by omega);rw[ht,aa5]
    have e2:zd ls (2*j+1)=((dTo ls (2*j)).toNat :Int):=by
     have t1:twin (2*j)=2*j+1:=by unfold twin;rw[aao o_]
     have:=jz ls (2*j);rw[t1] at this;obtain⟨t,ht,_⟩:=qL Hr (show 2*j+1<2*ls.length by omega);rw[this] at ht⊢;rw[ht,aa5]
    constructor
    ·intro h x hx uF
     have h1:=h (2*j) o_ e1;rw[Zw Hr hg htw hx (show 2*j+1<2*ls.length by omega) (by rw[uF,e2]),<-n9 j hj,h1]
    ·intro h x hx uF
     have h1:=h (2*j+1) o_ e2;rw[Zw Hr hg htw hx (show 2*j<2*ls.length by omega) (by rw[uF,<-e1]),n9 j hj,h1])
   obtain⟨t,ht,ry⟩:=qL Hr mu;obtain⟨s,hs,uY⟩:=qL Hr he0;have ht0:=(RE t ry).1 (fun x hx uF=>Zw Hr hg htw hx mu (by rw[uF,ht]));exact((RE s uY).2 ht0 e0 he0 hs).symm
  intro f hf;obtain⟨d,hd,uZ⟩:=z1P Hr hf;obtain⟨d',hd',hfd'⟩:=z1P Hr (show 0<(zg ns ls).length by omega);have h:=Yq d d' hd hd';have h':(if C (qH (zg ns ls) d) then(1:Int) else 0)=(if C (qH (zg ns ls) d') then(1:Int) else 0):=h;rw[uZ,hfd'] at h'
  by_cases h1:C f
  ·by_cases h2:C 0
   ·exact⟨fun _=>h2,fun _=>h1⟩
   ·rw[aao h1,aaq h2] at h';omega
  ·by_cases h2:C 0
   ·rw[aaq h1,aao h2] at h';omega
   ·exact⟨fun h=>absurd h h1,fun h=>absurd h h2⟩
 have h1:=J0 hfc;have h2:=z3p ls.length J;omega
def fcD (ns ls:List Pr) (d:Nat):Nat:=qH (zg ns ls) d
section
variable {ns ls:List Pr} (h:zC ns ls)
include h
theorem z4T:∀j:Nat,j<ls.length->zt ns (ndI ls j)=true:=fun j hj=>jI h hj
theorem z2n {d:Nat} (hd:d<2*ls.length):fcD ns ls d<(zg ns ls).length :=
 (yn ((qW (z4T h) (2*ls.length) (aaa _)).1 d hd)).1
end
section
variable {ns ls:List Pr} {k:Nat} (h:zC ns ls) (hk:k<ls.length)
include h hk
end
theorem kq {P:Program} {w:World} {t ty e:TypeId} {i:TypeInfo} {base:Nat} {z:Value} {sz by_:Nat} (ht:P.underlying t=some (.slice e)) (hi:P.info? e=some i) (hz:i.zero=some z) (Hy:i.size=sz) (gp:i.bytes=by_) (rb:z.cells.size=sz) (gI:0<sz)
  {v u:Value} {n m:Nat} {xs l:List Value} (hown:w.ownsRow base e sz v n xs) (hr:RS w sz u m l) (FW:∀x∈l,x.oneCell'=true) (Hm:n+m<=1048576+1048576) (H4:by_<=100) (Hs:base<=w.heap.size):
  ∃A c w',(Builtin.append_ #[t,t] ty #[v,u]).run P w= .ok (.slice A (n+m) c) w'/\w'.ownsRow base e sz (.slice A (n+m) c) (n+m) (xs++l)/\w.grownBy w' v.ownBlock/\
   ((Value.slice A (n+m) c).ownBlock =v.ownBlock∨(Value.slice A (n+m) c).ownBlock =some w.heap.size):=by
 have RK:∀ {w0:World} {v0:Value} {n0:Nat} {xs0:List Value},w0.ownsRow base e sz v0 n0 xs0->∃A c,v0= .slice A n0 c/\n0<=c:=by
  intro w0 v0 n0 xs0 h
  rcases h.2 with ⟨rfl,hn⟩|⟨g,cap,cur,rfl,_,_,bO,_⟩
  ·exact⟨none,0,by rw[hn],by omega⟩
  ·exact⟨_,cap,rfl,bO⟩
 obtain⟨MB,A,c,rfl,hc,hm,hcell⟩:=hr
 cases A with
 |none=>
  have Ud:m=0:=by
   rcases abv m with h|h
   ·exact h
   ·obtain⟨b,off,h1,_⟩:=hcell h
    cases h1
  subst Ud;have hl:l=[]:=abx o_;subst hl;obtain⟨A,cp,rfl,NQ⟩:=RK hown;refine⟨A,cp,w,?_,by rw[List.append_nil];exact hown,World.grownBy.refl _ _,.inl rfl⟩
  exact vu ht hi A _ cp c NQ
 |some a=>
  have hn:∀(j:Nat) (x:Value),l[j]? =some x->w.cell? (a.add j)=some x:=by
   intro j x hx;have hj:=(List.getElem?_eq_some_iff.1 hx).1
   have bH:0<m:=by
    rcases abv m with h|h
    ·subst h;omega
    ·exact h
   obtain⟨b,off,e5,_,e6⟩:=hcell bH
   cases e5
   rw[kL];exact e6 j x hx
  have M9:(n+m)*by_<=(1048576+1048576)*100:=Nat.mul_le_mul Hm H4;obtain⟨v',w',h1,h2,h3,_,h5⟩:=run_append_own_at (P:=P) w base t ty e i z sz by_ ht hi hz Hy gp rb gI v n xs hown a m c l MB hn FW (by unfold maxLen;omega) o_ Hs;obtain⟨A',c',rfl,_⟩:=RK h2;exact⟨A',c',w',h1,h2,h3,h5⟩
theorem zQ {P:Program} {w:World} {ops:Array Oper} {rest:List Oper} {o:Oper} {a:Act} {Q:Exit->Act->World->Prop} (Fu:o.guard=none) (s x:Operand) (t:TypeId)
  (ho:o.op= .call { callee:= .builtin .append,args:= #[s,x],argTypes:= #[t,t] })
  (base:Nat) (e:TypeId) (i:TypeInfo) (z:Value) (sz by_:Nat) (ht:P.underlying t=some (.slice e)) (hi:P.info? e=some i) (hz:i.zero=some z) (Hy:i.size=sz) (gp:i.bytes=by_) (rb:z.cells.size=sz) (gI:0<sz)
  (v u:Value) (n m:Nat) (xs l:List Value) (hs:a.eval s=v) (hx:a.eval x=u) (hown:w.ownsRow base e sz v n xs) (hr:RS w sz u m l) (FW:∀x∈l,x.oneCell'=true) (Hm:n+m<=1048576+1048576) (H4:by_<=100) (Hs:base<=w.heap.size)
  (h:∀A c w',w'.ownsRow base e sz (.slice A (n+m) c) (n+m) (xs++l)->w.grownBy w' v.ownBlock->((Value.slice A (n+m) c).ownBlock =v.ownBlock∨(Value.slice A (n+m) c).ownBlock =some w.heap.size)->wpList P ops Q rest (a.put o.dst (.slice A (n+m) c)) w'):
  wpList P ops Q (o::rest) a w:=
 wpList_plain Fu fun K hK=>by
  obtain⟨A,c,w',fj,h2,h3,h4⟩:=kq (ty:=o.type) ht hi hz Hy gp rb gI hown hr FW Hm H4 Hs;unfold Oper.wp execOp;simp only[ho,resolve,invoke,builtin,Sem.run_bind,Sem.run_pure,aaY,List.map_toArray,aaS,aaT,hs,hx,fj]
  exact hK _ _ (h A c w' h2 h3 h4)
theorem xu {P:Program} {w:World} {ops:Array Oper} {o:Oper} {a:Act} {K:Act->World->Prop} {Q:Exit->Act->World->Prop} {E:Prop} (Fu:o.guard=none) (s x:Operand) (t:TypeId)
  (ho:o.op= .call { callee:= .builtin .append,args:= #[s,x],argTypes:= #[t,t] })
  (base:Nat) (e:TypeId) (i:TypeInfo) (z:Value) (sz by_:Nat) (ht:P.underlying t=some (.slice e)) (hi:P.info? e=some i) (hz:i.zero=some z) (Hy:i.size=sz) (gp:i.bytes=by_) (rb:z.cells.size=sz) (gI:0<sz)
  (v u:Value) (n m:Nat) (xs l:List Value) (hs:a.eval s=v) (hx:a.eval x=u) (hown:w.ownsRow base e sz v n xs) (hr:RS w sz u m l) (FW:∀x∈l,x.oneCell'=true) (Hm:n+m<=1048576+1048576) (H4:by_<=100) (Hs:base<=w.heap.size)
  (h:∀A c w',w'.ownsRow base e sz (.slice A (n+m) c) (n+m) (xs++l)->w.grownBy w' v.ownBlock->((Value.slice A (n+m) c).ownBlock =v.ownBlock∨(Value.slice A (n+m) c).ownBlock =some w.heap.size)->K (a.put o.dst (.slice A (n+m) c)) w'):
  if Region.wanted o (yielded ops a.tmps)=true then Oper.wp P o a w K Q else E:=by
 have hw:Region.wanted o (yielded ops a.tmps)=true:=by simp[Region.wanted,Fu]
 rw[aao hw];obtain⟨A,c,w',fj,h2,h3,h4⟩:=kq (ty:=o.type) ht hi hz Hy gp rb gI hown hr FW Hm H4 Hs;unfold Oper.wp execOp;simp only[ho,resolve,invoke,builtin,Sem.run_bind,Sem.run_pure,aaY,List.map_toArray,aaS,aaT,hs,hx,fj]
 exact h A c w' h2 h3 h4
theorem yg (zs:List Int):∀x∈zs.map vI,x.oneCell'=true:=by
 intro x hx;rw[List.mem_map] at hx;obtain⟨z,_,rfl⟩:=hx;rfl
theorem jF (l:List Dp):∀x∈l.flatMap Dp.cs,x.oneCell'=true:=by
 intro x hx;rw[List.mem_flatMap] at hx;obtain⟨d,_,hd⟩:=hx;simp only[Dp.cs,List.mem_cons,List.mem_nil_iff,or_false] at hd
 rcases hd with rfl|rfl|rfl<;>rfl
theorem ku (v:Value) (zs:List Int) (w:World) (h:RI w v zs) (hle:zs.length<=1048576):
  Calls Tryz.prog 133 #[v] w (RetI zs w):=by
 obtain⟨i0,hi,iz0,iz1,iz2⟩:=info_parts qq;have HR:=h_ h;clear h
 go_enter Tryz.func133,Tryz.ntmps133
 go_wp2_with (at_builtin;refine zQ rfl _ _ _ rfl w.heap.size 3 i0 (.int .i64 0) 1 8 Tryz.underlying31 hi iz0 iz1 iz2 rfl (by decide) (.slice none 0 0) v 0 zs.length [] (zs.map vI) rfl rfl (World.ownsRow_nil _ _ _ _) HR.out (yg zs) o_ (by decide) (aaa _) ?_)
 intro A c w1 ho hg ha;have hb:=kE hg;have HO:Hid (OwnI w.heap.size w1 (.slice A zs.length c) zs):=h_ ho;clear ho hg ha;go_wp2;go_ret
 exact⟨_,rfl,HO.out,hb⟩
theorem z7F:(Tryz.prog.info? 48).map (fun i=>(i.zero,i.size,i.bytes))=some (some (.agg #[.int .i64 0,.int .i64 0,.int .i64 0]),3,24):=ki
theorem ye (v:Value) (l:List Dp) (w:World) (h:RDp w v l) (hle:l.length<=1048576):
  Calls Tryz.prog 134 #[v] w (z9X l w):=by
 obtain⟨i0,hi,iz0,iz1,iz2⟩:=info_parts ki;have HR:=h_ h;clear h
 go_enter Tryz.func134,Tryz.ntmps134
 go_wp2_with (at_builtin;refine zQ rfl _ _ _ rfl w.heap.size 48 i0 (.agg #[.int .i64 0,.int .i64 0,.int .i64 0]) 3 24 Tryz.underlying32 hi iz0 iz1 iz2 rfl (by decide) (.slice none 0 0) v 0 l.length [] (l.flatMap Dp.cs) rfl rfl (World.ownsRow_nil _ _ _ _) HR.out (jF l) o_ (by decide) (aaa _) ?_)
 intro A c w1 ho hg ha;have hb:=kE hg;have HO:Hid (zx w.heap.size w1 (.slice A l.length c) l):=h_ ho;clear ho hg ha;go_wp2;go_ret
 exact⟨_,rfl,HO.out,hb⟩
def z9O (v:Value) (w:World) (e:Ending) (w':World):Prop:=∃g:Nat,e= .returned (.pointer (some ⟨g,0,none⟩))/\zw w v g w'
theorem z9R (v:Value) (zs:List Int) (w:World) (h:RB w v zs) (hle:zs.length<=1048576):
  Calls Tryz.prog 64 #[v] w (z9O v w):=
 (z8s v zs w h hle).mono fun e w' ⟨he,hc⟩=>⟨_,he,hc⟩
end Go.Proofs.YtnjcpljhmhdhkaaGreat
