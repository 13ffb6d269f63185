/- part 39 -/
import Derived.Test.YtnjcpljhmhdhkaaGreatUPk37
import Derived.Deep.RegionHeld3
import Derived.ChangeSlices
set_option linter.unusedSimpArgs false
set_option linter.unusedVariables false
set_option maxRecDepth 100000
set_option maxHeartbeats 60000000
namespace Go.Proofs.YtnjcpljhmhdhkaaGreat
open Go.RowKit
theorem ZE (v u:Value) (zs ys:List Int) (w:World) (hv:RI w v zs) (hu:RI w u ys):
  CB_ 128 #[v,u] w (.bool (decide (zs=ys))):=by
 obtain⟨A,c,rfl,hc,hm,hcell⟩:=hv.form;obtain⟨A',c',rfl,Nn,ce,Hs⟩:=hu.form;unfold maxLen at hm ce;clear hv hu
 by_cases Hi:zs.length=ys.length
 ·have e1:((zs.length:Int) != (ys.length:Int))=false:=by simp[Hi]
  have GP:=h_ Hi;clear Hi
  go_enter Tryz.func128,Tryz.ntmps128
  go_wp2
  go_loopw [5] (fun i wr=>∃k:Nat,k<=zs.length/\i= .int .i64 k/\Hid (zs.take k=ys.take k)/\Below w.heap.size w wr) (fun i _=>zs.length -(intOf i).toNat)
  case atStart=>exact⟨0,aab _,rfl,h_ (by simp),aaj _ _⟩
  case round=>
   obtain⟨k,hk,rfl,HT,Hb⟩:=hrel
   by_cases Hd:k<zs.length
   ·obtain⟨b,off,rfl,hb,Ho⟩:=hcell o_
    have fJ:k<ys.length:=by rw[<-GP.out];exact Hd
    obtain⟨b',off',rfl,gw,Gw⟩:=Hs o_;have fK:=(Hb.cell (p:=⟨b,off+k,none⟩) hb).trans (Ho k Hd);have hck':=(Hb.cell (p:=⟨b',off'+k,none⟩) gw).trans (Gw k fJ);have FT:(0:Int)<=(k:Int):=o_
    have cf:(k:Int)<(zs.length:Int):=o_
    have MZ:(k:Int)<(ys.length:Int):=o_
    clear Ho hcell Gw Hs;have HX:=h_ (show zs.getD k 0=zs[k] by simp[List.getD,aac Hd]);have HY:=h_ (show ys.getD k 0=ys[k] by simp[List.getD,aac fJ]);generalize zs.getD k 0=x at*;generalize ys.getD k 0=y at*
    by_cases GI:x=y
    ·have e2:(x != y)=false:=by simp[GI]
     have HE:=h_ GI;clear GI;go_wp2
     go_quiet (fail)
     go_wp2;go_roundw
     case rel=>exact⟨k+1,by omega,by go_num,h_ (yE HT.out Hd fJ (by rw[<-HX.out,<-HY.out,HE.out])),by exact bel_⟩
     case measure=>simp[intOf];omega
    ·have e2:(x != y)=true:=by simp[GI]
     have HE:=h_ GI;clear GI;go_wp2
     go_quiet (fail)
     go_wp2;go_ret
     refine⟨z8 ?_,by exact bel_⟩
     symm
     rw[aaK];intro Fz;exact HE.out (by rw[HX.out,HY.out];simp[Fz])
   ·have Hw:zs.length<=k:=o_
    have Bf:zs=ys:=by
     have h:=HT.out;rw[aaL Hw,aaL (by rw[<-GP.out];exact Hw)] at h;exact h
    have HE:=h_ Bf;clear Bf hcell Hs;go_wp2;go_ret
    exact⟨z8 (by symm;simpa using HE.out),Hb⟩
 ·have e1:((zs.length:Int) != (ys.length:Int))=true:=by simp;omega
  have HE:Hid (¬zs=ys):=h_ (fun h=>Hi (by rw[h]));clear Hi
  go_enter Tryz.func128,Tryz.ntmps128
  go_wp2;go_ret
  exact⟨z8 (by symm;simpa using HE.out),aaj _ _⟩
theorem xT (v u:Value) (zs ys:List Int) (w:World) (hv:RI w v zs) (hu:RI w u ys):
  CB_ 124 #[v,u] w (.bool (decide (zs=ys))):=by
 obtain⟨A,c,rfl,hc,hm,hcell⟩:=hv.form;obtain⟨A',c',rfl,Nn,ce,Hs⟩:=hu.form;unfold maxLen at hm ce;clear hv hu
 by_cases Hi:zs.length=ys.length
 ·have e1:((zs.length:Int) != (ys.length:Int))=false:=by simp[Hi]
  have GP:=h_ Hi;clear Hi
  go_enter Tryz.func124,Tryz.ntmps124
  go_wp2
  go_loopw [13] (fun i wr=>∃k:Nat,k<=zs.length/\i= .int .i64 k/\Hid (zs.take k=ys.take k)/\Below w.heap.size w wr) (fun i _=>zs.length -(intOf i).toNat)
  case atStart=>exact⟨0,aab _,rfl,h_ (by simp),aaj _ _⟩
  case round=>
   obtain⟨k,hk,rfl,HT,Hb⟩:=hrel
   by_cases Hd:k<zs.length
   ·obtain⟨b,off,rfl,hb,Ho⟩:=hcell o_
    have fJ:k<ys.length:=by rw[<-GP.out];exact Hd
    obtain⟨b',off',rfl,gw,Gw⟩:=Hs o_;have fK:=(Hb.cell (p:=⟨b,off+k,none⟩) hb).trans (Ho k Hd);have hck':=(Hb.cell (p:=⟨b',off'+k,none⟩) gw).trans (Gw k fJ);have FT:(0:Int)<=(k:Int):=o_
    have cf:(k:Int)<(zs.length:Int):=o_
    have MZ:(k:Int)<(ys.length:Int):=o_
    clear Ho hcell Gw Hs;have HX:=h_ (show zs.getD k 0=zs[k] by simp[List.getD,aac Hd]);have HY:=h_ (show ys.getD k 0=ys[k] by simp[List.getD,aac fJ]);generalize zs.getD k 0=x at*;generalize ys.getD k 0=y at*
    by_cases GI:x=y
    ·have e2:(x != y)=false:=by simp[GI]
     have HE:=h_ GI;clear GI;go_wp2
     go_quiet (fail)
     go_wp2;go_roundw
     case rel=>exact⟨k+1,by omega,by go_num,h_ (yE HT.out Hd fJ (by rw[<-HX.out,<-HY.out,HE.out])),by exact bel_⟩
     case measure=>simp[intOf];omega
    ·have e2:(x != y)=true:=by simp[GI]
     have HE:=h_ GI;clear GI;go_wp2
     go_quiet (fail)
     go_wp2;go_ret
     refine⟨z8 ?_,by exact bel_⟩
     symm
     rw[aaK];intro Fz;exact HE.out (by rw[HX.out,HY.out];simp[Fz])
   ·have Hw:zs.length<=k:=o_
    have Bf:zs=ys:=by
     have h:=HT.out;rw[aaL Hw,aaL (by rw[<-GP.out];exact Hw)] at h;exact h
    have HE:=h_ Bf;clear Bf hcell Hs;go_wp2;go_ret
    exact⟨z8 (by symm;simpa using HE.out),Hb⟩
 ·have e1:((zs.length:Int) != (ys.length:Int))=true:=by simp;omega
  have HE:Hid (¬zs=ys):=h_ (fun h=>Hi (by rw[h]));clear Hi
  go_enter Tryz.func124,Tryz.ntmps124
  go_wp2;go_ret
  exact⟨z8 (by symm;simpa using HE.out),aaj _ _⟩
noncomputable def repB (S:St) (l:List Ac) (zs:List Int):Bool:=runB S l&&decide (kD S l=zs)
theorem kg {S:St} {l:List Ac} {zs:List Int} (h:runB S l=false):repB S l zs=false:=by unfold repB;rw[h];rfl
theorem QE {S:St} {l:List Ac} {zs:List Int} (h:runB S l=true):repB S l zs=decide (kD S l=zs):=by unfold repB;rw[h];rfl
theorem Ql (v0 v1 v2 v3 v4 v5 v6 va vb:Value) (S:St) (l:List Ac) (zs:List Int) (x:Bool) (w:World) (h:RSt w v0 v1 v2 v3 v4 v5 v6 S) (hle:StLe S) (hA:RA w va l) (hB:RI w vb zs) (hx:Hid (repB S l zs=x)):
  CB_ 50 #[.agg #[v0,v1,v2,v3,v4,v5,v6,.int .i64 S.fund],va,vb] w (.bool x):=by
 obtain⟨r,hr⟩:∃x,ze S=x:=⟨_,rfl⟩;have hA':=hA;obtain⟨A,ca,rfl,hca,hma,Gy⟩:=hA'.form;unfold maxLen at hma;have HR:=h_ hr;have HH:=h_ h;have gi:=h_ hle;clear hr h hle Gy hA'
 go_enter Tryz.func50,Tryz.ntmps50
 go_wp2_with fail
 refine(qM _ _ _ _ _ _ _ S r _ (HH.out.below bel_) HR).mono ?_
 rintro e w1 ⟨rfl,h9⟩;have gh:Blk w1 w.heap.size 34 #[v0,v1,v2,v3,v4,v5,v6,.int .i64 S.fund]:=Blk.below (Blk.newAt rfl) h9 sz_;have h8:Below w.heap.size w w1:=bel_
 clear h9;obtain⟨x_0,x_1,x_2,x_3,x_4,x_5,x_6,x_7⟩:=gh.c8;clear gh
 cases r
 ·obtain rfl:false=x:=by rw[<-hx.out];exact(kg (by unfold runB;rw[HR.out];rfl)).symm
  go_wp2;go_ret
  exact⟨rfl,h8⟩
 ·by_cases cY:l.length<=40
  ·have F6:runB S l=true:=by unfold runB;rw[HR.out];simpa using cY
   have HX:=h_ (show decide (kD S l=zs)=x by rw[<-hx.out];exact(QE F6).symm);clear F6 hx
   go_wp2_with fail
   refine(z2X _ _ _ _ _ _ _ _ S l _ (HH.out.below h8) gi.out (hA.below h8)).mono ?_
   rintro e w2 ⟨A0,a0,A1,a1,A2,a2,A3,a3,A4,a4,A5,a5,A6,a6,fs,T,t,rfl,Hm,hn,_,He⟩;have Ha:=h8.trans (He.mono h8.size);have HI:=h_ (OwnI.reads hn);have HB:=h_ (hB.below Ha);obtain⟨E,hE⟩:∃q,q=kQ S l:=⟨_,rfl⟩;obtain⟨ns,Ng⟩:∃q,q=kD S l:=⟨_,rfl⟩;rw[<-hE,<-Ng];rw[<-Ng] at HI HX;clear hE Ng Hm hn He x_0 x_1 x_2 x_3 x_4 x_5 x_6 x_7
   go_wp2_with fail
   refine(xT _ _ ns zs _ (HI.out.below ((aaj _ _).alloc (aaa _) _)) (HB.out.below ((aaj _ _).alloc (aaa _) _))).mono ?_
   rw[HX.out];rintro e w3 ⟨rfl,Hf⟩;have Hc:Below w.heap.size w w3:=(Ha.alloc Ha.size _).trans (Hf.mono (Ha.alloc Ha.size _).size);clear Hf Ha h8;go_wp2;go_ret
   exact⟨rfl,Hc⟩
  ·have CK:(40:Int)<(l.length:Int):=o_
   obtain rfl:false=x:=by rw[<-hx.out];exact(kg (by unfold runB;rw[HR.out];simp;omega)).symm
   go_wp2;go_ret
   exact⟨rfl,h8⟩
theorem xV (v0 v1 v2 v3 v4 v5 v6 va vb:Value) (S:St) (l:List Ac) (zs:List Int) (x:Bool) (w:World) (h:RSt w v0 v1 v2 v3 v4 v5 v6 S) (hle:StLe S) (hA:RA w va l) (hB:RI w vb zs) (hx:Hid (repB S l zs=x)):
  CB_ 54 #[.agg #[v0,v1,v2,v3,v4,v5,v6,.int .i64 S.fund],va,vb] w (.bool x):=by
 obtain⟨r,hr⟩:∃x,ze S=x:=⟨_,rfl⟩;have hA':=hA;obtain⟨A,ca,rfl,hca,hma,Gy⟩:=hA'.form;unfold maxLen at hma;have HR:=h_ hr;have HH:=h_ h;have gi:=h_ hle;clear hr h hle Gy hA'
 go_enter Tryz.func54,Tryz.ntmps54
 go_wp2_with fail
 refine(j8 _ _ _ _ _ _ _ S r _ (HH.out.below bel_) HR).mono ?_
 rintro e w1 ⟨rfl,h9⟩;have gh:Blk w1 w.heap.size 34 #[v0,v1,v2,v3,v4,v5,v6,.int .i64 S.fund]:=Blk.below (Blk.newAt rfl) h9 sz_;have h8:Below w.heap.size w w1:=bel_
 clear h9;obtain⟨x_0,x_1,x_2,x_3,x_4,x_5,x_6,x_7⟩:=gh.c8;clear gh
 cases r
 ·obtain rfl:false=x:=by rw[<-hx.out];exact(kg (by unfold runB;rw[HR.out];rfl)).symm
  go_wp2;go_ret
  exact⟨rfl,h8⟩
 ·by_cases cY:l.length<=40
  ·have F6:runB S l=true:=by unfold runB;rw[HR.out];simpa using cY
   have HX:=h_ (show decide (kD S l=zs)=x by rw[<-hx.out];exact(QE F6).symm);clear F6 hx
   go_wp2_with fail
   refine(z4e _ _ _ _ _ _ _ _ S l _ (HH.out.below h8) gi.out (hA.below h8)).mono ?_
   rintro e w2 ⟨A0,a0,A1,a1,A2,a2,A3,a3,A4,a4,A5,a5,A6,a6,fs,T,t,rfl,Hm,hn,_,He⟩;have Ha:=h8.trans (He.mono h8.size);have HI:=h_ (OwnI.reads hn);have HB:=h_ (hB.below Ha);obtain⟨E,hE⟩:∃q,q=kQ S l:=⟨_,rfl⟩;obtain⟨ns,Ng⟩:∃q,q=kD S l:=⟨_,rfl⟩;rw[<-hE,<-Ng];rw[<-Ng] at HI HX;clear hE Ng Hm hn He x_0 x_1 x_2 x_3 x_4 x_5 x_6 x_7
   go_wp2_with fail
   refine(ZE _ _ ns zs _ (HI.out.below ((aaj _ _).alloc (aaa _) _)) (HB.out.below ((aaj _ _).alloc (aaa _) _))).mono ?_
   rw[HX.out];rintro e w3 ⟨rfl,Hf⟩;have Hc:Below w.heap.size w w3:=(Ha.alloc Ha.size _).trans (Hf.mono (Ha.alloc Ha.size _).size);clear Hf Ha h8;go_wp2;go_ret
   exact⟨rfl,Hc⟩
  ·have CK:(40:Int)<(l.length:Int):=o_
   obtain rfl:false=x:=by rw[<-hx.out];exact(kg (by unfold runB;rw[HR.out];simp;omega)).symm
   go_wp2;go_ret
   exact⟨rfl,h8⟩
theorem JK (v0 v1 v2 v3 v4 v5 v6 va vz:Value) (S:St) (l:List Ac) (zs:List Int) (w:World) (h:RSt w v0 v1 v2 v3 v4 v5 v6 S) (hA:RA w va l) (hZ:RI w vz zs):
  CB_ 10 #[.agg #[v0,v1,v2,v3,v4,v5,v6,.int .i64 S.fund],va,vz] w (.bool true):=by
 have hZ':=hZ;obtain⟨Z,cz,rfl,hcz,hmz,_⟩:=hZ'.form;unfold maxLen at hmz;clear hZ' hcz
 by_cases m7:zs.length<=1048576
 case neg=>
  have Gd:(1048576:Int)<(zs.length:Int):=o_
  clear m7
  go_enter Tryz.func10,Tryz.ntmps10
  go_wp2;go_ret
  exact⟨rfl,by exact bel_⟩
 case pos=>
 have Gd:¬(1048576:Int)<(zs.length:Int):=o_
 have HZL:=h_ m7;clear m7;obtain⟨x,hx⟩:∃x,szSt S=x:=⟨_,rfl⟩;have HX:=h_ hx
 by_cases GU:x<0
 ·clear hx
  go_enter Tryz.func10,Tryz.ntmps10
  go_wp2_with fail
  refine(xI _ _ _ _ _ _ _ S x _ (h.below bel_) HX).mono ?_
  rintro e w1 ⟨rfl,h9⟩;go_wp2;go_ret
  exact⟨rfl,by exact bel_⟩
 ·have hle:StLe S:=za8 (by rw[hx];exact GU)
  have gi:=h_ hle;have hxl:x<=1048576:=by rw[<-hx];exact zap S (by rw[hx];exact GU)
  clear hx hle;obtain⟨x2,MS⟩:∃y,szF x l.length=y:=⟨_,rfl⟩;have mM:=h_ MS
  by_cases hx20:x2<0
  ·clear MS
   go_enter Tryz.func10,Tryz.ntmps10
   go_wp2_with fail
   refine(xI _ _ _ _ _ _ _ S x _ (h.below bel_) HX).mono ?_
   rintro e w1 ⟨rfl,h9⟩
   go_wp2_with fail
   refine(VF va l x _ (hA.below bel_) o_ o_).mono ?_
   rw[mM.out];rintro e w2 ⟨rfl,rfl⟩;go_wp2;go_ret
   exact⟨rfl,by exact bel_⟩
  ·have Bu:l.length<=1048576:=by
    unfold szF at MS
    split at MS<;>omega
   have UH:=h_ Bu;clear MS Bu;obtain⟨q,hq⟩:∃q,repB S l zs=q:=⟨_,rfl⟩;have HQ:=h_ hq;clear hq
   go_enter Tryz.func10,Tryz.ntmps10
   go_wp2_with fail
   refine(xI _ _ _ _ _ _ _ S x _ (h.below bel_) HX).mono ?_
   rintro e w1 ⟨rfl,h9⟩;have h8:Below w.heap.size w w1:=bel_
   have Fl:Blk w1 w.heap.size 61 #[v0,v1,v2,v3,v4,v5,v6,.int .i64 S.fund]:=Blk.below (Blk.newAt rfl) h9 sz_;clear h9 HX
   go_wp2_with fail
   refine(VF va l x _ (hA.below h8) o_ o_).mono ?_
   rw[mM.out];rintro e w' ⟨rfl,rfl⟩;clear mM;obtain⟨vb_0,vb_1,vb_2,vb_3,vb_4,vb_5,vb_6,vb_7⟩:=Fl.c8;have vlt:=Fl.lt
   go_wp2_with fail
   refine(vE _ _ _ _ _ _ _ S _ (h.below h8) gi.out).mono ?_
   rintro e w2 ⟨T0,tc0,T1,tc1,T2,tc2,T3,tc3,T4,tc4,T5,tc5,T6,tc6,tfs,rfl,mq,Hh⟩;have mF:=Fl.below Hh Fl.lt;have Ha:=h8.trans (Hh.mono h8.size);clear Fl h8 Hh vb_0 vb_1 vb_2 vb_3 vb_4 vb_5 vb_6 vb_7 vlt;have rM:=mq;clear mq
   go_wp2_with fail
   refine(kW va l _ (hA.below Ha) UH.out).mono ?_
   rintro e w3 ⟨ta,rfl,mr,Hh⟩;have rE:=mF.below Hh mF.lt;have rO:=OwnSt.kept rM Hh;have Hc:=Ha.trans (Hh.mono Ha.size);clear mF rM Ha Hh;have WB:=mr;clear mr
   go_wp2_with fail
   refine(vr _ zs _ (hZ.below Hc) HZL.out).mono ?_
   rintro e w4 ⟨tz,rfl,WC,Hh⟩;have nL:=rE.below Hh rE.lt;have hoT4:=OwnSt.kept rO Hh;have WD:=OwnA.kept WB Hh;have Hp:=Hc.trans (Hh.mono Hc.size);clear rE rO WB Hc Hh;have WE:=WC;clear WC
   go_wp2_with fail
   refine(xV _ _ _ _ _ _ _ _ _ S l zs q _ hoT4.reads gi.out WD.reads (OwnI.reads WE) HQ).mono ?_
   rintro e w5 ⟨rfl,Hh⟩;have nM:=nL.below Hh nL.lt;have Hx:=Hp.trans (Hh.mono Hp.size);clear nL hoT4 WD WE Hp Hh;obtain⟨vb_0,vb_1,vb_2,vb_3,vb_4,vb_5,vb_6,vb_7⟩:=nM.c8;have vlt:=nM.lt
   go_wp2_with fail
   refine(vE _ _ _ _ _ _ _ S _ (h.below Hx) gi.out).mono ?_
   rintro e w6 ⟨X0,xc0,X1,xc1,X2,xc2,X3,xc3,X4,xc4,X5,xc5,X6,xc6,xfs,rfl,nS,Hh⟩;have nN:=nM.below Hh nM.lt;have gJ:=Hx.trans (Hh.mono Hx.size);clear nM Hx Hh vb_0 vb_1 vb_2 vb_3 vb_4 vb_5 vb_6 vb_7 vlt;have Bb:=nS;clear nS
   go_wp2_with fail
   obtain⟨w7,hu⟩:∃v,v=w6.alloc (.cells #[.slice X0 S.D.fn.length xc0,.slice X1 S.D.fl.length xc1,.slice X2 S.D.nn.length xc2,.slice X3 S.D.nl.length xc3,.slice X4 S.D.ss.length xc4,.slice X5 S.cs.length xc5,.slice X6 S.ds.length xc6,.int .i64 S.fund] 34):=⟨_,rfl⟩;have fu:Below w6.heap.size w6 w7:=hu▸(aaj _ _).alloc (aaa _) _;have UE:Blk w7 w6.heap.size 34 #[.slice X0 S.D.fn.length xc0,.slice X1 S.D.fl.length xc1,.slice X2 S.D.nn.length xc2,.slice X3 S.D.nl.length xc3,.slice X4 S.D.ss.length xc4,.slice X5 S.cs.length xc5,.slice X6 S.ds.length xc6,.int .i64 S.fund]:=hu▸Blk.newAt rfl;rw[<-hu];clear hu;have hV7:=nN.below fu nN.lt;have rQ:=OwnSt.kept Bb fu;have Gl:=gJ.trans (fu.mono gJ.size);clear nN Bb gJ fu;have hX7:=UE;clear UE;generalize w6.heap.size=BX at*;refine(kW va l _ (hA.below Gl) UH.out).mono ?_
   rintro e w8 ⟨xa,rfl,WF,Hh⟩;have uM:=hV7.below Hh hV7.lt;have rG:=hX7.below Hh hX7.lt;have Bc:=OwnSt.kept rQ Hh;have Fg:=Gl.trans (Hh.mono Gl.size);clear hV7 hX7 rQ Gl Hh;have WG:=WF;clear WF
   go_wp2_with fail
   refine(vr _ zs _ (hZ.below Fg) HZL.out).mono ?_
   rintro e w9 ⟨xz,rfl,WH,Hh⟩;have rH:=uM.below Hh uM.lt;have wN:=rG.below Hh rG.lt;have nT:=OwnSt.kept Bc Hh;have R8:=OwnA.kept WG Hh;have Fb:=Fg.trans (Hh.mono Fg.size);clear uM rG Bc WG Fg Hh;have R9:=WH;clear WH;obtain⟨xb_0,xb_1,xb_2,xb_3,xb_4,xb_5,xb_6,xb_7⟩:=wN.c8
   go_wp2_with fail
   refine(Ql _ _ _ _ _ _ _ _ _ S l zs q _ nT.reads gi.out R8.reads (OwnI.reads R9) HQ).mono ?_
   rintro e w10 ⟨rfl,Hh⟩;have Ck:=rH.below Hh rH.lt;have Bd:=wN.below Hh wN.lt;have bH:=OwnSt.kept nT Hh;have ua:=OwnA.kept R8 Hh;have ub:=OwnI.kept R9 Hh;have ft:=Fb.trans (Hh.mono Fb.size);clear rH wN nT R8 R9 Fb Hh xb_0 xb_1 xb_2 xb_3 xb_4 xb_5 xb_6 xb_7;obtain⟨vb_0,vb_1,vb_2,vb_3,vb_4,vb_5,vb_6,vb_7⟩:=Ck.c8;obtain⟨xb_0,xb_1,xb_2,xb_3,xb_4,xb_5,xb_6,xb_7⟩:=Bd.c8;have vlt:=Ck.lt;have xlt:=Bd.lt;have wm:=h_ (h.below ft);have wn:=h_ bH.reads
   go_wp2_with fail
   go_region_held3 (fun w'=>w'.cell? ⟨w.heap.size,0,none⟩=some (v0)/\w'.cell? ⟨w.heap.size,1,none⟩=some (v1)/\w'.cell? ⟨w.heap.size,2,none⟩=some (v2)/\w'.cell? ⟨w.heap.size,3,none⟩=some (v3)/\w'.cell? ⟨w.heap.size,4,none⟩=some (v4)/\w'.cell? ⟨w.heap.size,5,none⟩=some (v5)/\w'.cell? ⟨w.heap.size,6,none⟩=some (v6)/\w'.cell? ⟨w.heap.size,7,none⟩=some (.int .i64 S.fund)/\w'.cell? ⟨BX,0,none⟩=some (.slice X0 S.D.fn.length xc0)/\w'.cell? ⟨BX,1,none⟩=some (.slice X1 S.D.fl.length xc1)/\w'.cell? ⟨BX,2,none⟩=some (.slice X2 S.D.nn.length xc2)/\w'.cell? ⟨BX,3,none⟩=some (.slice X3 S.D.nl.length xc3)/\w'.cell? ⟨BX,4,none⟩=some (.slice X4 S.D.ss.length xc4)/\w'.cell? ⟨BX,5,none⟩=some (.slice X5 S.cs.length xc5)/\w'.cell? ⟨BX,6,none⟩=some (.slice X6 S.ds.length xc6)/\w'.cell? ⟨BX,7,none⟩=some (.int .i64 S.fund))
    (go_keep)
    (first|(go_at_call 28;refine Calls.mono (vE v0 v1 v2 v3 v4 v5 v6 S _ (wm.out.below ?c1) gi.out) ?_;(case c1=>exact bel_);rintro e w11 ⟨Q0,qc0,Q1,qc1,Q2,qc2,Q3,qc3,Q4,qc4,Q5,qc5,Q6,qc6,qfs,rfl,wo,Cx⟩;(have hc11:=bdC Cx);have hz11:=Cx.size;(try simp at hz11);(try have hp11_0:=p0_ w w11);(have mm7:BX<w11.heap.size:=by omega))|(go_at_call 30;refine(vG _ _ _ _ _ _ _ _ _ _ _ _ _ _ S _ (wn.out.below ?c2) wo.reads).mono ?_;(case c2=>exact bel_);rintro e w12 ⟨rfl,gq⟩;(have hc12:=bcC gq)))
   have gG:Below w10.heap.size w10 w12:=bel_
   clear wo Cx gq hc11 hc12;have FS:=Ck.below gG Ck.lt;have Be:=Bd.below gG Bd.lt;have bI:=OwnSt.kept bH gG
   have uc:=OwnA.kept ua gG
   have ud:=OwnI.kept ub gG
   have fP:=ft.trans (gG.mono ft.size);clear Ck Bd bH ua ub ft gG wm wn vb_0 vb_1 vb_2 vb_3 vb_4 vb_5 vb_6 vb_7 xb_0 xb_1 xb_2 xb_3 xb_4 xb_5 xb_6 xb_7 vlt xlt
   go_wp2_with fail
   refine(kW va l _ (hA.below fP) UH.out).mono ?_
   rintro e w13 ⟨ya,rfl,WI,Hh⟩;have rL:=FS.below Hh FS.lt;have hX13:=Be.below Hh Be.lt;have WJ:=OwnSt.kept bI Hh;have MD:=OwnA.kept uc Hh;have ue:=OwnI.kept ud Hh;have CG:=fP.trans (Hh.mono fP.size);clear FS Be bI uc ud fP Hh;have ME:=WI;clear WI
   go_wp2_with fail
   refine(z5e _ _ l _ MD.reads ME.reads).mono ?_
   rintro e w14 ⟨rfl,Hh⟩;have Mv:=rL.below Hh rL.lt;have Mw:=hX13.below Hh hX13.lt;have mt:=OwnSt.kept WJ Hh;have uf:=OwnA.kept MD Hh;have ug:=OwnI.kept ue Hh;have uh:=OwnA.kept ME Hh;have Fd:=CG.trans (Hh.mono CG.size);clear rL hX13 WJ MD ue ME CG Hh
   go_wp2_with fail
   refine(vr _ zs _ (hZ.below Fd) HZL.out).mono ?_
   rintro e w15 ⟨yz,rfl,WK,Hh⟩;have r9:=Mv.below Hh Mv.lt;have Ra:=Mw.below Hh Mw.lt;have MV:=OwnSt.kept mt Hh;have hoxa15:=OwnA.kept uf Hh;have ui:=OwnI.kept ug Hh;have hoya15:=OwnA.kept uh Hh;have CI:=Fd.trans (Hh.mono Fd.size);clear Mv Mw mt uf ug uh Fd Hh;have uj:=WK;clear WK
   go_wp2_with fail
   refine(Z9 _ _ zs _ (OwnI.reads ui) (OwnI.reads uj)).mono ?_
   rintro e w16 ⟨rfl,Hh⟩;have CH:=CI.trans (Hh.mono CI.size);clear r9 Ra MV hoxa15 ui hoya15 uj CI Hh;go_wp2;go_ret
   exact⟨rfl,CH⟩
open Go.ChangeShapes Go.WideShapes Go.RowKit
section
variable {H:Type} {enc:TypeId×Value->H} {P:Program} {w:World} {base:Nat} {spare:Nat->Bool} {Gg:Bool}
theorem V3 {t e:TypeId} {k:IntKind} {v:Value} {d:DataW H} {p:List MemPlace} (ht:P.underlying t=some (.slice e)) (he:P.underlying e=some (.int k)) (hc:P.cellsOf e=1)
  (hval:Value.okWide P w .any base t v) (h:DataW.Trod enc P w 0 spare Gg t v d p):
  ∃zs:List Int,RS w 1 v zs.length (zs.map (Value.int k))/\∀n∈zs,(Lit.int k n).wf =true:=by
 obtain⟨A,len,cap,rfl⟩:=okWide_slice ht hval;obtain⟨fuel,hf⟩:=h
 rcases open_ints ht he hc hf with ⟨Gu,hx⟩|⟨a,len',cap',zs,Gu,_,hl,hm,hz,hx,hcell,hwz⟩
 ·simp[Value.cells] at Gu
  obtain⟨rfl,rfl,rfl⟩:=Gu;exact⟨[],RS.nil _ _,by simp⟩
 ·simp[Value.cells] at Gu
  obtain⟨rfl,rfl,rfl⟩:=Gu;have hle:len<=zs.length:=by rw[hz];split<;>omega
  have Hi:(zs.take len).length =len:=by simp;omega
  refine⟨zs.take len,⟨by simp,some a,cap,by rw[Hi],by rw[Hi];exact hl,by rw[Hi];omega,fun hn=>?_⟩,fun n hn=>hwz n (List.mem_of_mem_take hn)⟩
  have h0:=hcell 0 o_;obtain⟨ab,ao,spot⟩:=a;have NY:spot=none:=by simpa[Addr.add] using World.cell?_spot h0
  subst NY;refine⟨ab,ao,rfl,?_,fun j u hu=>?_⟩
  ·have:=World.block_lt_of_cell? w _ h0
   simpa[Addr.add] using this
  ·have hj:j<len:=by
    have h1:=(List.getElem?_eq_some_iff.1 hu).1;simp at h1
    omega
   have hc:=hcell j o_;have e1:zs.getD j 0=zs[j]:=by simp[List.getD,aac (show j<zs.length by omega)]
   rw[e1] at hc
   have mu:u= .int k zs[j]:=by
    rw[aau,List.getElem?_take,aao hj,aac o_] at hu
    simpa using hu.symm
   rw[mu]
   by_cases h0:j=0
   ·subst h0;simpa[Addr.add] using hc
   ·simpa[Addr.add,h0] using hc
end
section
variable {H:Type} {enc:TypeId×Value->H} {w:World} {base:Nat} {spare:Nat->Bool} {Gg:Bool}
end
end Go.Proofs.YtnjcpljhmhdhkaaGreat
