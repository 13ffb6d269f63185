/- part 38 -/
import Derived.Test.YtnjcpljhmhdhkaaGreatUPk37
import Derived.Deep.RegionHeld3
set_option linter.unusedSimpArgs false
set_option linter.unusedVariables false
set_option maxRecDepth 100000
set_option maxHeartbeats 60000000
namespace Go.Proofs.YtnjcpljhmhdhkaaGreat
open Go.RowKit
theorem z2Z {a b c d e f g:Value} {D:Dr} {fs:List SF} {x:Int} (k:Nat) (h:qv a b c d e f g (z1I x D fs) k):qv a b c d e f g fs k:=by
 rcases h with h|h|h
 ·exact .inl (vS k h)
 ·exact .inr (.inl h)
 ·exact .inr (.inr h)
theorem z9L (S:St) (l:List Ac):(kD S l).length <=40:=by
 unfold kD
 split
 ·rename_i h
  unfold runB at h;rw[aaH,aa5] at h;rw[Zu];exact h.2
 ·simp
theorem z8E (v0 v1 v2 v3 v4 v5 v6 va:Value) (S:St) (l:List Ac) (w:World) (h:RSt w v0 v1 v2 v3 v4 v5 v6 S) (hA:RA w va l):
  CB_ 12 #[.agg #[v0,v1,v2,v3,v4,v5,v6,.int .i64 S.fund],va] w (.bool true):=by
 obtain⟨x,hx⟩:∃x,szSt S=x:=⟨_,rfl⟩;have HX:=h_ hx
 by_cases GU:x<0
 ·clear hx
  go_enter Tryz.func12,Tryz.ntmps12
  go_wp2_with fail
  refine(xI _ _ _ _ _ _ _ S x _ (h.below bel_) HX).mono ?_
  rintro e w1 ⟨rfl,h9⟩;go_wp2;go_ret
  exact⟨rfl,by exact bel_⟩
 ·have hle:StLe S:=za8 (by rw[hx];exact GU)
  have gi:=h_ hle;have hxl:x<=1048576:=by rw[<-hx];exact zap S (by rw[hx];exact GU)
  clear hx hle;obtain⟨x2,MS⟩:∃y,szF x l.length=y:=⟨_,rfl⟩;have mM:=h_ MS
  by_cases hx20:x2<0
  ·clear MS
   go_enter Tryz.func12,Tryz.ntmps12
   go_wp2_with fail
   refine(xI _ _ _ _ _ _ _ S x _ (h.below bel_) HX).mono ?_
   rintro e w1 ⟨rfl,h9⟩
   go_wp2_with fail
   refine(VF va l x _ (hA.below bel_) o_ o_).mono ?_
   rw[mM.out];rintro e w2 ⟨rfl,rfl⟩;go_wp2;go_ret
   exact⟨rfl,by exact bel_⟩
  ·have Bu:l.length<=1048576:=by
    unfold szF at MS
    split at MS<;>omega
   have UH:=h_ Bu;clear MS Bu;obtain⟨E,hE⟩:∃E,kQ S l=E:=⟨_,rfl⟩;obtain⟨ns,hn⟩:∃n,kD S l=n:=⟨_,rfl⟩;have HCs:Hid (∀(v:World) (t0 t1 t2 t3 t4 t5 t6 ta:Value),RSt v t0 t1 t2 t3 t4 t5 t6 S->RA v ta l->Calls Tryz.prog 60 #[.agg #[t0,t1,t2,t3,t4,t5,t6,.int .i64 S.fund],ta] v (Vg E ns v)):=h_ (fun v t0 t1 t2 t3 t4 t5 t6 ta ht ha=>by have:=z4e t0 t1 t2 t3 t4 t5 t6 ta S l v ht gi.out ha;rwa [hE,hn] at this);have uL:Hid (∀(v:World) (t0 t1 t2 t3 t4 t5 t6 ta:Value),RSt v t0 t1 t2 t3 t4 t5 t6 S->RA v ta l->Calls Tryz.prog 49 #[.agg #[t0,t1,t2,t3,t4,t5,t6,.int .i64 S.fund],ta] v (Vg E ns v)):=h_ (fun v t0 t1 t2 t3 t4 t5 t6 ta ht ha=>by have:=z2X t0 t1 t2 t3 t4 t5 t6 ta S l v ht gi.out ha;rwa [hE,hn] at this);have hcE:yi E<=30000000:=by rw[<-hE];exact z7f S l gi.out
   have hcN:ns.length<=40:=by rw[<-hn];exact z9L S l
   have hcD:yi S<=30000000:=gi.out.cnt;have hll2:=UH.out;clear hE hn;have m1:¬(1:Int)+(yi S:Int)+3*(l.length:Int)<0:=o_
   have m2:¬(1:Int)+(yi E:Int)<0:=o_
   go_enter Tryz.func12,Tryz.ntmps12
   go_wp2_with fail
   refine(xI _ _ _ _ _ _ _ S x _ (h.below bel_) HX).mono ?_
   rintro e w1 ⟨rfl,h9⟩;have h8:Below w.heap.size w w1:=bel_
   have Fl:Blk w1 w.heap.size 61 #[v0,v1,v2,v3,v4,v5,v6,.int .i64 S.fund]:=Blk.below (Blk.newAt rfl) h9 sz_;have e0:w.heap.size<w1.heap.size:=Fl.lt;clear h9 HX
   go_wp2_with fail
   refine(VF va l x _ (hA.below h8) o_ o_).mono ?_
   rw[mM.out];rintro e w' ⟨rfl,rfl⟩;clear mM;obtain⟨vb_0,vb_1,vb_2,vb_3,vb_4,vb_5,vb_6,vb_7⟩:=Fl.c8;have vlt:=Fl.lt
   go_wp2_with fail
   refine(vE _ _ _ _ _ _ _ S _ (h.below h8) gi.out).mono ?_
   rintro e w2 ⟨T0,tc0,T1,tc1,T2,tc2,T3,tc3,T4,tc4,T5,tc5,T6,tc6,tfs,rfl,mq,Hh⟩;have Gd:=Hh.size;have mF:=Fl.below Hh Fl.lt;have Ha:=h8.trans (Hh.mono h8.size);clear Fl h8 Hh vb_0 vb_1 vb_2 vb_3 vb_4 vb_5 vb_6 vb_7 vlt;have rM:=mq;clear mq
   go_wp2_with fail
   refine(kW va l _ (hA.below Ha) UH.out).mono ?_
   rintro e w3 ⟨ta,rfl,mr,Hh⟩;have fA:=Hh.size;have rE:=mF.below Hh mF.lt;have rO:=OwnSt.kept rM Hh;have Hc:=Ha.trans (Hh.mono Ha.size);clear mF rM Ha Hh
   go_wp2_with fail
   refine(HCs.out _ _ _ _ _ _ _ _ _ rO.reads mr.reads).mono ?_
   rintro e w4 ⟨W0,wc0,W1,wc1,W2,wc2,W3,wc3,W4,wc4,W5,wc5,W6,wc6,wfs,WN,wnc,rfl,Mk,rP,hapW,Hh⟩;have rD:=Mk.lt;have wF:=OwnI.lt rP;obtain⟨BW0,Mi⟩:∃q,q=w3.heap.size:=⟨_,rfl⟩;clear Mi;have Bg:=Hh.size;have nL:=rE.below Hh rE.lt;have Hp:=Hc.trans (Hh.mono Hc.size);clear rE rO Hc Hh mr;have fN:=Mk;have wG:=rP;clear Mk rP;obtain⟨vb_0,vb_1,vb_2,vb_3,vb_4,vb_5,vb_6,vb_7⟩:=nL.c8;have vlt:=nL.lt
   go_wp2_with fail
   obtain⟨w5,hu⟩:∃v,v=w4.alloc (.cells #[.slice W0 E.D.fn.length wc0,.slice W1 E.D.fl.length wc1,.slice W2 E.D.nn.length wc2,.slice W3 E.D.nl.length wc3,.slice W4 E.D.ss.length wc4,.slice W5 E.cs.length wc5,.slice W6 E.ds.length wc6,.int .i64 E.fund] 34):=⟨_,rfl⟩;have fu:Below w4.heap.size w4 w5:=hu▸(aaj _ _).alloc (aaa _) _;have hNW:Blk w5 w4.heap.size 34 #[.slice W0 E.D.fn.length wc0,.slice W1 E.D.fl.length wc1,.slice W2 E.D.nn.length wc2,.slice W3 E.D.nl.length wc3,.slice W4 E.D.ss.length wc4,.slice W5 E.cs.length wc5,.slice W6 E.ds.length wc6,.int .i64 E.fund]:=hu▸Blk.newAt rfl;have hlWb:w4.heap.size<w5.heap.size:=hNW.lt;rw[<-hu];clear hu;have nM:=nL.below fu nL.lt;have fT:=OwnSt.kept fN fu;have wH:=OwnI.kept wG fu;have Hx:=Hp.trans (fu.mono Hp.size);clear nL fN wG Hp fu vb_0 vb_1 vb_2 vb_3 vb_4 vb_5 vb_6 vb_7 vlt;have BO:=hNW;clear hNW;refine(vE _ _ _ _ _ _ _ S _ (h.below Hx) gi.out).mono ?_
   rintro e w6 ⟨X0,xc0,X1,xc1,X2,xc2,X3,xc3,X4,xc4,X5,xc5,X6,xc6,xfs,rfl,nS,Hh⟩;have nK:=nS.lt;have Ct:=Hh.size;have nN:=nM.below Hh nM.lt;have hW6:=BO.below Hh BO.lt;have F2:=OwnSt.kept fT Hh;have wI:=OwnI.kept wH Hh;have gJ:=Hx.trans (Hh.mono Hx.size);clear nM BO fT wH Hx Hh;have Bb:=nS;clear nS
   go_wp2_with fail
   obtain⟨w7,hu⟩:∃v,v=w6.alloc (.cells #[.slice X0 S.D.fn.length xc0,.slice X1 S.D.fl.length xc1,.slice X2 S.D.nn.length xc2,.slice X3 S.D.nl.length xc3,.slice X4 S.D.ss.length xc4,.slice X5 S.cs.length xc5,.slice X6 S.ds.length xc6,.int .i64 S.fund] 34):=⟨_,rfl⟩;have fu:Below w6.heap.size w6 w7:=hu▸(aaj _ _).alloc (aaa _) _;have UE:Blk w7 w6.heap.size 34 #[.slice X0 S.D.fn.length xc0,.slice X1 S.D.fl.length xc1,.slice X2 S.D.nn.length xc2,.slice X3 S.D.nl.length xc3,.slice X4 S.D.ss.length xc4,.slice X5 S.cs.length xc5,.slice X6 S.ds.length xc6,.int .i64 S.fund]:=hu▸Blk.newAt rfl;have hlXb:w6.heap.size<w7.heap.size:=UE.lt;rw[<-hu];clear hu;have hV7:=nN.below fu nN.lt;have hW7:=hW6.below fu hW6.lt;have uT:=OwnSt.kept F2 fu;have wJ:=OwnI.kept wI fu;have rQ:=OwnSt.kept Bb fu;have Gl:=gJ.trans (fu.mono gJ.size);clear nN hW6 F2 wI Bb gJ fu;have hX7:=UE;clear UE;refine(kW va l _ (hA.below Gl) UH.out).mono ?_
   rintro e w8 ⟨xa,rfl,rR,Hh⟩;have wK:=World.ownsRow.lt rR;have hz8:=Hh.size;have uM:=hV7.below Hh hV7.lt;have hW8:=hW7.below Hh hW7.lt;have rG:=hX7.below Hh hX7.lt;have Cw:=OwnSt.kept uT Hh;have wL:=OwnI.kept wJ Hh;have Bc:=OwnSt.kept rQ Hh;have Fg:=Gl.trans (Hh.mono Gl.size);clear hV7 hW7 hX7 uT wJ rQ Gl Hh;have rS:=rR;clear rR;obtain⟨xb_0,xb_1,xb_2,xb_3,xb_4,xb_5,xb_6,xb_7⟩:=rG.c8
   go_wp2_with fail
   refine(uL.out _ _ _ _ _ _ _ _ _ Bc.reads rS.reads).mono ?_
   rintro e w9 ⟨G0,gc0,G1,gc1,G2,gc2,G3,gc3,G4,gc4,G5,gc5,G6,gc6,gfs,GN,gnc,rfl,Ml,rT,hapG,Hh⟩;have rF:=Ml.lt;have wM:=OwnI.lt rT;have hz9:=Hh.size;have rH:=uM.below Hh uM.lt;have uN:=hW8.below Hh hW8.lt;have wN:=rG.below Hh rG.lt;have Cg:=OwnSt.kept Cw Hh;have wO:=OwnI.kept wL Hh;have nT:=OwnSt.kept Bc Hh;have wP:=OwnA.kept rS Hh;have Fb:=Fg.trans (Hh.mono Fg.size);clear uM hW8 rG Cw wL Bc rS Fg Hh xb_0 xb_1 xb_2 xb_3 xb_4 xb_5 xb_6 xb_7;have nO:=Ml;have wQ:=rT;clear Ml rT;obtain⟨wb_0,wb_1,wb_2,wb_3,wb_4,wb_5,wb_6,wb_7⟩:=uN.c8;have wlt:=uN.lt
   go_wp2_with fail
   obtain⟨w10,hu⟩:∃v,v=w9.alloc (.cells #[.slice G0 E.D.fn.length gc0,.slice G1 E.D.fl.length gc1,.slice G2 E.D.nn.length gc2,.slice G3 E.D.nl.length gc3,.slice G4 E.D.ss.length gc4,.slice G5 E.cs.length gc5,.slice G6 E.ds.length gc6,.int .i64 E.fund] 34):=⟨_,rfl⟩;have fu:Below w9.heap.size w9 w10:=hu▸(aaj _ _).alloc (aaa _) _;have hNG:Blk w10 w9.heap.size 34 #[.slice G0 E.D.fn.length gc0,.slice G1 E.D.fl.length gc1,.slice G2 E.D.nn.length gc2,.slice G3 E.D.nl.length gc3,.slice G4 E.D.ss.length gc4,.slice G5 E.cs.length gc5,.slice G6 E.ds.length gc6,.int .i64 E.fund]:=hu▸Blk.newAt rfl;rw[<-hu];clear hu;have Ck:=rH.below fu rH.lt;have nP:=uN.below fu uN.lt;have Bd:=wN.below fu wN.lt;have bF:=OwnSt.kept Cg fu;have rU:=OwnI.kept wO fu;have bH:=OwnSt.kept nT fu;have rV:=OwnA.kept wP fu;have bG:=OwnSt.kept nO fu;have rW:=OwnI.kept wQ fu;have ft:=Fb.trans (fu.mono Fb.size);clear rH uN wN Cg wO nT wP nO wQ Fb fu wb_0 wb_1 wb_2 wb_3 wb_4 wb_5 wb_6 wb_7 wlt;have Mm:=hNG;clear hNG;refine(vG _ _ _ _ _ _ _ _ _ _ _ _ _ _ E _ bG.reads bF.reads).mono ?_
   rintro e w11 ⟨rfl,Hh⟩;have Mo:=Ck.below Hh Ck.lt;have Mp:=nP.below Hh nP.lt;have hX11:=Bd.below Hh Bd.lt;have mn:=Mm.below Hh Mm.lt;have mo:=OwnSt.kept bF Hh;have Mt:=OwnI.kept rU Hh;have wR:=OwnSt.kept bH Hh;have rX:=OwnA.kept rV Hh;have wS:=OwnSt.kept bG Hh;have Mu:=OwnI.kept rW Hh;have Fp:=ft.trans (Hh.mono ft.size);clear Ck nP Bd Mm bF rU bH rV bG rW ft Hh
   go_wp2_with fail
   refine(Z9 _ _ ns _ (OwnI.reads Mu) (OwnI.reads Mt)).mono ?_
   rintro e w12 ⟨rfl,Hh⟩;have FS:=Mo.below Hh Mo.lt;have Mq:=Mp.below Hh Mp.lt;have Be:=hX11.below Hh hX11.lt;have Mr:=mn.below Hh mn.lt;have mp:=OwnSt.kept mo Hh;have rY:=OwnI.kept Mt Hh;have bI:=OwnSt.kept wR Hh;have rZ:=OwnA.kept rX Hh;have wT:=OwnSt.kept wS Hh;have r5:=OwnI.kept Mu Hh;have fP:=Fp.trans (Hh.mono Fp.size);clear Mo Mp hX11 mn mo Mt wR rX wS Mu Fp Hh;have q1:w1.heap.size<=w3.heap.size:=o_
   have lW:∀k,qv (.slice W0 E.D.fn.length wc0) (.slice W1 E.D.fl.length wc1) (.slice W2 E.D.nn.length wc2) (.slice W3 E.D.nl.length wc3) (.slice W4 E.D.ss.length wc4) (.slice W5 E.cs.length wc5) (.slice W6 E.ds.length wc6) wfs k->w3.heap.size<=k/\k<w4.heap.size:=rD;have lX:∀k,qv (.slice X0 S.D.fn.length xc0) (.slice X1 S.D.fl.length xc1) (.slice X2 S.D.nn.length xc2) (.slice X3 S.D.nl.length xc3) (.slice X4 S.D.ss.length xc4) (.slice X5 S.cs.length xc5) (.slice X6 S.ds.length xc6) xfs k->w5.heap.size<=k/\k<w6.heap.size:=nK;have lG:∀k,qv (.slice G0 E.D.fn.length gc0) (.slice G1 E.D.fl.length gc1) (.slice G2 E.D.nn.length gc2) (.slice G3 E.D.nl.length gc3) (.slice G4 E.D.ss.length gc4) (.slice G5 E.cs.length gc5) (.slice G6 E.ds.length gc6) gfs k->w8.heap.size<=k/\k<w9.heap.size:=rF;have lWN:∀k,(Value.slice WN ns.length wnc).ownBlock =some k->w3.heap.size<=k/\k<w4.heap.size:=wF;have lXA:∀k,xa.ownBlock=some k->w7.heap.size<=k/\k<w8.heap.size:=wK;have lGN:∀k,(Value.slice GN ns.length gnc).ownBlock =some k->w8.heap.size<=k/\k<w9.heap.size:=wM;have q3_4:w3.heap.size<=w4.heap.size:=o_
   have q4_5:w4.heap.size<w5.heap.size:=o_
   have q5_6:w5.heap.size<=w6.heap.size:=o_
   have q6_7:w6.heap.size<w7.heap.size:=o_
   have q7_8:w7.heap.size<=w8.heap.size:=o_
   have q8_9:w8.heap.size<=w9.heap.size:=o_
   have q0:w.heap.size<w3.heap.size:=o_
   clear rD nK rF wF wK wM hlWb hlXb q1 Gd fA Bg Ct hz8 hz9;generalize w3.heap.size=B3 at*;generalize w4.heap.size=B4 at*;generalize w5.heap.size=B5 at*;generalize w6.heap.size=B6 at*;generalize w7.heap.size=B7 at*;generalize w8.heap.size=B8 at*;generalize w9.heap.size=B9 at*;obtain⟨vb_0,vb_1,vb_2,vb_3,vb_4,vb_5,vb_6,vb_7⟩:=FS.c8;obtain⟨xb_0,xb_1,xb_2,xb_3,xb_4,xb_5,xb_6,xb_7⟩:=Be.c8;have vlt:=FS.lt;have xlt:=Be.lt;have wm:=h_ (h.below fP);have wn:=h_ bI.reads
   go_wp2_with fail
   go_region_held3 (fun w'=>w'.cell? ⟨w.heap.size,0,none⟩=some (v0)/\w'.cell? ⟨w.heap.size,1,none⟩=some (v1)/\w'.cell? ⟨w.heap.size,2,none⟩=some (v2)/\w'.cell? ⟨w.heap.size,3,none⟩=some (v3)/\w'.cell? ⟨w.heap.size,4,none⟩=some (v4)/\w'.cell? ⟨w.heap.size,5,none⟩=some (v5)/\w'.cell? ⟨w.heap.size,6,none⟩=some (v6)/\w'.cell? ⟨w.heap.size,7,none⟩=some (.int .i64 S.fund)/\w'.cell? ⟨B6,0,none⟩=some (.slice X0 S.D.fn.length xc0)/\w'.cell? ⟨B6,1,none⟩=some (.slice X1 S.D.fl.length xc1)/\w'.cell? ⟨B6,2,none⟩=some (.slice X2 S.D.nn.length xc2)/\w'.cell? ⟨B6,3,none⟩=some (.slice X3 S.D.nl.length xc3)/\w'.cell? ⟨B6,4,none⟩=some (.slice X4 S.D.ss.length xc4)/\w'.cell? ⟨B6,5,none⟩=some (.slice X5 S.cs.length xc5)/\w'.cell? ⟨B6,6,none⟩=some (.slice X6 S.ds.length xc6)/\w'.cell? ⟨B6,7,none⟩=some (.int .i64 S.fund))
    (go_keep)
    (first|(go_at_call 28;refine Calls.mono (vE v0 v1 v2 v3 v4 v5 v6 S _ (wm.out.below ?c1) gi.out) ?_;(case c1=>exact bel_);rintro e w13 ⟨Q0,qc0,Q1,qc1,Q2,qc2,Q3,qc3,Q4,qc4,Q5,qc5,Q6,qc6,qfs,rfl,wo,CY⟩;(have hc13:=bdC CY);have hz13:=CY.size;(try simp at hz13);(try have hp13_0:=p0_ w w13);(have mm7:B6<w13.heap.size:=by omega))|(go_at_call 30;refine(vG _ _ _ _ _ _ _ _ _ _ _ _ _ _ S _ (wn.out.below ?c2) wo.reads).mono ?_;(case c2=>exact bel_);rintro e w14 ⟨rfl,Uw⟩;(have hc14:=bcC Uw)))
   have gG:Below w12.heap.size w12 w14:=bel_
   clear wo CY Uw hc13 hc14;have Mv:=FS.below gG FS.lt;have hW14:=Mq.below gG Mq.lt;have Mw:=Be.below gG Be.lt;have nQ:=Mr.below gG Mr.lt;have wU:=OwnSt.kept mp gG
   have r6:=OwnI.kept rY gG
   have mt:=OwnSt.kept bI gG
   have r7:=OwnA.kept rZ gG
   have wV:=OwnSt.kept wT gG
   have r8:=OwnI.kept r5 gG
   have Fd:=fP.trans (gG.mono fP.size);clear FS Mq Be Mr mp rY bI rZ wT r5 fP gG wm wn vb_0 vb_1 vb_2 vb_3 vb_4 vb_5 vb_6 vb_7 xb_0 xb_1 xb_2 xb_3 xb_4 xb_5 xb_6 xb_7 vlt xlt
   go_wp2_with fail
   refine(kW va l _ (hA.below Fd) UH.out).mono ?_
   rintro e w15 ⟨ya,rfl,hoYA,Hh⟩;have r9:=Mv.below Hh Mv.lt;have hW15:=hW14.below Hh hW14.lt;have Ra:=Mw.below Hh Mw.lt;have hG15:=nQ.below Hh nQ.lt;have wW:=OwnSt.kept wU Hh;have Rb:=OwnI.kept r6 Hh;have MV:=OwnSt.kept mt Hh;have Mx:=OwnA.kept r7 Hh;have wX:=OwnSt.kept wV Hh;have Rd:=OwnI.kept r8 Hh;have CI:=Fd.trans (Hh.mono Fd.size);clear Mv hW14 Mw nQ wU r6 mt r7 wV r8 Fd Hh
   go_wp2_with fail
   refine(z5e _ _ l _ Mx.reads hoYA.reads).mono ?_
   rintro e w16 ⟨rfl,Hh⟩;have hV16:=r9.below Hh r9.lt;have hW16:=hW15.below Hh hW15.lt;have hX16:=Ra.below Hh Ra.lt;have hG16:=hG15.below Hh hG15.lt;have wY:=OwnSt.kept wW Hh;have Re:=OwnI.kept Rb Hh;have wZ:=OwnSt.kept MV Hh;have Rf:=OwnA.kept Mx Hh;have Wa:=OwnSt.kept wX Hh;have Rg:=OwnI.kept Rd Hh;have CH:=CI.trans (Hh.mono CI.size);clear r9 hW15 Ra hG15 wW Rb MV Mx wX Rd CI Hh hoYA;obtain⟨xb_0,xb_1,xb_2,xb_3,xb_4,xb_5,xb_6,xb_7⟩:=hX16.c8
   go_wp2_with fail
   refine(xX _ _ _ _ _ _ _ _ S xfs 1 _ wZ o_ o_).mono ?_
   rintro e w17 ⟨rfl,_,ht⟩;have hV17:=hV16.turned ht (fun hk=>by have:=lX _ hk;omega);have hW17:=hW16.turned ht (fun hk=>by have:=lX _ hk;omega);have hG17:=hG16.turned ht (fun hk=>by have:=lX _ hk;omega);have Wb:=wY.turned ht (fun k hk gH=>(by have:=lW k hk;have:=lX k gH;omega));have Rh:=zQ Re ht (fun k hk gH=>by have:=lWN k hk;have:=lX k gH;omega);have Ri:=zQ Rf ht (fun k hk gH=>by have:=lXA k hk;have:=lX k gH;omega);have Wc:=Wa.turned ht (fun k hk gH=>(by have:=lG k hk;have:=lX k gH;omega));have Rj:=zQ Rg ht (fun k hk gH=>by have:=lGN k hk;have:=lX k gH;omega);have Rk:=CH.trans (ht.below (fun k hk=>by have:=lX k hk;omega) CH.size);clear hV16 hW16 hX16 hG16 wY Re wZ Rf Wa Rg CH ht xb_0 xb_1 xb_2 xb_3 xb_4 xb_5 xb_6 xb_7
   go_wp2_with fail
   refine(z1L _ xa l (1+yi S) _ Ri o_ o_).mono ?_
   rintro e w18 ⟨rfl,_,hg⟩;have ht:=Turns.ofGrown (S:=fun k=>xa.ownBlock=some k) hg (fun k hk=>hk);clear hg;have hV18:=hV17.turned ht (fun hk=>by have:=lXA _ hk;omega);have UI:=hW17.turned ht (fun hk=>by have:=lXA _ hk;omega);have UJ:=hG17.turned ht (fun hk=>by have:=lXA _ hk;omega);have Rl:=Wb.turned ht (fun k hk gH=>(by have:=lW k hk;have:=lXA k gH;omega));have Rm:=zQ Rh ht (fun k hk gH=>by have:=lWN k hk;have:=lXA k gH;omega);have Rn:=Wc.turned ht (fun k hk gH=>(by have:=lG k hk;have:=lXA k gH;omega));have Ro:=zQ Rj ht (fun k hk gH=>by have:=lGN k hk;have:=lXA k gH;omega);have Rp:=Rk.trans (ht.below (fun k hk=>by have:=lXA k hk;omega) Rk.size);clear hV17 hW17 hG17 Wb Rh Ri Wc Rj Rk ht;obtain⟨wb_0,wb_1,wb_2,wb_3,wb_4,wb_5,wb_6,wb_7⟩:=UI.c8;obtain⟨gb_0,gb_1,gb_2,gb_3,gb_4,gb_5,gb_6,gb_7⟩:=UJ.c8
   go_wp2_with fail
   refine(vG _ _ _ _ _ _ _ _ _ _ _ _ _ _ E _ Rn.reads Rl.reads).mono ?_
   rintro e w19 ⟨rfl,Hh⟩;have hV19:=hV18.below Hh hV18.lt;have hW19:=UI.below Hh UI.lt;have hG19:=UJ.below Hh UJ.lt;have Wd:=OwnSt.kept Rl Hh;have My:=OwnI.kept Rm Hh;have We:=OwnSt.kept Rn Hh;have Mz:=OwnI.kept Ro Hh;have Rq:=Rp.trans (Hh.mono Rp.size);clear hV18 UI UJ Rl Rm Rn Ro Rp Hh wb_0 wb_1 wb_2 wb_3 wb_4 wb_5 wb_6 wb_7 gb_0 gb_1 gb_2 gb_3 gb_4 gb_5 gb_6 gb_7
   go_wp2_with fail
   refine(Z9 _ _ ns _ (OwnI.reads Mz) (OwnI.reads My)).mono ?_
   rintro e w20 ⟨rfl,Hh⟩;have hV20:=hV19.below Hh hV19.lt;have hW20:=hW19.below Hh hW19.lt;have hG20:=hG19.below Hh hG19.lt;have Wf:=OwnSt.kept Wd Hh;have Rr:=OwnI.kept My Hh;have Wg:=OwnSt.kept We Hh;have Rs:=OwnI.kept Mz Hh;have Rt:=Rq.trans (Hh.mono Rq.size);clear hV19 hW19 hG19 Wd My We Mz Rq Hh;obtain⟨gb_0,gb_1,gb_2,gb_3,gb_4,gb_5,gb_6,gb_7⟩:=hG20.c8
   go_wp2_with fail
   refine(xX _ _ _ _ _ _ _ _ E gfs 1 _ Wg o_ o_).mono ?_
   rintro e w21 ⟨rfl,Wh,ht⟩;have hV21:=hV20.turned ht (fun hk=>by have:=lG _ hk;omega);have hW21:=hW20.turned ht (fun hk=>by have:=lG _ hk;omega);have hG21:=hG20.turned ht (fun hk=>by have:=lG _ hk;omega);have Wi:=Wf.turned ht (fun k hk gH=>(by have:=lW k hk;have:=lG k gH;omega));have Ru:=zQ Rr ht (fun k hk gH=>by have:=lWN k hk;have:=lG k gH;omega);have Rv:=zQ Rs ht (fun k hk gH=>hapG k hk gH);have Rw:=Rt.trans (ht.below (fun k hk=>by have:=lG k hk;omega) Rt.size);clear hV20 hW20 hG20 Wf Rr Wg Rs Rt ht gb_0 gb_1 gb_2 gb_3 gb_4 gb_5 gb_6 gb_7
   go_wp2_with fail
   refine(Zx _ _ ns (1+yi E) _ Rv o_ o_).mono ?_
   rintro e w22 ⟨rfl,Rx,hg⟩;have ht:=Turns.ofGrown (S:=fun k=>(Value.slice GN ns.length gnc).ownBlock =some k) hg (fun k hk=>hk);clear hg;have hV22:=hV21.turned ht (fun hk=>by have:=lGN _ hk;omega);have hW22:=hW21.turned ht (fun hk=>by have:=lGN _ hk;omega);have UK:=hG21.turned ht (fun hk=>by have:=lGN _ hk;omega);have Wj:=Wi.turned ht (fun k hk gH=>(by have:=lW k hk;have:=lGN k gH;omega));have Ry:=zQ Ru ht (fun k hk gH=>by have:=lWN k hk;have:=lGN k gH;omega);have Rz:=Wh.turned ht (fun k hk gH=>hapG k gH (z2Z k hk));have RB:=Rw.trans (ht.below (fun k hk=>by have:=lGN k hk;omega) Rw.size);clear hV21 hW21 hG21 Wi Ru Rv Wh Rw ht;obtain⟨gb_0,gb_1,gb_2,gb_3,gb_4,gb_5,gb_6,gb_7⟩:=UK.c8
   go_wp2_with fail
   refine(QT _ _ _ _ _ _ _ E 1 _ Rz.reads o_ o_).mono ?_
   rintro e w23 ⟨rfl,Hh⟩;have UL:=hV22.below Hh hV22.lt;have hW23:=hW22.below Hh hW22.lt;have hG23:=UK.below Hh UK.lt;have Wk:=OwnSt.kept Wj Hh;have RE:=OwnI.kept Ry Hh;have Wl:=OwnSt.kept Rz Hh;have MA:=OwnI.kept Rx Hh;have MW:=RB.trans (Hh.mono RB.size);clear hV22 hW22 UK Wj Ry Rz Rx RB Hh gb_0 gb_1 gb_2 gb_3 gb_4 gb_5 gb_6 gb_7
   go_wp2_with fail
   refine(z2n _ ns.length (1+yi E) _ (OwnI.reads MA) o_ o_).mono ?_
   rintro e w' ⟨rfl,rfl⟩;obtain⟨vb_0,vb_1,vb_2,vb_3,vb_4,vb_5,vb_6,vb_7⟩:=UL.c8
   go_wp2_with fail
   refine(vE _ _ _ _ _ _ _ S _ (h.below MW) gi.out).mono ?_
   rintro e w24 ⟨T0,tc0,T1,tc1,T2,tc2,T3,tc3,T4,tc4,T5,tc5,T6,tc6,tfs,rfl,mq,Hh⟩;have hV24:=UL.below Hh UL.lt;have hW24:=hW23.below Hh hW23.lt;have hG24:=hG23.below Hh hG23.lt;have Wm:=OwnSt.kept Wk Hh;have RG:=OwnI.kept RE Hh;have Wn:=OwnSt.kept Wl Hh;have RH:=OwnI.kept MA Hh;have MX:=MW.trans (Hh.mono MW.size);clear UL hW23 hG23 Wk RE Wl MA MW Hh vb_0 vb_1 vb_2 vb_3 vb_4 vb_5 vb_6 vb_7;have Wo:=mq;clear mq
   go_wp2_with fail
   refine(kW va l _ (hA.below MX) UH.out).mono ?_
   rintro e w25 ⟨ta2,rfl,RJ,Hh⟩;have hV25:=hV24.below Hh hV24.lt;have hW25:=hW24.below Hh hW24.lt;have hG25:=hG24.below Hh hG24.lt;have Wp:=OwnSt.kept Wm Hh;have RK:=OwnI.kept RG Hh;have Wq:=OwnSt.kept Wn Hh;have RL:=OwnI.kept RH Hh;have Wr:=OwnSt.kept Wo Hh;have RM:=MX.trans (Hh.mono MX.size);clear hV24 hW24 hG24 Wm RG Wn RH Wo MX Hh
   go_wp2_with fail
   refine(uL.out _ _ _ _ _ _ _ _ _ Wr.reads RJ.reads).mono ?_
   rintro e w26 ⟨H0,C8,H1,Gb,H2,fa,H3,fU,H4,Cp,H5,cV,H6,CE,hfs,HN,cO,rfl,rK,Ws,_,Hh⟩;have hV26:=hV25.below Hh hV25.lt;have RO:=hW25.below Hh hW25.lt;have hG26:=hG25.below Hh hG25.lt;have Wt:=OwnSt.kept Wp Hh;have RQ:=OwnI.kept RK Hh;have Wu:=OwnSt.kept Wq Hh;have RU:=OwnI.kept RL Hh;have RV:=RM.trans (Hh.mono RM.size);clear hV25 hW25 hG25 Wp RK Wq RL Wr RM Hh RJ;have Wv:=rK;have RW:=Ws;clear rK Ws;obtain⟨wb_0,wb_1,wb_2,wb_3,wb_4,wb_5,wb_6,wb_7⟩:=RO.c8;have wlt:=RO.lt
   go_wp2_with fail
   obtain⟨w27,hu⟩:∃v,v=w26.alloc (.cells #[.slice H0 E.D.fn.length C8,.slice H1 E.D.fl.length Gb,.slice H2 E.D.nn.length fa,.slice H3 E.D.nl.length fU,.slice H4 E.D.ss.length Cp,.slice H5 E.cs.length cV,.slice H6 E.ds.length CE,.int .i64 E.fund] 34):=⟨_,rfl⟩;have fu:Below w26.heap.size w26 w27:=hu▸(aaj _ _).alloc (aaa _) _;have hNH:Blk w27 w26.heap.size 34 #[.slice H0 E.D.fn.length C8,.slice H1 E.D.fl.length Gb,.slice H2 E.D.nn.length fa,.slice H3 E.D.nl.length fU,.slice H4 E.D.ss.length Cp,.slice H5 E.cs.length cV,.slice H6 E.ds.length CE,.int .i64 E.fund]:=hu▸Blk.newAt rfl;rw[<-hu];clear hu;have hV27:=hV26.below fu hV26.lt;have hW27:=RO.below fu RO.lt;have hG27:=hG26.below fu hG26.lt;have RX:=OwnSt.kept Wt fu;have RY:=OwnI.kept RQ fu;have Ww:=OwnSt.kept Wu fu;have RZ:=OwnI.kept RU fu;have R0:=OwnSt.kept Wv fu;have R1:=OwnI.kept RW fu;have R2:=RV.trans (fu.mono RV.size);clear hV26 RO hG26 Wt RQ Wu RU Wv RW RV fu wb_0 wb_1 wb_2 wb_3 wb_4 wb_5 wb_6 wb_7 wlt;clear hNH;refine(vG _ _ _ _ _ _ _ _ _ _ _ _ _ _ E _ R0.reads RX.reads).mono ?_
   rintro e w28 ⟨rfl,Hh⟩;have hV28:=hV27.below Hh hV27.lt;have hW28:=hW27.below Hh hW27.lt;have hG28:=hG27.below Hh hG27.lt;have Wx:=OwnSt.kept RX Hh;have MB:=OwnI.kept RY Hh;have Wy:=OwnSt.kept Ww Hh;have R3:=OwnI.kept RZ Hh;have Wz:=OwnSt.kept R0 Hh;have MC:=OwnI.kept R1 Hh;have R4:=R2.trans (Hh.mono R2.size);clear hV27 hW27 hG27 RX RY Ww RZ R0 R1 R2 Hh
   go_wp2_with fail
   refine(Z9 _ _ ns _ (OwnI.reads MC) (OwnI.reads MB)).mono ?_
   rintro e w29 ⟨rfl,Hh⟩;have hV29:=hV28.below Hh hV28.lt;have hW29:=hW28.below Hh hW28.lt;have hG29:=hG28.below Hh hG28.lt;have hoW29:=OwnSt.kept Wx Hh;have hoWN29:=OwnI.kept MB Hh;have WA:=OwnSt.kept Wy Hh;have R5:=OwnI.kept R3 Hh;have hoH29:=OwnSt.kept Wz Hh;have hoHN29:=OwnI.kept MC Hh;have R6:=R4.trans (Hh.mono R4.size);clear hV28 hW28 hG28 Wx MB Wy R3 Wz MC R4 Hh;obtain⟨gb_0,gb_1,gb_2,gb_3,gb_4,gb_5,gb_6,gb_7⟩:=hG29.c8
   go_wp2_with fail
   refine(QT _ _ _ _ _ _ _ E 1 _ WA.reads o_ o_).mono ?_
   rintro e w30 ⟨rfl,Hh⟩;have R7:=OwnI.kept R5 Hh;have hbw30:=R6.trans (Hh.mono R6.size);clear hV29 hW29 hG29 hoW29 hoWN29 WA R5 hoH29 hoHN29 R6 Hh gb_0 gb_1 gb_2 gb_3 gb_4 gb_5 gb_6 gb_7
   go_wp2_with fail
   refine(z2n _ ns.length (1+yi E) _ (OwnI.reads R7) o_ o_).mono ?_
   rintro e w' ⟨rfl,rfl⟩;clear R7;go_wp2;go_ret
   exact⟨rfl,hbw30⟩
end Go.Proofs.YtnjcpljhmhdhkaaGreat
