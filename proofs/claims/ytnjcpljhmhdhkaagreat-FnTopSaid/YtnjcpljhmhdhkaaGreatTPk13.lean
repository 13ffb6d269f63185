/- part 13 -/
import Derived.Test.YtnjcpljhmhdhkaaGreatTPk8
import Derived.Deep.RegionHeld3
set_option linter.unusedSimpArgs false
set_option linter.unusedVariables false
set_option maxRecDepth 100000
set_option maxHeartbeats 8000000
namespace Go.Proofs.YtnjcpljhmhdhkaaGreat
open Go.RowKit
attribute [local go_sem ↓] zr zq zU zT
noncomputable def joinX (ls:List Pr) (k:Int) (p q:Nat):Pr:=(mn2 (othI (ndI ls p) k) (othI (ndI ls q) k),mx2 (othI (ndI ls p) k) (othI (ndI ls q) k))
noncomputable def z0i (ls:List Pr) (k:Int):List Pr:=match atN ls k ls.length with
 | [p,q]=>(ls.set p (joinX ls k p q)).take q++(ls.set p (joinX ls k p q)).drop (q+1)
 |_=>ls
noncomputable def xS (ns:List Pr) (k:Int):List Pr:=nwo ns k ns.length
noncomputable def xO (ls:List Pr) (k:Int):List Pr:=lwo (z0i ls k) k (z0i ls k).length
noncomputable def j5 (ns ls:List Pr) (k:Int):Bool:=zW ns ls k&&winB (xS ns k) (xO ls k)
noncomputable def qr (ns ls:List Pr) (k:Int):List Pr:=if j5 ns ls k then xS ns k else ns
noncomputable def qs (ns ls:List Pr) (k:Int):List Pr:=if j5 ns ls k then xO ls k else ls
theorem z3Z (w:World) (p p':Addr) (u u':Value) (h:p'.block=p.block):w.grownBy ((w.setCell p u).setCell p' u') (some p.block):=
 ⟨rfl,rfl,rfl,by simp[World.setCell],fun i hi Hv=>(Below.heap_setCell _ p' u' i (fun e=>Hv (by rw[e,h]))).trans (Below.heap_setCell w p u i (fun e=>Hv (by rw[e])))⟩
theorem QT (vn vl:Value) (ns ls:List Pr) (k:Int) (b:Bool) (w:World) (hn:RP w vn ns) (hl:RP w vl ls) (hb:zW ns ls k=b):
  CB_ 216 #[.agg #[vn,vl],.int .i64 k] w (.bool b):=by
 subst hb;exact Xu vn vl ns ls k w hn hl
theorem z7A (vn vl:Value) (ns ls:List Pr) (k:Int) (w:World) (hn:RP w vn ns) (hl:RP w vl ls) (h1:ns.length<=1048576) (h2:ls.length<=1048576) (hw:zW ns ls k=false):
  Calls Tryz.prog 163 #[.agg #[vn,vl],.int .i64 k] w (zI ns ls false w):=by
 go_enter Tryz.func163,Tryz.ntmps163
 go_wp2_with fail
 refine(qt _ _ ns ls _ (hn.below bel_) (hl.below bel_) h1 h2).mono ?_
 rintro e w1 ⟨An1,cn1,Al1,cl1,rfl,Hj,Hb⟩;have H7:=Hb.size;simp at H7
 have gd:OwnW (w.heap.size+1+1) w1 (.slice An1 ns.length cn1) (.slice Al1 ls.length cl1) ns ls:=by simpa using Hj
 have GT:Blk w1 w.heap.size 27 #[vn,vl]:=Blk.below ((Blk.newAt rfl).alloc _) Hb sz_;have H6:Blk w1 (w.heap.size+1) 27 #[.slice none 0 0,.slice none 0 0]:=Blk.below (Blk.newAt (by simp)) Hb sz_;have Ha:Below w.heap.size w w1:=bel_
 have n1:w.heap.size<w1.heap.size:=o_
 have n2:w.heap.size+1<w1.heap.size:=o_
 obtain⟨a_0,a_1⟩:=GT.c2;have hbs:Below w1.heap.size w1 (w1.alloc (.cells #[.slice An1 ns.length cn1,.slice Al1 ls.length cl1] 27)):=bel_
 have Gw:Below w.heap.size w (w1.alloc (.cells #[.slice An1 ns.length cn1,.slice Al1 ls.length cl1] 27)):=bel_
 go_wp2_with fail
 refine(QT _ _ ns ls _ _ _ (hn.below Gw) (hl.below Gw) hw).mono ?_
 rintro e w2 ⟨rfl,Hh⟩;have gG:Below w1.heap.size w1 w2:=hbs.trans (Hh.mono hbs.size);have fT:Blk w2 w1.heap.size 27 #[.slice An1 ns.length cn1,.slice Al1 ls.length cl1]:=Blk.below (Blk.newAt rfl) Hh sz_;have go:=H6.below gG n2;have Hn:=gd.kept gG;have Hc:Below w.heap.size w w2:=Ha.trans (gG.mono Ha.size);obtain⟨s_0,s_1,s_f0,s_f1⟩:=fT.b2;obtain⟨r_0,r_1,r_f0,r_f1⟩:=go.b2;have hO:=h_ (((Hn.setLow (p:=⟨w.heap.size+1,0,none⟩) sz_ (.slice An1 ns.length cn1)).setLow (p:=⟨w.heap.size+1,1,none⟩) sz_ (.slice Al1 ls.length cl1)).mono (show w.heap.size<=_ by omega));have HB:=h_ ((Hc.setCell (p:=⟨w.heap.size+1,0,none⟩) sz_ (.slice An1 ns.length cn1)).setCell (p:=⟨w.heap.size+1,1,none⟩) sz_ (.slice Al1 ls.length cl1));generalize w1.heap.size=B1 at*;go_wp2;exact bodyPost_ret (v:= .tuple #[.agg #[.slice An1 ns.length cn1,.slice Al1 ls.length cl1],.bool false]) (by simp[results,Tryz.results163,go_sem,r_0,r_1,s_0,s_1]) rfl ⟨_,_,_,_,rfl,hO.out,HB.out⟩
theorem z6b (vn vl:Value) (ns ls:List Pr) (m p q t u:Nat) (w:World) (hn:RP w vn ns) (hl:RP w vl ls) (h1:ns.length<=1048576) (h2:ls.length<=1048576) (hw:zW ns ls m=true) (hk:hasN ns ls m=true)
  (eG:atN ls m ls.length=[p,q]) (hp:p<ls.length) (hq:q<ls.length) (eE:vm ls m (atN ls m ls.length)=[(t:Int),(u:Int)])
  (GB:∀j:Nat,j<((ls.set p (mn2 (t:Int) u,mx2 (t:Int) u)).take q++(ls.set p (mn2 (t:Int) u,mx2 (t:Int) u)).drop (q+1)).length ->(-1000000<=(ndI ((ls.set p (mn2 (t:Int) u,mx2 (t:Int) u)).take q++(ls.set p (mn2 (t:Int) u,mx2 (t:Int) u)).drop (q+1)) j).1/\(ndI ((ls.set p (mn2 (t:Int) u,mx2 (t:Int) u)).take q++(ls.set p (mn2 (t:Int) u,mx2 (t:Int) u)).drop (q+1)) j).1<=1000000)/\(-1000000<=(ndI ((ls.set p (mn2 (t:Int) u,mx2 (t:Int) u)).take q++(ls.set p (mn2 (t:Int) u,mx2 (t:Int) u)).drop (q+1)) j).2/\(ndI ((ls.set p (mn2 (t:Int) u,mx2 (t:Int) u)).take q++(ls.set p (mn2 (t:Int) u,mx2 (t:Int) u)).drop (q+1)) j).2<=1000000)):
  Calls Tryz.prog 163 #[.agg #[vn,vl],.int .i64 m] w (fun e w'=>zI (qr ns ls m) (qs ns ls m) (j5 ns ls m) w e w'):=by
 obtain⟨j0,hj,jz0,jz1,jz2⟩:=info_parts jd;have C9:=h_ eE;have FB:=h_ eG;clear eE eG
 go_enter Tryz.func163,Tryz.ntmps163
 go_wp2_with fail
 refine(qt _ _ ns ls _ (hn.below bel_) (hl.below bel_) h1 h2).mono ?_
 rintro e w1 ⟨An1,cn1,Al1,cl1,rfl,Hj,Hb⟩;have H7:=Hb.size;simp at H7
 have gd:OwnW (w.heap.size+1+1) w1 (.slice An1 ns.length cn1) (.slice Al1 ls.length cl1) ns ls:=by simpa using Hj
 have Hu:=gd.lt;have GT:Blk w1 w.heap.size 27 #[vn,vl]:=Blk.below ((Blk.newAt rfl).alloc _) Hb sz_;have H6:Blk w1 (w.heap.size+1) 27 #[.slice none 0 0,.slice none 0 0]:=Blk.below (Blk.newAt (by simp)) Hb sz_;have Ha:Below w.heap.size w w1:=bel_
 clear Hb Hj;have n1:w.heap.size<w1.heap.size:=o_
 have n2:w.heap.size+1<w1.heap.size:=o_
 obtain⟨a_0,a_1⟩:=GT.c2;have hbs:Below w1.heap.size w1 (w1.alloc (.cells #[.slice An1 ns.length cn1,.slice Al1 ls.length cl1] 27)):=bel_
 have Gw:Below w.heap.size w (w1.alloc (.cells #[.slice An1 ns.length cn1,.slice Al1 ls.length cl1] 27)):=bel_
 go_wp2_with fail
 refine(QT _ _ ns ls _ _ _ (hn.below Gw) (hl.below Gw) hw).mono ?_
 rintro e w2 ⟨rfl,Hh⟩;have Gp:=Hh.size;(try simp at Gp);(try have Gc:=p0_ w w2);(try have Gd:=p1_ w w2);(try have fu:=p2_ w w2)
 have gG:Below w1.heap.size w1 w2:=hbs.trans (Hh.mono hbs.size);have fT:Blk w2 w1.heap.size 27 #[.slice An1 ns.length cn1,.slice Al1 ls.length cl1]:=Blk.below (Blk.newAt rfl) Hh sz_;have go:=H6.below gG n2;have FA:=GT.below gG n1;have Hn:=gd.kept gG;have Hc:Below w.heap.size w w2:=Ha.trans (gG.mono Ha.size);clear Hh hbs Gw gG GT H6 gd Ha a_0 a_1;have n1:w.heap.size<w2.heap.size:=FA.lt;have n3:w1.heap.size<w2.heap.size:=fT.lt;obtain⟨a_0,a_1⟩:=FA.c2
 go_wp2_with fail
 refine(z0b _ _ ns ls _ _ (hn.below Hc) (hl.below Hc) hk).mono ?_
 rw[C9.out];rintro e w3 ⟨v3,rfl,Hq,Hg⟩;have fC:=Hg.size;have F0:=FA.below Hg n1;have Ga:=go.below Hg go.lt;have F5:=fT.below Hg n3;have WN:=Hn.kept Hg;have He:=Hc.trans (Hg.mono Hc.size);obtain⟨A3,c3,e3,GK,_,Fw⟩:=Hq.reads.form;subst e3;obtain⟨b3,o3,rfl,WO,CG⟩:=Fw (by simp);have x0:=CG 0 (by simp);have x1:=CG 1 (by simp);simp only[List.getD_cons_zero,List.getD_cons_succ,aaf,aaU,List.length_nil,aaF] at x0 x1 GK
 clear Fw CG Hg FA go fT Hn Hc a_0 a_1 Hq;obtain⟨a_0,a_1⟩:=F0.c2;have n1:w.heap.size<w3.heap.size:=F0.lt
 go_wp2_with fail
 refine(xe _ _ ns ls _ _ (hn.below He) (hl.below He) hk).mono ?_
 rw[FB.out];rintro e w4 ⟨v4,rfl,gz,H5⟩;have BA:=H5.size;have bX:=F0.below H5 n1;have GY:=Ga.below H5 Ga.lt;have mp:=F5.below H5 F5.lt;have WP:=WN.kept H5;have Ho:=He.trans (H5.mono He.size);have x0':=(H5.cell (p:=⟨b3,o3,none⟩) WO).trans x0;have x1':=(H5.cell (p:=⟨b3,o3+1,none⟩) WO).trans x1;obtain⟨A4,c4,e4,cf,_,Gm⟩:=gz.reads.form;subst e4;obtain⟨b4,o4,rfl,nI,fU⟩:=Gm (by simp[natI]);have y0:=fU 0 (by simp[natI]);have y1:=fU 1 (by simp[natI]);simp only[natI,aaS,aaT,List.getD_cons_zero,List.getD_cons_succ,aaf,aaU,List.length_nil,aaF] at y0 y1 cf
 clear Gm fU H5 F0 Ga F5 WN He a_0 a_1 gz x0 x1;have hb3'':b3<w4.heap.size:=o_
 obtain⟨a_0,a_1⟩:=bX.c2;have n1:w.heap.size<w4.heap.size:=bX.lt
 go_wp2_with fail
 rw[show(natI [p,q]).length =2 from rfl];refine(qt _ _ ns ls _ (hn.below Ho) (hl.below Ho) h1 h2).mono ?_
 rintro e w5 ⟨An5,cn5,Al5,cl5,rfl,fk,gk⟩;have nm:=gk.size;have CE:=bX.below gk n1;have fJ:=GY.below gk GY.lt;have Mx:=mp.below gk mp.lt;have WQ:=WP.kept gk;have H8:=Ho.trans (gk.mono Ho.size);have x0:=(gk.cell (p:=⟨b3,o3,none⟩) hb3'').trans x0';have x1:=(gk.cell (p:=⟨b3,o3+1,none⟩) hb3'').trans x1';have y0':=(gk.cell (p:=⟨b4,o4,none⟩) nI).trans y0;have y1':=(gk.cell (p:=⟨b4,o4+1,none⟩) nI).trans y1
 rcases F4:fk.2.1.2 with ⟨_,h0⟩|⟨g,cap,cur,e1,mo,hh,bO,mh,Fs⟩
 ·omega
 cases e1
 clear F4 hh Fs cur mh;have b9:=fk.lt;clear gk bX GY mp WP Ho a_0 a_1 x0' x1' y0 y1;have n2:w.heap.size+1<w5.heap.size:=fJ.lt;have n3:w1.heap.size<w5.heap.size:=Mx.lt;have hb3''':b3<w5.heap.size:=o_
 have hb4''':b4<w5.heap.size:=o_
 obtain⟨WJ,hgw5⟩:=b9 g (.inr rfl);have g1:¬b3=g:=o_
 have g2:¬b4=g:=o_
 have g3:¬w5.heap.size=g:=o_
 have g4:¬g=w5.heap.size:=o_
 have c1:(0:Int)<=(p:Int):=o_
 have c2:(p:Int)<(ls.length:Int):=o_
 go_wp2_with fail
 obtain⟨w6,CV⟩:∃w6,w6=w5.alloc (.cells #[.slice An5 ns.length cn5,.slice (some ⟨g,0,none⟩) ls.length cl5] 27):=⟨_,rfl⟩;have CU:w6.heap.size=w5.heap.size+1:=by rw[CV];simp
 have nw:Blk w6 _ _ _:=CV▸CE.alloc _;have Fg:Blk w6 _ _ _:=CV▸fJ.alloc _;have Rr:Blk w6 _ _ _:=CV▸Mx.alloc _;have bG:Blk w6 w5.heap.size 27 #[.slice An5 ns.length cn5,.slice (some ⟨g,0,none⟩) ls.length cl5]:=CV▸Blk.newAt rfl;have WR:=CV▸WQ.alloc (.cells #[.slice An5 ns.length cn5,.slice (some ⟨g,0,none⟩) ls.length cl5] 27);have fh:=CV▸fk.alloc (.cells #[.slice An5 ns.length cn5,.slice (some ⟨g,0,none⟩) ls.length cl5] 27);have MA:Below w5.heap.size w5 w6:=by rw[CV];exact bel_
 have Gi:=H8.trans (MA.mono H8.size);have x0':=(MA.cell (p:=⟨b3,o3,none⟩) hb3''').trans x0;have x1':=(MA.cell (p:=⟨b3,o3+1,none⟩) hb3''').trans x1;have y0:=(MA.cell (p:=⟨b4,o4,none⟩) hb4''').trans y0';have y1:=(MA.cell (p:=⟨b4,o4+1,none⟩) hb4''').trans y1';rw[<-CV];clear CV MA CE fJ Mx WQ fk H8 x0 x1 y0' y1';obtain⟨d0,d1⟩:=fh.2.1.cell hp;have d2:=fh.2.1.frz (p*2);have d3:=fh.2.1.frz (p*2+1);obtain⟨o_0,o_1,o_f0,o_f1⟩:=bG.b2
 go_still_tail 21,k_
 change wpList _ _ _ _ _ w6.drew
 have HD:=h_ (fh.2.1.drew.set_ hp (mn2 (t:Int) u) (mx2 (t:Int) u));obtain⟨w7,BG⟩:∃w7,w7=((w6.setCell ⟨g,p*2,none⟩ (.int .i64 (mn2 (t:Int) u))).setCell ⟨g,p*2+1,none⟩ (.int .i64 (mx2 (t:Int) u))).drew :=⟨_,rfl⟩;have hz7:w7.heap.size=w6.heap.size:=by rw[BG];simp
 have Fp:w6.drew.grownBy w7 (some g):=BG▸(show w6.drew.grownBy (((w6.setCell ⟨g,p*2,none⟩ (.int .i64 (mn2 (t:Int) u))).setCell ⟨g,p*2+1,none⟩ (.int .i64 (mx2 (t:Int) u))).drew) (some g) from z3Z w6.drew ⟨g,p*2,none⟩ ⟨g,p*2+1,none⟩ _ _ rfl);have nC:=nw.drew.grownR Fp (fun b hb=>by cases hb;omega);have C4:=Fg.drew.grownR Fp (fun b hb=>by cases hb;omega);have rB:=Rr.drew.grownR Fp (fun b hb=>by cases hb;omega);have Bo:=bG.drew.grownR Fp (fun b hb=>by cases hb;omega);have nJ:=OwnW.apart (w:=w6.drew) WR Fp (fun b hb e=>by cases e;have:=(Hu _ hb).2;omega);have nK:=OwnP.apart (w:=w6.drew) fh.1 Fp (fun b hb e=>by cases e;exact fh.2.2 _ hb rfl);have rC:=fh.2.2;have WS:∀b,(Value.slice An5 ns.length cn5).ownBlock =some b->b=w5.heap.size->False:=fun b hb e=>by have:=(b9 b (.inl hb)).2;omega
 have nM:OwnP 108 w4.heap.size w7 (.slice (some ⟨g,0,none⟩) ls.length cl5) (ls.set p (mn2 (t:Int) u,mx2 (t:Int) u)):=BG▸(show OwnP 108 w4.heap.size (((w6.setCell ⟨g,p*2,none⟩ (.int .i64 (mn2 (t:Int) u))).setCell ⟨g,p*2+1,none⟩ (.int .i64 (mx2 (t:Int) u))).drew) _ _ from HD.out);have GC:Below w.heap.size w w7:=(Below.drew Gi).grown Fp (by have:=Gi.size;simpa using this) (fun b e=>by cases e;omega);have y1':=World.grownBy.cell Fp (a:=⟨b4,o4+1,none⟩) (show w6.drew.cell? _=_ from y1) (fun e=>g2 (by cases e;rfl));have HW7:=h_ BG;clear BG HD Fp nw Fg Rr bG fh WR Gi x0' x1' y0 y1 o_0 o_1 o_f0 o_f1
 go_upto_region 8 with (fail)
 rw[<-HW7.out];clear HW7;obtain⟨o_0,o_1,o_f0,o_f1⟩:=Bo.b2
 have HE:Hid (joinX ls m p q=(mn2 (t:Int) u,mx2 (t:Int) u)):=h_ (by
  have:=C9.out;rw[FB.out] at this;simp[vm] at this
  simp[joinX,this.1,this.2])
 have NP:(ls.set p (mn2 (t:Int) u,mx2 (t:Int) u)).length =ls.length:=by simp
 obtain⟨L1,ub⟩:∃L1,L1=ls.set p (mn2 (t:Int) u,mx2 (t:Int) u):=⟨_,rfl⟩;rw[<-ub] at NP nM;have WT:=h_ ub;clear ub;have rs:q<L1.length:=o_
 have MB:Hid ((L1.take q++L1.drop (q+1)).length =ls.length -1):=h_ (by simp;omega)
 go_cut [9] (fun s9 wx=>s9= .pointer (some ⟨w5.heap.size,0,none⟩)/\Blk wx w.heap.size 27 #[vn,vl]/\Blk wx (w.heap.size+1) 27 #[.slice none 0 0,.slice none 0 0]/\
   Blk wx w1.heap.size 27 #[.slice An1 ns.length cn1,.slice Al1 ls.length cl1]/\Blk wx w5.heap.size 27 #[.slice An5 ns.length cn5,.slice (some ⟨g,0,none⟩) (ls.length -1) cl5]/\
   OwnW (w.heap.size+1+1) wx (.slice An1 ns.length cn1) (.slice Al1 ls.length cl1) ns ls/\OwnW w4.heap.size wx (.slice An5 ns.length cn5) (.slice (some ⟨g,0,none⟩) (ls.length -1) cl5) ns (L1.take q++L1.drop (q+1))/\
   Below w.heap.size w wx/\w6.heap.size<=wx.heap.size)
 case first=>
  have c1:(q:Int)<=((cl5:Nat):Int):=o_
  have c2:(0:Int)<=(q:Int):=o_
  have c3:(q:Int)+1<=(ls.length:Int):=o_
  have c4:(ls.length:Int)<=((cl5:Nat):Int):=o_
  have Bm:IntKind.i64.wrap ((q:Int)+1)=(q:Int)+1:=aaP _ o_;have c5:(0:Int)<=(q:Int)+1:=o_
  have c6:((q:Int)+1).toNat =q+1:=o_
  by_cases fM:cl5=q+1
  ·subst fM
   have c1':(q:Int)<=(q:Int)+1:=o_
   go_still_tail 13,k_
   have BH:OwnP 108 w4.heap.size w7.drew (.slice (some ⟨g,0,none⟩) L1.length (q+1)) L1:=by rw[NP];exact nM.drew
   have uu:=h_ BH;clear nM BH
   go_wp2_with (at_builtin;refine jN (c2:=0) rfl _ _ _ rfl w4.heap.size 108 j0 Tryz.underlying25 hj jz1 g (q+1) L1 q rfl (by rw[aao rfl,NP];rw[show ls.length -(q+1)=0 by omega];rfl) uu.out rs ?_)
   intro w8 hcut fH;have WU:=Bo.drew.grownR fH (fun b hb=>by cases hb;omega);have WV:=(nC.drew.grownR fH (fun b hb=>by cases hb;omega)).far (p:=⟨w5.heap.size,1,none⟩) (show ¬w.heap.size=w5.heap.size by omega) (.slice (some ⟨g,0,none⟩) (ls.length -1) (q+1));have nz:=(C4.drew.grownR fH (fun b hb=>by cases hb;omega)).far (p:=⟨w5.heap.size,1,none⟩) (show ¬w.heap.size+1=w5.heap.size by omega) (.slice (some ⟨g,0,none⟩) (ls.length -1) (q+1));have WW:=(rB.drew.grownR fH (fun b hb=>by cases hb;omega)).far (p:=⟨w5.heap.size,1,none⟩) (show ¬w1.heap.size=w5.heap.size by omega) (.slice (some ⟨g,0,none⟩) (ls.length -1) (q+1));have nN:=(OwnW.apart (w:=w7.drew) nJ fH (fun b hb e=>by cases e;have:=(Hu _ hb).2;omega)).setFar (p:=⟨w5.heap.size,1,none⟩) (fun h=>by have:=(Hu _ h).2;simp at this;omega) (.slice (some ⟨g,0,none⟩) (ls.length -1) (q+1));have nO:=OwnP.apart (w:=w7.drew) nK fH (fun b hb e=>by cases e;exact rC _ hb rfl);have BI:OwnW w4.heap.size w8 (.slice An5 ns.length cn5) (.slice (some ⟨g,0,none⟩) (ls.length -1) (q+1)) ns (L1.take q++L1.drop (q+1)):=⟨nO,hcut,fun b hb Hh=>rC b hb Hh⟩
   have be:=BI.setFar (p:=⟨w5.heap.size,1,none⟩) (by
    rintro(h|h)
    ·exact WS _ h rfl
    ·cases h;exact g3 rfl) (.slice (some ⟨g,0,none⟩) (ls.length -1) (q+1))
   have hz8:=fH.size;have mH:Below w.heap.size w w8:=(Below.drew GC).grown fH (by have:=GC.size;simpa using this) (fun b e=>by cases e;omega);have Cv:=mH.setCell (p:=⟨w5.heap.size,1,none⟩) (show w.heap.size<=w5.heap.size by omega) (.slice (some ⟨g,0,none⟩) (ls.length -1) (q+1));have rD:Blk (w8.setCell ⟨w5.heap.size,1,none⟩ (.slice (some ⟨g,0,none⟩) (ls.length -1) (q+1))) w5.heap.size 27 #[.slice An5 ns.length cn5,.slice (some ⟨g,0,none⟩) (ls.length -1) (q+1)]:=WU.set_ 1 _;have HZ:=h_ (show w6.heap.size<=(w8.setCell ⟨w5.heap.size,1,none⟩ (.slice (some ⟨g,0,none⟩) (ls.length -1) (q+1))).heap.size by simp at hz8⊢;omega);have uv:=h_ (And.intro WV (And.intro nz (And.intro WW (And.intro rD (And.intro nN (And.intro be Cv))))));clear WV nz WW rD nN BI be mH Cv nO hcut nC C4 rB Bo nJ nK GC o_0 o_1 o_f0 o_f1 y1' fH;obtain⟨o_0,o_1,o_f0,o_f1⟩:=WU.b2;go_wp2;go_meet
   obtain⟨f1,f2,f3,f4,f5,f6,f7⟩:=uv.out;exact⟨rfl,f1,f2,f3,f4,f5,f6,f7,HZ.out⟩
  ·go_still_tail 13,k_
   have BH:OwnP 108 w4.heap.size w7.drew (.slice (some ⟨g,0,none⟩) L1.length cl5) L1:=by rw[NP];exact nM.drew
   have uu:=h_ BH;clear nM BH
   go_wp2_with (at_builtin;refine jN (c2:=cl5 -(q+1)) rfl _ _ _ rfl w4.heap.size 108 j0 Tryz.underlying25 hj jz1 g (cl5) L1 q rfl (by rw[aaq fM,NP];rfl) uu.out rs ?_)
   intro w8 hcut fH;have WU:=Bo.drew.grownR fH (fun b hb=>by cases hb;omega);have WV:=(nC.drew.grownR fH (fun b hb=>by cases hb;omega)).far (p:=⟨w5.heap.size,1,none⟩) (show ¬w.heap.size=w5.heap.size by omega) (.slice (some ⟨g,0,none⟩) (ls.length -1) (cl5));have nz:=(C4.drew.grownR fH (fun b hb=>by cases hb;omega)).far (p:=⟨w5.heap.size,1,none⟩) (show ¬w.heap.size+1=w5.heap.size by omega) (.slice (some ⟨g,0,none⟩) (ls.length -1) (cl5));have WW:=(rB.drew.grownR fH (fun b hb=>by cases hb;omega)).far (p:=⟨w5.heap.size,1,none⟩) (show ¬w1.heap.size=w5.heap.size by omega) (.slice (some ⟨g,0,none⟩) (ls.length -1) (cl5));have nN:=(OwnW.apart (w:=w7.drew) nJ fH (fun b hb e=>by cases e;have:=(Hu _ hb).2;omega)).setFar (p:=⟨w5.heap.size,1,none⟩) (fun h=>by have:=(Hu _ h).2;simp at this;omega) (.slice (some ⟨g,0,none⟩) (ls.length -1) (cl5));have nO:=OwnP.apart (w:=w7.drew) nK fH (fun b hb e=>by cases e;exact rC _ hb rfl);have BI:OwnW w4.heap.size w8 (.slice An5 ns.length cn5) (.slice (some ⟨g,0,none⟩) (ls.length -1) (cl5)) ns (L1.take q++L1.drop (q+1)):=⟨nO,hcut,fun b hb Hh=>rC b hb Hh⟩
   have be:=BI.setFar (p:=⟨w5.heap.size,1,none⟩) (by
    rintro(h|h)
    ·exact WS _ h rfl
    ·cases h;exact g3 rfl) (.slice (some ⟨g,0,none⟩) (ls.length -1) (cl5))
   have hz8:=fH.size;have mH:Below w.heap.size w w8:=(Below.drew GC).grown fH (by have:=GC.size;simpa using this) (fun b e=>by cases e;omega);have Cv:=mH.setCell (p:=⟨w5.heap.size,1,none⟩) (show w.heap.size<=w5.heap.size by omega) (.slice (some ⟨g,0,none⟩) (ls.length -1) (cl5));have rD:Blk (w8.setCell ⟨w5.heap.size,1,none⟩ (.slice (some ⟨g,0,none⟩) (ls.length -1) (cl5))) w5.heap.size 27 #[.slice An5 ns.length cn5,.slice (some ⟨g,0,none⟩) (ls.length -1) (cl5)]:=WU.set_ 1 _;have HZ:=h_ (show w6.heap.size<=(w8.setCell ⟨w5.heap.size,1,none⟩ (.slice (some ⟨g,0,none⟩) (ls.length -1) (cl5))).heap.size by simp at hz8⊢;omega);have uv:=h_ (And.intro WV (And.intro nz (And.intro WW (And.intro rD (And.intro nN (And.intro be Cv))))));clear WV nz WW rD nN BI be mH Cv nO hcut nC C4 rB Bo nJ nK GC o_0 o_1 o_f0 o_f1 y1' fH;obtain⟨o_0,o_1,o_f0,o_f1⟩:=WU.b2;go_wp2;go_meet
   obtain⟨f1,f2,f3,f4,f5,f6,f7⟩:=uv.out;exact⟨rfl,f1,f2,f3,f4,f5,f6,f7,HZ.out⟩
 case rest=>
  obtain⟨rfl,hA,hR,hS,hO,Wd,uw,gi,ux⟩:=hcut;obtain⟨w8,MZ⟩:∃w8:World,w8=wc:=⟨_,rfl⟩;subst MZ;clear nC C4 rB Bo nJ nK GC o_0 o_1 o_f0 o_f1 y1';have n2:w.heap.size+1<w8.heap.size:=hR.lt;have n3:w1.heap.size<w8.heap.size:=hS.lt;have n5:w5.heap.size<w8.heap.size:=hO.lt
  have HM:z0i ls m=L1.take q++L1.drop (q+1):=by
   unfold z0i;rw[FB.out,WT.out];simp only[HE.out]
  have cZ:Hid (xO ls m=lwo (L1.take q++L1.drop (q+1)) m (L1.take q++L1.drop (q+1)).length):=h_ (by unfold xO;rw[HM]);clear HM;rw[<-WT.out] at GB;obtain⟨L2,WX⟩:∃L2,L2=L1.take q++L1.drop (q+1):=⟨_,rfl⟩;rw[<-WX] at GB cZ uw MB;clear WX;have Rl:L2.length<=1048576:=by have:=MB.out;omega
  obtain⟨bw,mL⟩:∃b,winB (xS ns m) (xO ls m)=b:=⟨_,rfl⟩;have fY:=h_ mL;have hC:winB (nwo ns m ns.length) (lwo L2 m L2.length)=bw:=by rw[<-cZ.out];exact mL
  clear mL;obtain⟨o_0,o_1,o_f0,o_f1⟩:=hO.b2
  go_wp2_with fail
  refine(z13 _ _ ns L2 _ _ uw.1.reads uw.2.1.reads h1 Rl GB).mono ?_
  rintro e w9 ⟨An9,cn9,Al9,cl9,rfl,ho9,Cv⟩;have mq:=hR.below Cv n2;have hS9:=hS.below Cv n3;have rD:=hO.below Cv n5;have WY:=Wd.kept Cv;have Ci:=gi.trans (Cv.mono gi.size);clear Cv hA hR hS hO Wd uw gi o_0 o_1 o_f0 o_f1 GB;obtain⟨N9,HN9⟩:∃N9,N9=nwo ns m ns.length:=⟨_,rfl⟩;obtain⟨L9,HL9⟩:∃L9,L9=lwo L2 m L2.length:=⟨_,rfl⟩;rw[<-HN9,<-HL9] at ho9 hC⊢;have HN9':=h_ HN9;have HL9':=h_ HL9;clear HN9 HL9;have e1:¬w.heap.size+1=w5.heap.size:=o_
  have e2:¬w1.heap.size=w5.heap.size:=o_
  have mM:=(mq.far (p:=⟨w5.heap.size,0,none⟩) e1 (.slice An9 N9.length cn9)).far (p:=⟨w5.heap.size,1,none⟩) e1 (.slice Al9 L9.length cl9);have uy:=(hS9.far (p:=⟨w5.heap.size,0,none⟩) e2 (.slice An9 N9.length cn9)).far (p:=⟨w5.heap.size,1,none⟩) e2 (.slice Al9 L9.length cl9);have uz:Blk ((w9.setCell ⟨w5.heap.size,0,none⟩ (.slice An9 N9.length cn9)).setCell ⟨w5.heap.size,1,none⟩ (.slice Al9 L9.length cl9)) w5.heap.size 27 #[.slice An9 N9.length cn9,.slice Al9 L9.length cl9]:=(rD.set_ 0 _).set_ 1 _;have mN:=(ho9.setLow (p:=⟨w5.heap.size,0,none⟩) n5 (.slice An9 N9.length cn9)).setLow (p:=⟨w5.heap.size,1,none⟩) n5 (.slice Al9 L9.length cl9);have Rt:=(WY.setFar (p:=⟨w5.heap.size,0,none⟩) (fun h=>by have:=(Hu _ h).2;simp at this;omega) (.slice An9 N9.length cn9)).setFar (p:=⟨w5.heap.size,1,none⟩) (fun h=>by have:=(Hu _ h).2;simp at this;omega) (.slice Al9 L9.length cl9);have F7:=(Ci.setCell (p:=⟨w5.heap.size,0,none⟩) (show w.heap.size<=w5.heap.size by omega) (.slice An9 N9.length cn9)).setCell (p:=⟨w5.heap.size,1,none⟩) (show w.heap.size<=w5.heap.size by omega) (.slice Al9 L9.length cl9);obtain⟨o_0,o_1,o_f0,o_f1⟩:=rD.b2;clear mq hS9 rD WY Ci ho9
  go_wp2_with fail
  refine(qb _ _ N9 L9 bw _ mN.1.reads mN.2.1.reads hC).mono ?_
  rintro e w11 ⟨rfl,mO⟩;have uA:=mM.below mO mM.lt;have uB:=uy.below mO uy.lt;have uC:=uz.below mO uz.lt;have nP:=Rt.kept mO;have uD:=mN.kept mO;have Ml:=F7.trans (mO.mono F7.size);clear mM uy uz Rt mN F7 mO o_0 o_1 o_f0 o_f1;obtain⟨r_0,r_1,r_f0,r_f1⟩:=uA.b2;obtain⟨s_0,s_1,s_f0,s_f1⟩:=uB.b2;obtain⟨o_0,o_1,o_f0,o_f1⟩:=uC.b2
  cases bw
  ·have EB:j5 ns ls m=false:=by unfold j5;rw[fY.out,Bool.and_false]
   have EN:qr ns ls m=ns:=by unfold qr;rw[EB];rfl
   have EL:qs ns ls m=ls:=by unfold qs;rw[EB];rfl
   have CH:=h_ (((nP.setLow (p:=⟨w.heap.size+1,0,none⟩) (show w.heap.size+1<w.heap.size+1+1 by omega) (.slice An1 ns.length cn1)).setLow (p:=⟨w.heap.size+1,1,none⟩) (show w.heap.size+1<w.heap.size+1+1 by omega) (.slice Al1 ls.length cl1)).mono (show w.heap.size<=_ by omega));have HB:=h_ ((Ml.setCell (p:=⟨w.heap.size+1,0,none⟩) sz_ (.slice An1 ns.length cn1)).setCell (p:=⟨w.heap.size+1,1,none⟩) sz_ (.slice Al1 ls.length cl1));clear nP uD Ml uA uB uC;generalize w1.heap.size=B1 at*;generalize w5.heap.size=B5 at*;go_wp2;exact bodyPost_ret (v:= .tuple #[.agg #[.slice An1 ns.length cn1,.slice Al1 ls.length cl1],.bool false]) (by simp[results,Tryz.results163,go_sem,r_0,r_1,s_0,s_1]) rfl (by show zI (qr ns ls m) (qs ns ls m) (j5 ns ls m) w _ _;rw[EB,EN,EL];exact zI.mk rfl rfl rfl CH.out HB.out)
  ·have EB:j5 ns ls m=true:=by unfold j5;rw[fY.out,hw];rfl
   have EN:qr ns ls m=N9:=by unfold qr;rw[EB,HN9'.out];rfl
   have EL:qs ns ls m=L9:=by unfold qs;rw[EB,HL9'.out,<-cZ.out];rfl
   have CH:=h_ (((uD.setLow (p:=⟨w.heap.size+1,0,none⟩) (show w.heap.size+1<w8.heap.size by omega) (.slice An9 N9.length cn9)).setLow (p:=⟨w.heap.size+1,1,none⟩) (show w.heap.size+1<w8.heap.size by omega) (.slice Al9 L9.length cl9)).mono (show w.heap.size<=_ by omega));have HB:=h_ ((Ml.setCell (p:=⟨w.heap.size+1,0,none⟩) sz_ (.slice An9 N9.length cn9)).setCell (p:=⟨w.heap.size+1,1,none⟩) sz_ (.slice Al9 L9.length cl9));clear nP uD Ml uA uB uC;generalize w1.heap.size=B1 at*;generalize w5.heap.size=B5 at*;go_wp2;exact bodyPost_ret (v:= .tuple #[.agg #[.slice An9 N9.length cn9,.slice Al9 L9.length cl9],.bool true]) (by simp[results,Tryz.results163,go_sem,r_0,r_1,o_0,o_1]) rfl (by show zI (qr ns ls m) (qs ns ls m) (j5 ns ls m) w _ _;rw[EB,EN,EL];exact zI.mk rfl rfl rfl CH.out HB.out)
attribute [local go_sem ↓] zr zq zU zT
theorem kU (vn vl:Value) (ns ls:List Pr) (k:Int) (w:World) (hn:RP w vn ns) (hl:RP w vl ls) (hk:hasN ns ls k=true):
  Calls Tryz.prog 187 #[.agg #[vn,vl],.int .i64 k] w (RetI (natI (atN ls k ls.length)) w):=by
 have hw:winB ns ls=true:=(xH hk).1
 have Gg:inB k 0 ((ns.length:Int) -1)=true:=by
  unfold hasN at hk;rw[aaG] at hk;exact hk.2
 have GN:=(zu.1 hw).2.2.1;obtain⟨An,cn,rfl,FQ,GW,_⟩:=hn.formI;obtain⟨Al,cl,rfl,Hz,GM,gg⟩:=hl.formI;obtain⟨i0,hi,iz0,iz1,iz2⟩:=info_parts qq;unfold maxLen at GM GW;clear hk
 go_enter Tryz.func187,Tryz.ntmps187
 go_wp2
 go_loopw [5,6] (fun v i wr=>∃j:Nat,j<=ls.length/\i= .int .i64 j/\OwnI (w.heap.size+1) wr v (natI (atN ls k j))/\Blk wr w.heap.size 27 #[.slice An ns.length cn,.slice Al ls.length cl]/\Below w.heap.size w wr) (fun _ i _=>ls.length -(intOf i).toNat)
 case atStart=>exact⟨0,aab _,rfl,OwnI.made (by simp) (by simp),(Blk.newAt rfl).alloc _,by exact bel_⟩
 case round=>
  obtain⟨j,hj,rfl,MY,gE,fO⟩:=hrel;have hsz0:=gE.lt;obtain⟨a_0,a_1⟩:=gE.c2
  by_cases Hf:j<ls.length
  ·have Hu:(j:Int)<(ls.length:Int):=o_
   go_wp2_with fail
   refine(zH _ _ ns ls _ _ (hn.below fO) (hl.below fO) hw).mono ?_
   rintro e w2 ⟨rfl,Hh⟩;have ho:=MY.kept Hh;have hW:=gE.below Hh hsz0;have Hd:Below w.heap.size w w2:=fO.trans (Hh.mono fO.size);have gI:=hW.lt;clear Hh MY gE fO a_0 a_1;obtain⟨a_0,a_1⟩:=hW.c2
   go_wp2_with fail
   refine(zP _ _ _ _ _ Gg).mono ?_
   rintro e w' ⟨rfl,rfl⟩;obtain⟨b,off,rfl,hb,Gj⟩:=gg o_;obtain⟨k0,k1⟩:=Gj j Hf;have q0:=(Hd.cell (p:=⟨b,off+j*2,none⟩) hb).trans k0;have q1:=(Hd.cell (p:=⟨b,off+j*2+1,none⟩) hb).trans k1;have Cz:(0:Int)<=(j:Int):=o_
   have Hm:=Jr ls k j;have fQ:=za (atN ls k j);have HY:=h_ (fun h=>JC (ls:=ls) (k:=k) (i:=j) h);have HN:=h_ (fun h=>z1w (ls:=ls) (k:=k) (i:=j) h);generalize atN ls k j=G at*;have HL:=h_ fQ;clear fQ k0 k1 Gj gg;have hG:G.length<=20:=o_
   obtain⟨A2,c2,rfl⟩:=ho.form;have Hw:∀b,(Value.slice A2 (natI G).length c2).ownBlock =some b->w.heap.size+1<=b:=fun b hb=>(ho.lt b hb).1
   cases ht:jR ls k j
   ·have HS:=h_ (HN.out ht)
    obtain⟨e3,e4⟩:=z2B ht;have e1:((ndI ls j).1==k)=false:=beq_eq_false_iff_ne.2 e3;have e2:((ndI ls j).2==k)=false:=beq_eq_false_iff_ne.2 e4;clear ht HY HN;go_wp2;go_roundw
    case rel=>exact⟨j+1,by omega,by go_num,by rw[HS.out];exact ho,hW,Hd⟩
    case measure=>simp[intOf];omega
   ·have HS:=h_ (HY.out ht)
    have uh:=fun h=>Zr ht h
    clear ht HY HN;generalize (ndI ls j).1=L1 at*;generalize (ndI ls j).2=L2 at*
    by_cases e3:L1=k
    ·subst e3
     clear uh
     go_wp2_with (at_builtin;refine wpList_append_own _ rfl _ _ 31 rfl (w.heap.size+1) 3 i0 (.int .i64 0) 1 8 Tryz.underlying31 hi iz0 iz1 iz2 rfl (by decide) _ _ _ rfl (World.ownsRow.alloc ho _) ⟨w2.heap.size,0,none⟩ 1 1 [.int .i64 _] rfl rfl (ju (by simp)) (by intro u hu;simp at hu;subst hu;rfl) (by rw[HL.out];unfold maxLen;omega) (by rw[HL.out];omega) (by simp;omega) ?_)
     intro v3 w3 CF gq _;have Gz:=(hW.alloc (.cells #[.int .i64 (j:Int)] 3)).grownR gq (fun b hb=>by have:=Hw b hb;omega);have gy:Below w.heap.size w w3:=(Below.alloc Hd o_ _).grown gq sz_ (fun b hb=>by have:=Hw b hb;omega)
     have HO:OwnI (w.heap.size+1) w3 v3 (natI (G++[j])):=by
      unfold natI;rw[aaz];exact OwnI.snoc CF
     clear CF gq ho hW Hd;go_wp2;go_roundw
     case rel=>exact⟨j+1,by omega,by go_num,by rw[HS.out];exact HO,Gz,gy⟩
     case measure=>simp[intOf];omega
    ·have e4:=uh e3
     have e1:(L1==k)=false:=beq_eq_false_iff_ne.2 e3;clear uh;subst e4
     go_wp2_with (at_builtin;refine wpList_append_own _ rfl _ _ 31 rfl (w.heap.size+1) 3 i0 (.int .i64 0) 1 8 Tryz.underlying31 hi iz0 iz1 iz2 rfl (by decide) _ _ _ rfl (World.ownsRow.alloc ho _) ⟨w2.heap.size,0,none⟩ 1 1 [.int .i64 _] rfl rfl (ju (by simp)) (by intro u hu;simp at hu;subst hu;rfl) (by rw[HL.out];unfold maxLen;omega) (by rw[HL.out];omega) (by simp;omega) ?_)
     intro v3 w3 CF gq _;have Gz:=(hW.alloc (.cells #[.int .i64 (j:Int)] 3)).grownR gq (fun b hb=>by have:=Hw b hb;omega);have gy:Below w.heap.size w w3:=(Below.alloc Hd o_ _).grown gq sz_ (fun b hb=>by have:=Hw b hb;omega)
     have HO:OwnI (w.heap.size+1) w3 v3 (natI (G++[j])):=by
      unfold natI;rw[aaz];exact OwnI.snoc CF
     clear CF gq ho hW Hd;go_wp2;go_roundw
     case rel=>exact⟨j+1,by omega,by go_num,by rw[HS.out];exact HO,Gz,gy⟩
     case measure=>simp[intOf];omega
  ·have GS:j=ls.length:=o_
   subst GS;clear gg;go_wp2;go_ret
   exact⟨_,rfl,MY.mono (show w.heap.size<=w.heap.size+1 by omega),fO⟩
theorem Jb (vn vl:Value) (ns ls:List Pr) (k:Int) (w:World) (hn:RP w vn ns) (hl:RP w vl ls):
  CB_ 239 #[.agg #[vn,vl],.int .i64 k] w (.int .i64 (degI ns ls k)):=by
 obtain⟨An,cn,rfl,FQ,GW,_⟩:=hn.formI;unfold maxLen at GW
 cases hw:winB ns ls
 ·have HR:Hid (degI ns ls k= -1):=h_ (by simp[degI,hasN,hw])
  go_enter Tryz.func239,Tryz.ntmps239
  go_wp2_with fail
  refine(zH _ _ ns ls _ _ (hn.below bel_) (hl.below bel_) hw).mono ?_
  rintro e w1 ⟨rfl,Hb⟩;go_wp2;go_ret
  exact⟨zi HR.out.symm,by exact bel_⟩
 cases Gg:inB k 0 ((ns.length:Int) -1)
 ·have HR:Hid (degI ns ls k= -1):=h_ (by simp[degI,hasN,Gg])
  go_enter Tryz.func239,Tryz.ntmps239
  go_wp2_with fail
  refine(zH _ _ ns ls _ _ (hn.below bel_) (hl.below bel_) hw).mono ?_
  rintro e w1 ⟨rfl,Hb⟩;(have gl:=bcC Hb)
  go_wp2_with fail
  refine(zP _ _ _ _ _ Gg).mono ?_
  rintro e w' ⟨rfl,rfl⟩;go_wp2;go_ret
  exact⟨zi HR.out.symm,by exact bel_⟩
 ·have hk:hasN ns ls k=true:=by simp[hasN,hw,Gg]
  have HR:Hid (degI ns ls k=((natI (atN ls k ls.length)).length :Int)):=h_ (by simp[degI,hk,za])
  go_enter Tryz.func239,Tryz.ntmps239
  go_wp2_with fail
  refine(zH _ _ ns ls _ _ (hn.below bel_) (hl.below bel_) hw).mono ?_
  rintro e w1 ⟨rfl,Hb⟩;(have gl:=bcC Hb)
  have Ha:Below w.heap.size w w1:=bel_
  go_wp2_with fail
  refine(zP _ _ _ _ _ Gg).mono ?_
  rintro e w' ⟨rfl,rfl⟩
  go_wp2_with fail
  refine(kU _ _ ns ls _ _ (hn.below Ha) (hl.below Ha) hk).mono ?_
  rintro e w2 ⟨v2,rfl,Hn,Hh⟩;obtain⟨A2,c2,rfl⟩:=Hn.form;have Hc:Below w.heap.size w w2:=Ha.trans (Hh.mono Ha.size);go_wp2;go_ret
  exact⟨zi HR.out.symm,Hc⟩
theorem Q4 (l:Pr) (k x:Int) (w:World) (h:othI l k=x):
  CB_ 188 #[.agg #[.int .i64 l.1,.int .i64 l.2],.int .i64 k] w (.int .i64 x):=by
 subst h;exact z3y l.1 l.2 k w
theorem Xm (vn vl:Value) (ns ls:List Pr) (k:Int) (w:World) (hn:RP w vn ns) (hl:RP w vl ls):
  CB_ 186 #[.agg #[vn,vl],.int .i64 k] w (.bool (zW ns ls k)):=by
 by_cases hd:degI ns ls k=2
 case neg=>
  have HR:Hid (zW ns ls k=false):=h_ (by simp[zW,hd]);obtain⟨d,C1⟩:∃d,degI ns ls k=d:=⟨_,rfl⟩;have ut:(d != 2)=true:=by rw[<-C1];simpa using hd
  have HD:=h_ C1
  go_enter Tryz.func186,Tryz.ntmps186
  go_wp2_with fail
  refine(Jb _ _ ns ls _ _ (hn.below bel_) (hl.below bel_)).mono ?_
  rw[HD.out];rintro e w1 ⟨rfl,Hb⟩;go_wp2;go_ret
  exact⟨z8 HR.out.symm,by exact bel_⟩
 obtain⟨hk,h2⟩:=deg2 hd;obtain⟨hw,m,rfl,hm⟩:=xH hk;have Hk:=zu.1 hw;obtain⟨p,q,t,u,eG,hp,hq,eE,ht,hu,_,_,o1,o2⟩:=Xa Hk h2
 have HR:Hid (zW ns ls m=yI (ndI ns t).1 (ndI ns t).2 (ndI ns u).1 (ndI ns u).2 (ndI ns m).1 (ndI ns m).2):=h_ (by
  unfold zW;rw[hd,eE];simp[jh])
 have HD:=h_ hd;have FG:=Hk.2.1;obtain⟨An,cn,rfl,FQ,GW,Hp⟩:=hn.formI;obtain⟨Al,cl,rfl,Hz,GM,gg⟩:=hl.formI;unfold maxLen at GW GM;obtain⟨bn,offn,rfl,Gh,Gj⟩:=Hp o_;obtain⟨bl,offl,rfl,Hd,GD⟩:=gg o_;obtain⟨t0,t1⟩:=Gj t ht;obtain⟨u0,u1⟩:=Gj u hu;obtain⟨m0,m1⟩:=Gj m hm;obtain⟨p0,p1⟩:=GD p hp;obtain⟨q0,q1⟩:=GD q hq;have it1:(0:Int)<=(t:Int):=o_
 have it2:(t:Int)<(ns.length:Int):=o_
 have iu1:(0:Int)<=(u:Int):=o_
 have iu2:(u:Int)<(ns.length:Int):=o_
 have im1:(0:Int)<=(m:Int):=o_
 have im2:(m:Int)<(ns.length:Int):=o_
 have ip1:(0:Int)<=(p:Int):=o_
 have ip2:(p:Int)<(ls.length:Int):=o_
 have iq1:(0:Int)<=(q:Int):=o_
 have iq2:(q:Int)<(ls.length:Int):=o_
 have HG:=h_ eG;have O1:=h_ o1;have O2:=h_ o2
 go_enter Tryz.func186,Tryz.ntmps186
 go_wp2_with fail
 refine(Jb _ _ ns ls _ _ (hn.below bel_) (hl.below bel_)).mono ?_
 rw[HD.out];rintro e w1 ⟨rfl,Hb⟩;have gc:Blk w1 w.heap.size 27 #[.slice (some ⟨bn,offn,none⟩) ns.length cn,.slice (some ⟨bl,offl,none⟩) ls.length cl]:=Blk.below (Blk.newAt rfl) Hb sz_;have Ha:Below w.heap.size w w1:=bel_
 obtain⟨a_0,a_1⟩:=gc.c2
 go_wp2_with fail
 refine(kU _ _ ns ls _ _ (hn.below Ha) (hl.below Ha) hk).mono ?_
 rw[HG.out];rintro e w2 ⟨v2,rfl,Hn,Hh⟩;have gX:=gc.below Hh gc.lt;have Hc:Below w.heap.size w w2:=Ha.trans (Hh.mono Ha.size);obtain⟨A2,c2,e2,gV,_,GO⟩:=Hn.reads.form;subst e2;obtain⟨b2,o2,rfl,nG,GD⟩:=GO (by simp[natI]);have x0:=GD 0 (by simp[natI]);have x1:=GD 1 (by simp[natI]);simp only[natI,aaS,aaT,List.getD_cons_zero,List.getD_cons_succ,aaf] at x0 x1
 have c0:=(Hc.cell (p:=⟨bn,offn+t*2,none⟩) Gh).trans t0;have c1':=(Hc.cell (p:=⟨bn,offn+t*2+1,none⟩) Gh).trans t1;have c3:=(Hc.cell (p:=⟨bn,offn+u*2,none⟩) Gh).trans u0;have c4:=(Hc.cell (p:=⟨bn,offn+u*2+1,none⟩) Gh).trans u1;have c5:=(Hc.cell (p:=⟨bn,offn+m*2,none⟩) Gh).trans m0;have c6:=(Hc.cell (p:=⟨bn,offn+m*2+1,none⟩) Gh).trans m1;have l0:=(Hc.cell (p:=⟨bl,offl+p*2,none⟩) Hd).trans p0;have l1:=(Hc.cell (p:=⟨bl,offl+p*2+1,none⟩) Hd).trans p1;have l2:=(Hc.cell (p:=⟨bl,offl+q*2,none⟩) Hd).trans q0;have l3:=(Hc.cell (p:=⟨bl,offl+q*2+1,none⟩) Hd).trans q1;have z1:w.heap.size<w2.heap.size:=gX.lt;have z2:bn<w2.heap.size:=o_
 have z3:bl<w2.heap.size:=o_
 have z1':w.heap.size<w2.heap.size+1:=o_
 have z2':bn<w2.heap.size+1:=o_
 have z3':bl<w2.heap.size+1:=o_
 have z4':b2<w2.heap.size+1:=o_
 have We:(natI [p,q]).length =2:=rfl;have ne1:w2.heap.size≠w.heap.size:=o_
 have ne2:w2.heap.size≠bn:=o_
 have ne3:w2.heap.size≠bl:=o_
 have ne4:w2.heap.size≠b2:=o_
 obtain⟨a_0,a_1⟩:=gX.c2;rw[We]
 go_wp2_with fail
 go_cut [6] (fun s6 wx=>∃x:Nat,s6= .pointer (some ⟨x,0,none⟩)/\Below w2.heap.size w2 wx/\x<wx.heap.size/\(wx.cell? ⟨x,0,none⟩=some (.int .i64 (ndI ns t).1)/\wx.cell? ⟨x,1,none⟩=some (.int .i64 (ndI ns t).2)))
 case first=>
  go_region_held3 (fun w'=>w'.cell? ⟨w.heap.size,0,none⟩=some (.slice (some ⟨bn,offn,none⟩) ns.length cn)/\w'.cell? ⟨w.heap.size,1,none⟩=some (.slice (some ⟨bl,offl,none⟩) ls.length cl)/\w'.cell? ⟨b2,o2,none⟩=some (.int .i64 p)/\w'.cell? ⟨bl,offl+p*2,none⟩=some (.int .i64 (ndI ls p).1)/\w'.cell? ⟨bl,offl+p*2+1,none⟩=some (.int .i64 (ndI ls p).2)/\w'.cell? ⟨bn,offn+t*2,none⟩=some (.int .i64 (ndI ns t).1)/\w'.cell? ⟨bn,offn+t*2+1,none⟩=some (.int .i64 (ndI ns t).2))
   (go_keep)
   (first|(go_at_call 188;refine(Q4 (ndI ls p) _ _ _ O1.out).mono ?_;rintro e w3 ⟨rfl,Hg⟩;(have GK:=bdC Hg);(have Mz:=bdF Hg);have fC:=Hg.size;(try simp at fC)))
  all_goals go_wp2
  all_goals go_meet
  all_goals exact⟨_,rfl,by exact bel_,by first|omega|(simp;done)|(simp;omega),by first|(simp;done)|(simp[go_sem,GK];done),by first|(simp;done)|(simp[go_sem,GK];done)⟩
 case rest=>
  obtain⟨x,rfl,Gl,hx,f0,f1⟩:=hcut;obtain⟨w4,mm⟩:∃w4:World,w4=wc:=⟨_,rfl⟩;subst mm;have BA:=Gl.size;have bj:=gX.below Gl gX.lt;have x1':=(Gl.cell (p:=⟨b2,o2+1,none⟩) nG).trans x1;have d3:=(Gl.cell (p:=⟨bn,offn+u*2,none⟩) z2).trans c3;have d4:=(Gl.cell (p:=⟨bn,offn+u*2+1,none⟩) z2).trans c4;have d5:=(Gl.cell (p:=⟨bn,offn+m*2,none⟩) z2).trans c5;have d6:=(Gl.cell (p:=⟨bn,offn+m*2+1,none⟩) z2).trans c6;have d7:=(Gl.cell (p:=⟨bl,offl+q*2,none⟩) z3).trans l2;have d8:=(Gl.cell (p:=⟨bl,offl+q*2+1,none⟩) z3).trans l3;have Ho:Below w.heap.size w w4:=Hc.trans (Gl.mono Hc.size);have y1:w.heap.size<w4.heap.size:=bj.lt;have y2:bn<w4.heap.size:=o_
  have y3:bl<w4.heap.size:=o_
  have y4:b2<w4.heap.size:=o_
  have y1':w.heap.size<w4.heap.size+1:=o_
  have y2':bn<w4.heap.size+1:=o_
  have y3':bl<w4.heap.size+1:=o_
  have y4':b2<w4.heap.size+1:=o_
  have me1:w4.heap.size≠w.heap.size:=o_
  have me2:w4.heap.size≠bn:=o_
  have me3:w4.heap.size≠bl:=o_
  have me4:w4.heap.size≠b2:=o_
  obtain⟨a_0,a_1⟩:=bj.c2
  go_wp2_with fail
  go_cut [7] (fun s7 wx=>∃y:Nat,s7= .pointer (some ⟨y,0,none⟩)/\Below w4.heap.size w4 wx/\y<wx.heap.size/\(wx.cell? ⟨y,0,none⟩=some (.int .i64 (ndI ns u).1)/\wx.cell? ⟨y,1,none⟩=some (.int .i64 (ndI ns u).2)))
  case first=>
   go_region_held3 (fun w'=>w'.cell? ⟨w.heap.size,0,none⟩=some (.slice (some ⟨bn,offn,none⟩) ns.length cn)/\w'.cell? ⟨w.heap.size,1,none⟩=some (.slice (some ⟨bl,offl,none⟩) ls.length cl)/\w'.cell? ⟨b2,o2+1,none⟩=some (.int .i64 q)/\w'.cell? ⟨bl,offl+q*2,none⟩=some (.int .i64 (ndI ls q).1)/\w'.cell? ⟨bl,offl+q*2+1,none⟩=some (.int .i64 (ndI ls q).2)/\w'.cell? ⟨bn,offn+u*2,none⟩=some (.int .i64 (ndI ns u).1)/\w'.cell? ⟨bn,offn+u*2+1,none⟩=some (.int .i64 (ndI ns u).2))
    (go_keep)
    (first|(go_at_call 188;refine(Q4 (ndI ls q) _ _ _ O2.out).mono ?_;rintro e w3 ⟨rfl,Hg⟩;(have GK:=bdC Hg);(have Mz:=bdF Hg);have fC:=Hg.size;(try simp at fC)))
   all_goals go_wp2
   all_goals go_meet
   all_goals exact⟨_,rfl,by exact bel_,by first|omega|(simp;done)|(simp;omega),by first|(simp;done)|(simp[go_sem,GK];done),by first|(simp;done)|(simp[go_sem,GK];done)⟩
  case rest=>
   obtain⟨y,rfl,Gl,hy,f2,f3⟩:=hcut;obtain⟨w5,GE⟩:∃w5:World,w5=wc:=⟨_,rfl⟩;subst GE;have nm:=Gl.size;have Mm:=bj.below Gl bj.lt;have g0:=(Gl.cell (p:=⟨x,0,none⟩) hx).trans f0;have g1:=(Gl.cell (p:=⟨x,1,none⟩) hx).trans f1;have g5:=(Gl.cell (p:=⟨bn,offn+m*2,none⟩) y2).trans d5;have g6:=(Gl.cell (p:=⟨bn,offn+m*2+1,none⟩) y2).trans d6;have H8:Below w.heap.size w w5:=Ho.trans (Gl.mono Ho.size);have e1:w.heap.size<w5.heap.size:=Mm.lt;have e2:bn<w5.heap.size:=o_
   have e3:x<w5.heap.size:=o_
   obtain⟨a_0,a_1⟩:=Mm.c2
   go_wp2_with fail
   (refine z7 k_ k_ (fun hG=>?_))
   repeat (go_big_quiet_step ((go_at_call 240;exact zE (vA _ _ _ _ _ _ _))))
   (refine wpQuiet_nil ?_);(clear hG);(rintro w6 ⟨⟨_,gJ⟩,rfl⟩);(try dsimp only)
   go_wp2;go_ret
   exact⟨z8 HR.out.symm,by exact bel_⟩
end Go.Proofs.YtnjcpljhmhdhkaaGreat
