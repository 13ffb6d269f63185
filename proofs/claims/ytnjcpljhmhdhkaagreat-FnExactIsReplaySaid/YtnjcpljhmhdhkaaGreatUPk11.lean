/- part 11 -/
import Derived.Test.YtnjcpljhmhdhkaaGreatUPk5
import Derived.Test.YtnjcpljhmhdhkaaGreatUPk10
set_option linter.unusedSimpArgs false
set_option linter.unusedVariables false
set_option maxRecDepth 100000
set_option maxHeartbeats 8000000
namespace Go.Proofs.YtnjcpljhmhdhkaaGreat
open Go.RowKit
attribute [local go_sem ↓] zv zu qb qf
noncomputable def joinX (ls:List Pr) (k:Int) (p q:Nat):Pr:=(mn2 (othI (ndI ls p) k) (othI (ndI ls q) k),mx2 (othI (ndI ls p) k) (othI (ndI ls q) k))
noncomputable def z0K (ls:List Pr) (k:Int):List Pr:=match atN ls k ls.length with
 | [p,q]=>(ls.set p (joinX ls k p q)).take q++(ls.set p (joinX ls k p q)).drop (q+1)
 |_=>ls
noncomputable def xO (ns:List Pr) (k:Int):List Pr:=nwo ns k ns.length
noncomputable def xZ (ls:List Pr) (k:Int):List Pr:=lwo (z0K ls k) k (z0K ls k).length
noncomputable def qY (ns ls:List Pr) (k:Int):Bool:=zP ns ls k&&winB (xO ns k) (xZ ls k)
noncomputable def qr (ns ls:List Pr) (k:Int):List Pr:=if qY ns ls k then xO ns k else ns
noncomputable def qp (ns ls:List Pr) (k:Int):List Pr:=if qY ns ls k then xZ ls k else ls
theorem z4U (w:World) (p p':Addr) (u u':Value) (h:p'.block=p.block):w.grownBy ((w.setCell p u).setCell p' u') (some p.block):=
 ⟨rfl,rfl,rfl,by simp[World.setCell],fun i hi gr=>(Below.heap_setCell _ p' u' i (fun e=>gr (by rw[e,h]))).trans (Below.heap_setCell w p u i (fun e=>gr (by rw[e])))⟩
theorem Zw (vn vl:Value) (ns ls:List Pr) (k:Int) (b:Bool) (w:World) (hn:RP w vn ns) (hl:RP w vl ls) (hb:zP ns ls k=b):
  CB_ 216 #[.agg #[vn,vl],.int .i64 k] w (.bool b):=by
 subst hb;exact z0i vn vl ns ls k w hn hl
theorem z90 (vn vl:Value) (ns ls:List Pr) (k:Int) (w:World) (hn:RP w vn ns) (hl:RP w vl ls) (h1:ns.length<=1048576) (h2:ls.length<=1048576) (hw:zP ns ls k=false):
  Calls Tryz.prog 163 #[.agg #[vn,vl],.int .i64 k] w (zC ns ls false w):=by
 go_enter Tryz.func163,Tryz.ntmps163
 go_wp2_with fail
 refine(qC _ _ ns ls _ (hn.below bel_) (hl.below bel_) h1 h2).mono ?_
 rintro e w1 ⟨An1,cn1,Al1,cl1,rfl,Hj,h9⟩;have H8:=h9.size;simp at H8
 have go:OwnW (w.heap.size+1+1) w1 (.slice An1 ns.length cn1) (.slice Al1 ls.length cl1) ns ls:=by simpa using Hj
 have fc:Blk w1 w.heap.size 27 #[vn,vl]:=Blk.below ((Blk.newAt rfl).alloc _) h9 sz_;have gu:Blk w1 (w.heap.size+1) 27 #[.slice none 0 0,.slice none 0 0]:=Blk.below (Blk.newAt (by simp)) h9 sz_;have h8:Below w.heap.size w w1:=bel_
 have n1:w.heap.size<w1.heap.size:=o_
 have n2:w.heap.size+1<w1.heap.size:=o_
 obtain⟨a_0,a_1⟩:=fc.c2;have hbs:Below w1.heap.size w1 (w1.alloc (.cells #[.slice An1 ns.length cn1,.slice Al1 ls.length cl1] 27)):=bel_
 have Gx:Below w.heap.size w (w1.alloc (.cells #[.slice An1 ns.length cn1,.slice Al1 ls.length cl1] 27)):=bel_
 go_wp2_with fail
 refine(Zw _ _ ns ls _ _ _ (hn.below Gx) (hl.below Gx) hw).mono ?_
 rintro e w2 ⟨rfl,He⟩;have gq:Below w1.heap.size w1 w2:=hbs.trans (He.mono hbs.size);have fh:Blk w2 w1.heap.size 27 #[.slice An1 ns.length cn1,.slice Al1 ls.length cl1]:=Blk.below (Blk.newAt rfl) He sz_;have GF:=gu.below gq n2;have Hm:=go.kept gq;have Ha:Below w.heap.size w w2:=h8.trans (gq.mono h8.size);obtain⟨s_0,s_1,s_f0,s_f1⟩:=fh.b2;obtain⟨r_0,r_1,r_f0,r_f1⟩:=GF.b2;have hO:=h_ (((Hm.setLow (p:=⟨w.heap.size+1,0,none⟩) sz_ (.slice An1 ns.length cn1)).setLow (p:=⟨w.heap.size+1,1,none⟩) sz_ (.slice Al1 ls.length cl1)).mono (show w.heap.size<=_ by omega));have HB:=h_ ((Ha.setCell (p:=⟨w.heap.size+1,0,none⟩) sz_ (.slice An1 ns.length cn1)).setCell (p:=⟨w.heap.size+1,1,none⟩) sz_ (.slice Al1 ls.length cl1));generalize w1.heap.size=B1 at*;go_wp2;exact bodyPost_ret (v:= .tuple #[.agg #[.slice An1 ns.length cn1,.slice Al1 ls.length cl1],.bool false]) (by simp[results,Tryz.results163,go_sem,r_0,r_1,s_0,s_1]) rfl ⟨_,_,_,_,rfl,hO.out,HB.out⟩
theorem z7b (vn vl:Value) (ns ls:List Pr) (m p q t u:Nat) (w:World) (hn:RP w vn ns) (hl:RP w vl ls) (h1:ns.length<=1048576) (h2:ls.length<=1048576) (hw:zP ns ls m=true) (hk:hasN ns ls m=true)
  (eG:atN ls m ls.length=[p,q]) (hp:p<ls.length) (hq:q<ls.length) (eE:yY ls m (atN ls m ls.length)=[(t:Int),(u:Int)])
  (fr:∀j:Nat,j<((ls.set p (mn2 (t:Int) u,mx2 (t:Int) u)).take q++(ls.set p (mn2 (t:Int) u,mx2 (t:Int) u)).drop (q+1)).length ->(-1000000<=(ndI ((ls.set p (mn2 (t:Int) u,mx2 (t:Int) u)).take q++(ls.set p (mn2 (t:Int) u,mx2 (t:Int) u)).drop (q+1)) j).1/\(ndI ((ls.set p (mn2 (t:Int) u,mx2 (t:Int) u)).take q++(ls.set p (mn2 (t:Int) u,mx2 (t:Int) u)).drop (q+1)) j).1<=1000000)/\(-1000000<=(ndI ((ls.set p (mn2 (t:Int) u,mx2 (t:Int) u)).take q++(ls.set p (mn2 (t:Int) u,mx2 (t:Int) u)).drop (q+1)) j).2/\(ndI ((ls.set p (mn2 (t:Int) u,mx2 (t:Int) u)).take q++(ls.set p (mn2 (t:Int) u,mx2 (t:Int) u)).drop (q+1)) j).2<=1000000)):
  Calls Tryz.prog 163 #[.agg #[vn,vl],.int .i64 m] w (fun e w'=>zC (qr ns ls m) (qp ns ls m) (qY ns ls m) w e w'):=by
 obtain⟨j0,hj,jz0,jz1,jz2⟩:=info_parts jc;have CZ:=h_ eE;have Ft:=h_ eG;clear eE eG
 go_enter Tryz.func163,Tryz.ntmps163
 go_wp2_with fail
 refine(qC _ _ ns ls _ (hn.below bel_) (hl.below bel_) h1 h2).mono ?_
 rintro e w1 ⟨An1,cn1,Al1,cl1,rfl,Hj,h9⟩;have H8:=h9.size;simp at H8
 have go:OwnW (w.heap.size+1+1) w1 (.slice An1 ns.length cn1) (.slice Al1 ls.length cl1) ns ls:=by simpa using Hj
 have Hr:=go.lt;have fc:Blk w1 w.heap.size 27 #[vn,vl]:=Blk.below ((Blk.newAt rfl).alloc _) h9 sz_;have gu:Blk w1 (w.heap.size+1) 27 #[.slice none 0 0,.slice none 0 0]:=Blk.below (Blk.newAt (by simp)) h9 sz_;have h8:Below w.heap.size w w1:=bel_
 clear h9 Hj;have n1:w.heap.size<w1.heap.size:=o_
 have n2:w.heap.size+1<w1.heap.size:=o_
 obtain⟨a_0,a_1⟩:=fc.c2;have hbs:Below w1.heap.size w1 (w1.alloc (.cells #[.slice An1 ns.length cn1,.slice Al1 ls.length cl1] 27)):=bel_
 have Gx:Below w.heap.size w (w1.alloc (.cells #[.slice An1 ns.length cn1,.slice Al1 ls.length cl1] 27)):=bel_
 go_wp2_with fail
 refine(Zw _ _ ns ls _ _ _ (hn.below Gx) (hl.below Gx) hw).mono ?_
 rintro e w2 ⟨rfl,He⟩;have Gd:=He.size;(try simp at Gd);(try have gX:=p0_ w w2);(try have gY:=p1_ w w2);(try have fm:=p2_ w w2)
 have gq:Below w1.heap.size w1 w2:=hbs.trans (He.mono hbs.size);have fh:Blk w2 w1.heap.size 27 #[.slice An1 ns.length cn1,.slice Al1 ls.length cl1]:=Blk.below (Blk.newAt rfl) He sz_;have GF:=gu.below gq n2;have Fn:=fc.below gq n1;have Hm:=go.kept gq;have Ha:Below w.heap.size w w2:=h8.trans (gq.mono h8.size);clear He hbs Gx gq fc gu go h8 a_0 a_1;have n1:w.heap.size<w2.heap.size:=Fn.lt;have n3:w1.heap.size<w2.heap.size:=fh.lt;obtain⟨a_0,a_1⟩:=Fn.c2
 go_wp2_with fail
 refine(z0R _ _ ns ls _ _ (hn.below Ha) (hl.below Ha) hk).mono ?_
 rw[CZ.out];rintro e w3 ⟨v3,rfl,Hq,Hf⟩;have fA:=Hf.size;have FE:=Fn.below Hf n1;have GK:=GF.below Hf GF.lt;have FX:=fh.below Hf n3;have how3:=Hm.kept Hf;have Hc:=Ha.trans (Hf.mono Ha.size);obtain⟨A3,c3,e3,fU,_,FB⟩:=Hq.reads.form;subst e3;obtain⟨b3,o3,rfl,hb3',Cv⟩:=FB (by simp);have x0:=Cv 0 (by simp);have x1:=Cv 1 (by simp);simp only[List.getD_cons_zero,List.getD_cons_succ,aaf,aaV,List.length_nil,aaG] at x0 x1 fU
 clear FB Cv Hf Fn GF fh Hm Ha a_0 a_1 Hq;obtain⟨a_0,a_1⟩:=FE.c2;have n1:w.heap.size<w3.heap.size:=FE.lt
 go_wp2_with fail
 refine(kY _ _ ns ls _ _ (hn.below Hc) (hl.below Hc) hk).mono ?_
 rw[Ft.out];rintro e w4 ⟨v4,rfl,gF,Hv⟩;have Bg:=Hv.size;have Ca:=FE.below Hv n1;have fd:=GK.below Hv GK.lt;have my:=FX.below Hv FX.lt;have how4:=how3.kept Hv;have Hp:=Hc.trans (Hv.mono Hc.size);have x0':=(Hv.cell (p:=⟨b3,o3,none⟩) hb3').trans x0;have x1':=(Hv.cell (p:=⟨b3,o3+1,none⟩) hb3').trans x1;obtain⟨A4,c4,e4,Cp,_,Gm⟩:=gF.reads.form;subst e4;obtain⟨b4,o4,rfl,NI,Fa⟩:=Gm (by simp[natI]);have y0:=Fa 0 (by simp[natI]);have y1:=Fa 1 (by simp[natI]);simp only[natI,aaT,aaU,List.getD_cons_zero,List.getD_cons_succ,aaf,aaV,List.length_nil,aaG] at y0 y1 Cp
 clear Gm Fa Hv FE GK FX how3 Hc a_0 a_1 gF x0 x1;have hb3'':b3<w4.heap.size:=o_
 obtain⟨a_0,a_1⟩:=Ca.c2;have n1:w.heap.size<w4.heap.size:=Ca.lt
 go_wp2_with fail
 rw[show(natI [p,q]).length =2 from rfl];refine(qC _ _ ns ls _ (hn.below Hp) (hl.below Hp) h1 h2).mono ?_
 rintro e w5 ⟨An5,cn5,Al5,cl5,rfl,fQ,gf⟩;have Ns:=gf.size;have Cm:=Ca.below gf n1;have f9:=fd.below gf fd.lt;have M2:=my.below gf my.lt;have how5:=how4.kept gf;have Hx:=Hp.trans (gf.mono Hp.size);have x0:=(gf.cell (p:=⟨b3,o3,none⟩) hb3'').trans x0';have x1:=(gf.cell (p:=⟨b3,o3+1,none⟩) hb3'').trans x1';have y0':=(gf.cell (p:=⟨b4,o4,none⟩) NI).trans y0;have y1':=(gf.cell (p:=⟨b4,o4+1,none⟩) NI).trans y1
 rcases Gf:fQ.2.1.2 with ⟨_,h0⟩|⟨g,cap,cur,e1,mI,hh,cO,Co,FZ⟩
 ·omega
 cases e1
 clear Gf hh FZ cur Co;have M9:=fQ.lt;clear gf Ca fd my how4 Hp a_0 a_1 x0' x1' y0 y1;have n2:w.heap.size+1<w5.heap.size:=f9.lt;have n3:w1.heap.size<w5.heap.size:=M2.lt;have hb3''':b3<w5.heap.size:=o_
 have hb4''':b4<w5.heap.size:=o_
 obtain⟨hgw4,hgw5⟩:=M9 g (.inr rfl);have g1:¬b3=g:=o_
 have g2:¬b4=g:=o_
 have g3:¬w5.heap.size=g:=o_
 have g4:¬g=w5.heap.size:=o_
 have c1:(0:Int)<=(p:Int):=o_
 have c2:(p:Int)<(ls.length:Int):=o_
 go_wp2_with fail
 obtain⟨w6,Cf⟩:∃w6,w6=w5.alloc (.cells #[.slice An5 ns.length cn5,.slice (some ⟨g,0,none⟩) ls.length cl5] 27):=⟨_,rfl⟩;have Ct:w6.heap.size=w5.heap.size+1:=by rw[Cf];simp
 have nY:Blk w6 _ _ _:=Cf▸Cm.alloc _;have Fo:Blk w6 _ _ _:=Cf▸f9.alloc _;have hS6:Blk w6 _ _ _:=Cf▸M2.alloc _;have bo:Blk w6 w5.heap.size 27 #[.slice An5 ns.length cn5,.slice (some ⟨g,0,none⟩) ls.length cl5]:=Cf▸Blk.newAt rfl;have how6:=Cf▸how5.alloc (.cells #[.slice An5 ns.length cn5,.slice (some ⟨g,0,none⟩) ls.length cl5] 27);have fD:=Cf▸fQ.alloc (.cells #[.slice An5 ns.length cn5,.slice (some ⟨g,0,none⟩) ls.length cl5] 27);have nf:Below w5.heap.size w5 w6:=by rw[Cf];exact bel_
 have gJ:=Hx.trans (nf.mono Hx.size);have x0':=(nf.cell (p:=⟨b3,o3,none⟩) hb3''').trans x0;have x1':=(nf.cell (p:=⟨b3,o3+1,none⟩) hb3''').trans x1;have y0:=(nf.cell (p:=⟨b4,o4,none⟩) hb4''').trans y0';have y1:=(nf.cell (p:=⟨b4,o4+1,none⟩) hb4''').trans y1';rw[<-Cf];clear Cf nf Cm f9 M2 how5 fQ Hx x0 x1 y0' y1';obtain⟨d0,d1⟩:=fD.2.1.cell hp;have d2:=fD.2.1.frz (p*2);have d3:=fD.2.1.frz (p*2+1);obtain⟨o_0,o_1,o_f0,o_f1⟩:=bo.b2
 go_still_tail 21,k_
 change wpList _ _ _ _ _ w6.drew
 have HD:=h_ (fD.2.1.drew.set_ hp (mn2 (t:Int) u) (mx2 (t:Int) u));obtain⟨w7,ng⟩:∃w7,w7=((w6.setCell ⟨g,p*2,none⟩ (.int .i64 (mn2 (t:Int) u))).setCell ⟨g,p*2+1,none⟩ (.int .i64 (mx2 (t:Int) u))).drew :=⟨_,rfl⟩;have hz7:w7.heap.size=w6.heap.size:=by rw[ng];simp
 have FP:w6.drew.grownBy w7 (some g):=ng▸(show w6.drew.grownBy (((w6.setCell ⟨g,p*2,none⟩ (.int .i64 (mn2 (t:Int) u))).setCell ⟨g,p*2+1,none⟩ (.int .i64 (mx2 (t:Int) u))).drew) (some g) from z4U w6.drew ⟨g,p*2,none⟩ ⟨g,p*2+1,none⟩ _ _ rfl);have Nz:=nY.drew.grownR FP (fun b hb=>by cases hb;omega);have CV:=Fo.drew.grownR FP (fun b hb=>by cases hb;omega);have hS7:=hS6.drew.grownR FP (fun b hb=>by cases hb;omega);have Bt:=bo.drew.grownR FP (fun b hb=>by cases hb;omega);have NP:=OwnW.apart (w:=w6.drew) how6 FP (fun b hb e=>by cases e;have:=(Hr _ hb).2;omega);have NQ:=OwnP.apart (w:=w6.drew) fD.1 FP (fun b hb e=>by cases e;exact fD.2.2 _ hb rfl);have Ug:=fD.2.2;have hAn5:∀b,(Value.slice An5 ns.length cn5).ownBlock =some b->b=w5.heap.size->False:=fun b hb e=>by have:=(M9 b (.inl hb)).2;omega
 have NR:OwnP 108 w4.heap.size w7 (.slice (some ⟨g,0,none⟩) ls.length cl5) (ls.set p (mn2 (t:Int) u,mx2 (t:Int) u)):=ng▸(show OwnP 108 w4.heap.size (((w6.setCell ⟨g,p*2,none⟩ (.int .i64 (mn2 (t:Int) u))).setCell ⟨g,p*2+1,none⟩ (.int .i64 (mx2 (t:Int) u))).drew) _ _ from HD.out);have Gl:Below w.heap.size w w7:=(Below.drew gJ).grown FP (by have:=gJ.size;simpa using this) (fun b e=>by cases e;omega);have y1':=World.grownBy.cell FP (a:=⟨b4,o4+1,none⟩) (show w6.drew.cell? _=_ from y1) (fun e=>g2 (by cases e;rfl));have HW7:=h_ ng;clear ng HD FP nY Fo hS6 bo fD how6 gJ x0' x1' y0 y1 o_0 o_1 o_f0 o_f1
 go_upto_region 8 with (fail)
 rw[<-HW7.out];clear HW7;obtain⟨o_0,o_1,o_f0,o_f1⟩:=Bt.b2
 have HE:Hid (joinX ls m p q=(mn2 (t:Int) u,mx2 (t:Int) u)):=h_ (by
  have:=CZ.out;rw[Ft.out] at this;simp[yY] at this
  simp[joinX,this.1,this.2])
 have ur:(ls.set p (mn2 (t:Int) u,mx2 (t:Int) u)).length =ls.length:=by simp
 obtain⟨L1,WM⟩:∃L1,L1=ls.set p (mn2 (t:Int) u,mx2 (t:Int) u):=⟨_,rfl⟩;rw[<-WM] at ur NR;have HL1':=h_ WM;clear WM;have UQ:q<L1.length:=o_
 have Bu:Hid ((L1.take q++L1.drop (q+1)).length =ls.length -1):=h_ (by simp;omega)
 go_cut [9] (fun s9 wx=>s9= .pointer (some ⟨w5.heap.size,0,none⟩)/\Blk wx w.heap.size 27 #[vn,vl]/\Blk wx (w.heap.size+1) 27 #[.slice none 0 0,.slice none 0 0]/\
   Blk wx w1.heap.size 27 #[.slice An1 ns.length cn1,.slice Al1 ls.length cl1]/\Blk wx w5.heap.size 27 #[.slice An5 ns.length cn5,.slice (some ⟨g,0,none⟩) (ls.length -1) cl5]/\
   OwnW (w.heap.size+1+1) wx (.slice An1 ns.length cn1) (.slice Al1 ls.length cl1) ns ls/\OwnW w4.heap.size wx (.slice An5 ns.length cn5) (.slice (some ⟨g,0,none⟩) (ls.length -1) cl5) ns (L1.take q++L1.drop (q+1))/\
   Below w.heap.size w wx/\w6.heap.size<=wx.heap.size)
 case first=>
  have c1:(q:Int)<=((cl5:Nat):Int):=o_
  have c2:(0:Int)<=(q:Int):=o_
  have c3:(q:Int)+1<=(ls.length:Int):=o_
  have c4:(ls.length:Int)<=((cl5:Nat):Int):=o_
  have NA:IntKind.i64.wrap ((q:Int)+1)=(q:Int)+1:=aaQ _ o_;have c5:(0:Int)<=(q:Int)+1:=o_
  have c6:((q:Int)+1).toNat =q+1:=o_
  by_cases fK:cl5=q+1
  ·subst fK
   have c1':(q:Int)<=(q:Int)+1:=o_
   go_still_tail 13,k_
   have BS:OwnP 108 w4.heap.size w7.drew (.slice (some ⟨g,0,none⟩) L1.length (q+1)) L1:=by rw[ur];exact NR.drew
   have Yc:=h_ BS;clear NR BS
   go_wp2_with (at_builtin;refine jL (c2:=0) rfl _ _ _ rfl w4.heap.size 108 j0 Tryz.underlying25 hj jz1 g (q+1) L1 q rfl (by rw[aao rfl,ur];rw[show ls.length -(q+1)=0 by omega];rfl) Yc.out UQ ?_)
   intro w8 hcut fY;have hO8:=Bt.drew.grownR fY (fun b hb=>by cases hb;omega);have U5:=(Nz.drew.grownR fY (fun b hb=>by cases hb;omega)).far (p:=⟨w5.heap.size,1,none⟩) (show ¬w.heap.size=w5.heap.size by omega) (.slice (some ⟨g,0,none⟩) (ls.length -1) (q+1));have Ny:=(CV.drew.grownR fY (fun b hb=>by cases hb;omega)).far (p:=⟨w5.heap.size,1,none⟩) (show ¬w.heap.size+1=w5.heap.size by omega) (.slice (some ⟨g,0,none⟩) (ls.length -1) (q+1));have hS8:=(hS7.drew.grownR fY (fun b hb=>by cases hb;omega)).far (p:=⟨w5.heap.size,1,none⟩) (show ¬w1.heap.size=w5.heap.size by omega) (.slice (some ⟨g,0,none⟩) (ls.length -1) (q+1));have NS:=(OwnW.apart (w:=w7.drew) NP fY (fun b hb e=>by cases e;have:=(Hr _ hb).2;omega)).setFar (p:=⟨w5.heap.size,1,none⟩) (fun h=>by have:=(Hr _ h).2;simp at this;omega) (.slice (some ⟨g,0,none⟩) (ls.length -1) (q+1));have NT:=OwnP.apart (w:=w7.drew) NQ fY (fun b hb e=>by cases e;exact Ug _ hb rfl);have Cw:OwnW w4.heap.size w8 (.slice An5 ns.length cn5) (.slice (some ⟨g,0,none⟩) (ls.length -1) (q+1)) ns (L1.take q++L1.drop (q+1)):=⟨NT,hcut,fun b hb He=>Ug b hb He⟩
   have Cg:=Cw.setFar (p:=⟨w5.heap.size,1,none⟩) (by
    rintro(h|h)
    ·exact hAn5 _ h rfl
    ·cases h;exact g3 rfl) (.slice (some ⟨g,0,none⟩) (ls.length -1) (q+1))
   have hz8:=fY.size;have Br:Below w.heap.size w w8:=(Below.drew Gl).grown fY (by have:=Gl.size;simpa using this) (fun b e=>by cases e;omega);have mE:=Br.setCell (p:=⟨w5.heap.size,1,none⟩) (show w.heap.size<=w5.heap.size by omega) (.slice (some ⟨g,0,none⟩) (ls.length -1) (q+1));have Uh:Blk (w8.setCell ⟨w5.heap.size,1,none⟩ (.slice (some ⟨g,0,none⟩) (ls.length -1) (q+1))) w5.heap.size 27 #[.slice An5 ns.length cn5,.slice (some ⟨g,0,none⟩) (ls.length -1) (q+1)]:=hO8.set_ 1 _;have HZ:=h_ (show w6.heap.size<=(w8.setCell ⟨w5.heap.size,1,none⟩ (.slice (some ⟨g,0,none⟩) (ls.length -1) (q+1))).heap.size by simp at hz8⊢;omega);have Yt:=h_ (And.intro U5 (And.intro Ny (And.intro hS8 (And.intro Uh (And.intro NS (And.intro Cg mE))))));clear U5 Ny hS8 Uh NS Cw Cg Br mE NT hcut Nz CV hS7 Bt NP NQ Gl o_0 o_1 o_f0 o_f1 y1' fY;obtain⟨o_0,o_1,o_f0,o_f1⟩:=hO8.b2;go_wp2;go_meet
   obtain⟨f1,f2,f3,f4,f5,f6,f7⟩:=Yt.out;exact⟨rfl,f1,f2,f3,f4,f5,f6,f7,HZ.out⟩
  ·go_still_tail 13,k_
   have BS:OwnP 108 w4.heap.size w7.drew (.slice (some ⟨g,0,none⟩) L1.length cl5) L1:=by rw[ur];exact NR.drew
   have Yc:=h_ BS;clear NR BS
   go_wp2_with (at_builtin;refine jL (c2:=cl5 -(q+1)) rfl _ _ _ rfl w4.heap.size 108 j0 Tryz.underlying25 hj jz1 g (cl5) L1 q rfl (by rw[aaq fK,ur];rfl) Yc.out UQ ?_)
   intro w8 hcut fY;have hO8:=Bt.drew.grownR fY (fun b hb=>by cases hb;omega);have U5:=(Nz.drew.grownR fY (fun b hb=>by cases hb;omega)).far (p:=⟨w5.heap.size,1,none⟩) (show ¬w.heap.size=w5.heap.size by omega) (.slice (some ⟨g,0,none⟩) (ls.length -1) (cl5));have Ny:=(CV.drew.grownR fY (fun b hb=>by cases hb;omega)).far (p:=⟨w5.heap.size,1,none⟩) (show ¬w.heap.size+1=w5.heap.size by omega) (.slice (some ⟨g,0,none⟩) (ls.length -1) (cl5));have hS8:=(hS7.drew.grownR fY (fun b hb=>by cases hb;omega)).far (p:=⟨w5.heap.size,1,none⟩) (show ¬w1.heap.size=w5.heap.size by omega) (.slice (some ⟨g,0,none⟩) (ls.length -1) (cl5));have NS:=(OwnW.apart (w:=w7.drew) NP fY (fun b hb e=>by cases e;have:=(Hr _ hb).2;omega)).setFar (p:=⟨w5.heap.size,1,none⟩) (fun h=>by have:=(Hr _ h).2;simp at this;omega) (.slice (some ⟨g,0,none⟩) (ls.length -1) (cl5));have NT:=OwnP.apart (w:=w7.drew) NQ fY (fun b hb e=>by cases e;exact Ug _ hb rfl);have Cw:OwnW w4.heap.size w8 (.slice An5 ns.length cn5) (.slice (some ⟨g,0,none⟩) (ls.length -1) (cl5)) ns (L1.take q++L1.drop (q+1)):=⟨NT,hcut,fun b hb He=>Ug b hb He⟩
   have Cg:=Cw.setFar (p:=⟨w5.heap.size,1,none⟩) (by
    rintro(h|h)
    ·exact hAn5 _ h rfl
    ·cases h;exact g3 rfl) (.slice (some ⟨g,0,none⟩) (ls.length -1) (cl5))
   have hz8:=fY.size;have Br:Below w.heap.size w w8:=(Below.drew Gl).grown fY (by have:=Gl.size;simpa using this) (fun b e=>by cases e;omega);have mE:=Br.setCell (p:=⟨w5.heap.size,1,none⟩) (show w.heap.size<=w5.heap.size by omega) (.slice (some ⟨g,0,none⟩) (ls.length -1) (cl5));have Uh:Blk (w8.setCell ⟨w5.heap.size,1,none⟩ (.slice (some ⟨g,0,none⟩) (ls.length -1) (cl5))) w5.heap.size 27 #[.slice An5 ns.length cn5,.slice (some ⟨g,0,none⟩) (ls.length -1) (cl5)]:=hO8.set_ 1 _;have HZ:=h_ (show w6.heap.size<=(w8.setCell ⟨w5.heap.size,1,none⟩ (.slice (some ⟨g,0,none⟩) (ls.length -1) (cl5))).heap.size by simp at hz8⊢;omega);have Yt:=h_ (And.intro U5 (And.intro Ny (And.intro hS8 (And.intro Uh (And.intro NS (And.intro Cg mE))))));clear U5 Ny hS8 Uh NS Cw Cg Br mE NT hcut Nz CV hS7 Bt NP NQ Gl o_0 o_1 o_f0 o_f1 y1' fY;obtain⟨o_0,o_1,o_f0,o_f1⟩:=hO8.b2;go_wp2;go_meet
   obtain⟨f1,f2,f3,f4,f5,f6,f7⟩:=Yt.out;exact⟨rfl,f1,f2,f3,f4,f5,f6,f7,HZ.out⟩
 case rest=>
  obtain⟨rfl,hA,hR,hS,hO,how,hoW,gy,Yo⟩:=hcut;obtain⟨w8,hw8⟩:∃w8:World,w8=wc:=⟨_,rfl⟩;subst hw8;clear Nz CV hS7 Bt NP NQ Gl o_0 o_1 o_f0 o_f1 y1';have n2:w.heap.size+1<w8.heap.size:=hR.lt;have n3:w1.heap.size<w8.heap.size:=hS.lt;have n5:w5.heap.size<w8.heap.size:=hO.lt
  have HM:z0K ls m=L1.take q++L1.drop (q+1):=by
   unfold z0K;rw[Ft.out,HL1'.out];simp only[HE.out]
  have cX:Hid (xZ ls m=lwo (L1.take q++L1.drop (q+1)) m (L1.take q++L1.drop (q+1)).length):=h_ (by unfold xZ;rw[HM]);clear HM;rw[<-HL1'.out] at fr;obtain⟨L2,HL2⟩:∃L2,L2=L1.take q++L1.drop (q+1):=⟨_,rfl⟩;rw[<-HL2] at fr cX hoW Bu;clear HL2;have US:L2.length<=1048576:=by have:=Bu.out;omega
  obtain⟨bw,mW⟩:∃b,winB (xO ns m) (xZ ls m)=b:=⟨_,rfl⟩;have cH:=h_ mW;have hC:winB (nwo ns m ns.length) (lwo L2 m L2.length)=bw:=by rw[<-cX.out];exact mW
  clear mW;obtain⟨o_0,o_1,o_f0,o_f1⟩:=hO.b2
  go_wp2_with fail
  refine(z1y _ _ ns L2 _ _ hoW.1.reads hoW.2.1.reads h1 US fr).mono ?_
  rintro e w9 ⟨An9,cn9,Al9,cl9,rfl,ho9,mE⟩;have uC:=hR.below mE n2;have hS9:=hS.below mE n3;have Uh:=hO.below mE n5;have how9:=how.kept mE;have Fb:=gy.trans (mE.mono gy.size);clear mE hA hR hS hO how hoW gy o_0 o_1 o_f0 o_f1 fr;obtain⟨N9,HN9⟩:∃N9,N9=nwo ns m ns.length:=⟨_,rfl⟩;obtain⟨L9,HL9⟩:∃L9,L9=lwo L2 m L2.length:=⟨_,rfl⟩;rw[<-HN9,<-HL9] at ho9 hC⊢;have HN9':=h_ HN9;have HL9':=h_ HL9;clear HN9 HL9;have e1:¬w.heap.size+1=w5.heap.size:=o_
  have e2:¬w1.heap.size=w5.heap.size:=o_
  have Yu:=(uC.far (p:=⟨w5.heap.size,0,none⟩) e1 (.slice An9 N9.length cn9)).far (p:=⟨w5.heap.size,1,none⟩) e1 (.slice Al9 L9.length cl9);have Yv:=(hS9.far (p:=⟨w5.heap.size,0,none⟩) e2 (.slice An9 N9.length cn9)).far (p:=⟨w5.heap.size,1,none⟩) e2 (.slice Al9 L9.length cl9);have Yw:Blk ((w9.setCell ⟨w5.heap.size,0,none⟩ (.slice An9 N9.length cn9)).setCell ⟨w5.heap.size,1,none⟩ (.slice Al9 L9.length cl9)) w5.heap.size 27 #[.slice An9 N9.length cn9,.slice Al9 L9.length cl9]:=(Uh.set_ 0 _).set_ 1 _;have Ui:=(ho9.setLow (p:=⟨w5.heap.size,0,none⟩) n5 (.slice An9 N9.length cn9)).setLow (p:=⟨w5.heap.size,1,none⟩) n5 (.slice Al9 L9.length cl9);have U6:=(how9.setFar (p:=⟨w5.heap.size,0,none⟩) (fun h=>by have:=(Hr _ h).2;simp at this;omega) (.slice An9 N9.length cn9)).setFar (p:=⟨w5.heap.size,1,none⟩) (fun h=>by have:=(Hr _ h).2;simp at this;omega) (.slice Al9 L9.length cl9);have ft:=(Fb.setCell (p:=⟨w5.heap.size,0,none⟩) (show w.heap.size<=w5.heap.size by omega) (.slice An9 N9.length cn9)).setCell (p:=⟨w5.heap.size,1,none⟩) (show w.heap.size<=w5.heap.size by omega) (.slice Al9 L9.length cl9);obtain⟨o_0,o_1,o_f0,o_f1⟩:=Uh.b2;clear uC hS9 Uh how9 Fb ho9
  go_wp2_with fail
  refine(zX _ _ N9 L9 bw _ Ui.1.reads Ui.2.1.reads hC).mono ?_
  rintro e w11 ⟨rfl,Cx⟩;have Yx:=Yu.below Cx Yu.lt;have Yy:=Yv.below Cx Yv.lt;have Yz:=Yw.below Cx Yw.lt;have NU:=U6.kept Cx;have YA:=Ui.kept Cx;have Fp:=ft.trans (Cx.mono ft.size);clear Yu Yv Yw U6 Ui ft Cx o_0 o_1 o_f0 o_f1;obtain⟨r_0,r_1,r_f0,r_f1⟩:=Yx.b2;obtain⟨s_0,s_1,s_f0,s_f1⟩:=Yy.b2;obtain⟨o_0,o_1,o_f0,o_f1⟩:=Yz.b2
  cases bw
  ·have EB:qY ns ls m=false:=by unfold qY;rw[cH.out,Bool.and_false]
   have EN:qr ns ls m=ns:=by unfold qr;rw[EB];rfl
   have EL:qp ns ls m=ls:=by unfold qp;rw[EB];rfl
   have Cy:=h_ (((NU.setLow (p:=⟨w.heap.size+1,0,none⟩) (show w.heap.size+1<w.heap.size+1+1 by omega) (.slice An1 ns.length cn1)).setLow (p:=⟨w.heap.size+1,1,none⟩) (show w.heap.size+1<w.heap.size+1+1 by omega) (.slice Al1 ls.length cl1)).mono (show w.heap.size<=_ by omega));have HB:=h_ ((Fp.setCell (p:=⟨w.heap.size+1,0,none⟩) sz_ (.slice An1 ns.length cn1)).setCell (p:=⟨w.heap.size+1,1,none⟩) sz_ (.slice Al1 ls.length cl1));clear NU YA Fp Yx Yy Yz;generalize w1.heap.size=B1 at*;generalize w5.heap.size=B5 at*;go_wp2;exact bodyPost_ret (v:= .tuple #[.agg #[.slice An1 ns.length cn1,.slice Al1 ls.length cl1],.bool false]) (by simp[results,Tryz.results163,go_sem,r_0,r_1,s_0,s_1]) rfl (by show zC (qr ns ls m) (qp ns ls m) (qY ns ls m) w _ _;rw[EB,EN,EL];exact zC.mk rfl rfl rfl Cy.out HB.out)
  ·have EB:qY ns ls m=true:=by unfold qY;rw[cH.out,hw];rfl
   have EN:qr ns ls m=N9:=by unfold qr;rw[EB,HN9'.out];rfl
   have EL:qp ns ls m=L9:=by unfold qp;rw[EB,HL9'.out,<-cX.out];rfl
   have Cy:=h_ (((YA.setLow (p:=⟨w.heap.size+1,0,none⟩) (show w.heap.size+1<w8.heap.size by omega) (.slice An9 N9.length cn9)).setLow (p:=⟨w.heap.size+1,1,none⟩) (show w.heap.size+1<w8.heap.size by omega) (.slice Al9 L9.length cl9)).mono (show w.heap.size<=_ by omega));have HB:=h_ ((Fp.setCell (p:=⟨w.heap.size+1,0,none⟩) sz_ (.slice An9 N9.length cn9)).setCell (p:=⟨w.heap.size+1,1,none⟩) sz_ (.slice Al9 L9.length cl9));clear NU YA Fp Yx Yy Yz;generalize w1.heap.size=B1 at*;generalize w5.heap.size=B5 at*;go_wp2;exact bodyPost_ret (v:= .tuple #[.agg #[.slice An9 N9.length cn9,.slice Al9 L9.length cl9],.bool true]) (by simp[results,Tryz.results163,go_sem,r_0,r_1,o_0,o_1]) rfl (by show zC (qr ns ls m) (qp ns ls m) (qY ns ls m) w _ _;rw[EB,EN,EL];exact zC.mk rfl rfl rfl Cy.out HB.out)
def dnP (k:Int) (l:Pr):Pr:=(dnI k l.1,dnI k l.2)
def jwo (ls:List Pr) (k:Int) (p q:Nat) (X:Pr):Nat->List Pr
 |0=> []
 |j+1=>if j=q then jwo ls k p q X j else jwo ls k p q X j++[dnP k (if j=p then X else ndI ls (j:Nat))]
theorem z1N (ls:List Pr) (k:Int) (p q:Nat) (X:Pr):∀j,(jwo ls k p q X j).length <=j
 |0=>by simp[jwo]
 |j+1=>by
  have:=z1N ls k p q X j;unfold jwo
  split<;>simp<;>omega
theorem Je (l:List Pr) (j:Nat) (h:j<l.length):l.take (j+1)=l.take j++[ndI l (j:Nat)]:=by
 rw[qd l j h,aax h]
theorem Vm (l:List Pr) (x:Pr) (m:Nat):(l++[x]).eraseIdx m=if l.length=m then l else l.eraseIdx m++[x]:=by
 by_cases h:l.length=m
 ·rw[aao h,List.eraseIdx_append_of_length_le o_]
  simp[h]
 ·rw[aaq h]
  by_cases h2:m<l.length
  ·rw[List.eraseIdx_append_of_lt_length h2]
  ·rw[List.eraseIdx_append_of_length_le o_,List.eraseIdx_of_length_le (by simp;omega),List.eraseIdx_of_length_le o_]
theorem z8c (ns:List Pr) (m:Nat):∀j,j<=ns.length->nwo ns m j=(ns.take j).eraseIdx m
 |0,_=>by simp[nwo]
 |j+1,h=>by
  have hl:(ns.take j).length =j:=by simp;omega
  rw[Je ns j o_,Vm,hl];unfold nwo;rw[z8c ns m j o_]
  by_cases hj:j=m
  ·rw[aao o_,aao hj,List.eraseIdx_of_length_le o_]
  ·rw[aaq o_,aaq hj]
theorem z20 (ls:List Pr) (p:Nat) (X:Pr) (j:Nat) (h:j<ls.length):ndI (ls.set p X) (j:Nat)=if j=p then X else ndI ls (j:Nat):=by
 rw[qd _ _ (by simpa using h),qd _ _ h,List.getElem_set]
 by_cases hj:j=p
 ·rw[aao hj,aao hj.symm]
 ·rw[aaq hj,aaq (fun e=>hj e.symm)]
theorem z82 (ls:List Pr) (k:Int) (p q:Nat) (X:Pr):∀j,j<=ls.length->jwo ls k p q X j=(((ls.set p X).take j).eraseIdx q).map (dnP k)
 |0,_=>by simp[jwo]
 |j+1,h=>by
  have hl:((ls.set p X).take j).length =j:=by simp;omega
  rw[Je _ j (by simp;omega),Vm,hl];unfold jwo;rw[z82 ls k p q X j o_,z20 ls p X j o_]
  by_cases hj:j=q
  ·rw[aao hj,aao hj,List.eraseIdx_of_length_le o_]
  ·rw[aaq hj,aaq hj,aaA];rfl
theorem z89 (ls:List Pr) (k:Int) (hnt:∀j:Nat,j<ls.length->(ndI ls j).1≠k/\(ndI ls j).2≠k):∀j,j<=ls.length->lwo ls k j=(ls.take j).map (dnP k)
 |0,_=>by simp[lwo]
 |j+1,h=>by
  rw[Je ls j o_];unfold lwo;rw[aao (hnt j o_),z89 ls k hnt j o_,aaA];rfl
theorem z1S (ls:List Pr) (k:Int):∀m,∀i,i<m->jR ls k i=true->i∈atN ls k m
 |0,i,h,_=>by omega
 |m+1,i,h,ht=>by
  cases hm:jR ls k m
  ·rw[z1z hm]
   by_cases e:i=m
   ·subst e;rw[hm] at ht;cases ht
   ·exact z1S ls k m i o_ ht
  ·rw[V6 hm]
   by_cases e:i=m
   ·subst e;simp
   ·simp[z1S ls k m i o_ ht]
structure JoinAt (ns ls:List Pr) (m p q t u:Nat):Prop where
 win:zL ns ls
 hm:m<ns.length
 at_:atN ls m ls.length=[p,q]
 hp:p<ls.length
 hq:q<ls.length
 ends:yY ls m (atN ls m ls.length)=[(t:Int),(u:Int)]
 ht:t<ns.length
 hu:u<ns.length
 tk:(t:Int)≠m
 uk:(u:Int)≠m
 ot:othI (ndI ls p) m=(t:Int)
 ou:othI (ndI ls q) m=(u:Int)
theorem z4F {ns ls:List Pr} {k:Int} (h:zP ns ls k=true):∃m p q t u:Nat,k=(m:Int)/\hasN ns ls k=true/\JoinAt ns ls m p q t u:=by
 unfold zP at h;rw[aaH] at h;obtain⟨hk,h2⟩:=deg2 (of_decide_eq_true h.1);obtain⟨hw,m,rfl,hm⟩:=xS hk;obtain⟨p,q,t,u,a1,a2,a3,a4,a5,a6,a7,a8,a9,a10⟩:=VV (zD.1 hw) h2;exact⟨m,p,q,t,u,rfl,hk,zD.1 hw,hm,a1,a2,a3,a4,a5,a6,a7,a8,a9,a10⟩
theorem JoinAt.bound {ns ls:List Pr} {m p q t u:Nat} (h:JoinAt ns ls m p q t u) (j:Nat) (hj:j<((ls.set p (mn2 (t:Int) u,mx2 (t:Int) u)).take q++(ls.set p (mn2 (t:Int) u,mx2 (t:Int) u)).drop (q+1)).length):
  (-1000000<=(ndI ((ls.set p (mn2 (t:Int) u,mx2 (t:Int) u)).take q++(ls.set p (mn2 (t:Int) u,mx2 (t:Int) u)).drop (q+1)) j).1/\(ndI ((ls.set p (mn2 (t:Int) u,mx2 (t:Int) u)).take q++(ls.set p (mn2 (t:Int) u,mx2 (t:Int) u)).drop (q+1)) j).1<=1000000)/\(-1000000<=(ndI ((ls.set p (mn2 (t:Int) u,mx2 (t:Int) u)).take q++(ls.set p (mn2 (t:Int) u,mx2 (t:Int) u)).drop (q+1)) j).2/\(ndI ((ls.set p (mn2 (t:Int) u,mx2 (t:Int) u)).take q++(ls.set p (mn2 (t:Int) u,mx2 (t:Int) u)).drop (q+1)) j).2<=1000000):=by
 have hq:q<(ls.set p (mn2 (t:Int) u,mx2 (t:Int) u)).length :=by simpa using h.hq
 rw[X9 hq j hj];have mz:j<ls.length -1:=by simp at hj;have:=h.hq;omega
 generalize hi:(if j<q then j else j+1)=i;have FV:i<ls.length:=by split at hi<;>omega
 rw[z20 ls p _ i FV];have n9:=h.win.2.1;have ht:=h.ht;have hu:=h.hu
 by_cases hip:i=p
 ·rw[aao hip];dsimp only;rw[Z5,kz];omega
 ·rw[aaq hip]
  have hl:=q9.1 (h.win.2.2.2.2.2 i FV).1;omega
theorem JoinAt.free {ns ls:List Pr} {m p q t u:Nat} (h:JoinAt ns ls m p q t u) (j:Nat) (hj:j<((ls.set p (mn2 (t:Int) u,mx2 (t:Int) u)).take q++(ls.set p (mn2 (t:Int) u,mx2 (t:Int) u)).drop (q+1)).length):
  (ndI ((ls.set p (mn2 (t:Int) u,mx2 (t:Int) u)).take q++(ls.set p (mn2 (t:Int) u,mx2 (t:Int) u)).drop (q+1)) j).1≠m/\(ndI ((ls.set p (mn2 (t:Int) u,mx2 (t:Int) u)).take q++(ls.set p (mn2 (t:Int) u,mx2 (t:Int) u)).drop (q+1)) j).2≠m:=by
 have hq:q<(ls.set p (mn2 (t:Int) u,mx2 (t:Int) u)).length :=by simpa using h.hq
 rw[X9 hq j hj];have mz:j<ls.length -1:=by simp at hj;have:=h.hq;omega
 generalize hi:(if j<q then j else j+1)=i;have FV:i<ls.length:=by split at hi<;>omega
 have hiq:i≠q:=by split at hi<;>omega
 rw[z20 ls p _ i FV];have ht:=h.tk;have hu:=h.uk
 by_cases hip:i=p
 ·rw[aao hip];dsimp only;unfold mn2 mx2;constructor<;>split<;>assumption
 ·rw[aaq hip]
  have FA:jR ls m i=false:=by
   cases htb:jR ls m i
   ·rfl
   ·have:=z1S ls m ls.length i FV htb
    rw[h.at_] at this;simp at this
    omega
  simpa[jR,not_or] using FA
theorem JoinAt.joinX {ns ls:List Pr} {m p q t u:Nat} (h:JoinAt ns ls m p q t u):joinX ls m p q=(mn2 (t:Int) u,mx2 (t:Int) u):=by
 simp[Proofs.YtnjcpljhmhdhkaaGreat.joinX,h.ot,h.ou]
theorem JoinAt.cn {ns ls:List Pr} {m p q t u:Nat} (h:JoinAt ns ls m p q t u):xO ns m=ns.take m++ns.drop (m+1):=by
 unfold xO;rw[z8c ns m _ (aaa _),aaB,List.eraseIdx_eq_take_drop_succ]
theorem JoinAt.cl {ns ls:List Pr} {m p q t u:Nat} (h:JoinAt ns ls m p q t u):xZ ls m=jwo ls m p q (mn2 (t:Int) u,mx2 (t:Int) u) ls.length:=by
 have hM:z0K ls m=(ls.set p (mn2 (t:Int) u,mx2 (t:Int) u)).take q++(ls.set p (mn2 (t:Int) u,mx2 (t:Int) u)).drop (q+1):=by
  unfold z0K;rw[h.at_];simp only[h.joinX]
 have hT:(ls.set p (mn2 (t:Int) u,mx2 (t:Int) u)).take ls.length=ls.set p (mn2 (t:Int) u,mx2 (t:Int) u):=aaL (by simp);unfold xZ;rw[hM,z89 _ _ h.free _ (aaa _),z82 _ _ _ _ _ _ (aaa _),aaB,hT,List.eraseIdx_eq_take_drop_succ]
theorem z6P (vn vl:Value) (ns ls:List Pr) (k:Int) (w:World) (hn:RP w vn ns) (hl:RP w vl ls) (h1:ns.length<=1048576) (h2:ls.length<=1048576):
  Calls Tryz.prog 163 #[.agg #[vn,vl],.int .i64 k] w (fun e w'=>zC (qr ns ls k) (qp ns ls k) (qY ns ls k) w e w'):=by
 cases hs:zP ns ls k
 ·have EB:qY ns ls k=false:=by unfold qY;rw[hs];rfl
  have EN:qr ns ls k=ns:=by unfold qr;rw[EB];rfl
  have EL:qp ns ls k=ls:=by unfold qp;rw[EB];rfl
  rw[EB,EN,EL];exact z90 vn vl ns ls k w hn hl h1 h2 hs
 ·obtain⟨m,p,q,t,u,rfl,hk,h⟩:=z4F hs
  exact z7b vn vl ns ls m p q t u w hn hl h1 h2 hs hk h.at_ h.hp h.hq h.ends h.bound
end Go.Proofs.YtnjcpljhmhdhkaaGreat
