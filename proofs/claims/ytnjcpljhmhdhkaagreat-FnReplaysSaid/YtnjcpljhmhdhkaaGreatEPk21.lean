/- part 21 -/
import Derived.Test.YtnjcpljhmhdhkaaGreatEPk18
import Derived.Test.YtnjcpljhmhdhkaaGreatEPk19
import Derived.Test.YtnjcpljhmhdhkaaGreatEPk20
import Derived.Deep.RegionHeld3
import Derived.Deep.DeepCutAuto
import Derived.BigRegion
set_option linter.unusedSimpArgs false
set_option linter.unusedVariables false
set_option maxRecDepth 100000
set_option maxHeartbeats 16000000
namespace Go.Proofs.YtnjcpljhmhdhkaaGreat
open Go.RowKit
theorem qw (v0 v1 v2 v3 v4 v5 v6:Value) (S:St) (w:World) (h:RSt w v0 v1 v2 v3 v4 v5 v6 S) (hle:StLe S):
  Calls Tryz.prog 68 #[.agg #[v0,v1,v2,v3,v4,v5,v6,.int .i64 S.fund]] w (z0o S w):=by
 have gf:=h_ hle;obtain⟨w0,Gx⟩:∃u,u=(w.alloc (.cells #[v0,v1,v2,v3,v4,v5,v6,.int .i64 S.fund] 34)).alloc (.cells z8_ 34):=⟨_,rfl⟩;have Cc:Blk w0 w.heap.size 34 #[v0,v1,v2,v3,v4,v5,v6,.int .i64 S.fund]:=Gx▸(Blk.newAt rfl).alloc _;have Fv:Blk w0 (w.heap.size+1) 34 z8_:=Gx▸Blk.newAt (by simp);have Hg:Below w.heap.size w w0:=Gx▸((aaj _ _).alloc (aaa _) _).alloc (by simp) _;have Mi:w0.heap.size=w.heap.size+1+1:=by rw[Gx];simp
 have bT:=h_ Gx;have hd:=h_ (h.below Hg);clear hle h Gx
 go_enter Tryz.func68,Tryz.ntmps68
 go_upto_region 1 with (fail)
 rw[<-bT.out];clear bT;obtain⟨x_0,x_1,x_2,x_3,x_4,x_5,x_6,x_7,x_f0,x_f1,x_f2,x_f3,x_f4,x_f5,x_f6,x_f7⟩:=Cc.b8;obtain⟨r_0,r_1,r_2,r_3,r_4,r_5,r_6,r_7,r_f0,r_f1,r_f2,r_f3,r_f4,r_f5,r_f6,r_f7⟩:=Fv.b8;have q0:w.heap.size<w0.heap.size:=o_
 have q1:w.heap.size+1<w0.heap.size:=o_
 have Cx:=h_ Mi;have HR0:=h_ Fv;clear Mi Cc Fv
 go_region_held3 (fun w'=>w'.cell? ⟨w.heap.size,0,none⟩=some (v0)/\w'.cell? ⟨w.heap.size,1,none⟩=some (v1)/\w'.cell? ⟨w.heap.size,2,none⟩=some (v2)/\w'.cell? ⟨w.heap.size,3,none⟩=some (v3)/\w'.cell? ⟨w.heap.size,4,none⟩=some (v4)/\w'.cell? ⟨w.heap.size,5,none⟩=some (v5)/\w'.cell? ⟨w.heap.size,6,none⟩=some (v6)/\w'.cell? ⟨w.heap.size,7,none⟩=some (.int .i64 S.fund))
  (go_keep)
  (first|(go_at_call 80;refine Calls.mono (Qh _ _ _ _ _ S.D _ (hd.out.dr.below ?a1) gf.out.D) ?_;(case a1=>exact bel_);rintro e w1 ⟨A0,ac0,A1,ac1,A2,ac2,A3,ac3,A4,ac4,fs,rfl,Hi,h9⟩;(have gc:=bdC h9);(have Bk:=bdF h9);have Ht:=h9.size;(try simp at Ht);(try have gF:=p0_ w w1);(try have Ge:=p1_ w w1))|(go_at_call 133;refine Calls.mono (vZ _ S.cs _ (hd.out.cs.below ?a2) gf.out.cs) ?_;(case a2=>exact bel_);rintro e w2 ⟨z5,rfl,Hk,Hd⟩;(obtain⟨A5,ac5,rfl,_⟩:=Hk.reads.form);(have gE:=bcC Hd);(have BD:=bcF Hd);have Gh:=Hd.size;(try simp at Gh);(try have gI:=p0_ w w2);(try have gJ:=p1_ w w2))|(go_at_call 134;refine Calls.mono (yb _ S.ds _ (hd.out.ds.below ?a3) gf.out.ds) ?_;(case a3=>exact bel_);rintro e w3 ⟨z6,rfl,Hm,He⟩;(obtain⟨A6,ac6,rfl⟩:=zK.form Hm);(have Gy:=bcC He);(have nK:=bcF He)))
 have Mi:=Cx.out;have k13:Below w1.heap.size w1 w3:=bel_
 have k23:Below w2.heap.size w2 w3:=bel_
 have k03:Below w0.heap.size w0 w3:=bel_
 have Gv:Hid (OwnSt (w.heap.size+1+1) w3 (.slice A0 S.D.fn.length ac0) (.slice A1 S.D.fl.length ac1) (.slice A2 S.D.nn.length ac2) (.slice A3 S.D.nl.length ac3) (.slice A4 S.D.ss.length ac4) (.slice A5 S.cs.length ac5) (.slice A6 S.ds.length ac6) S fs):=h_ (by
  have Hp:=Hi.lt;have cB:=World.ownsRow.lt Hk;have go:=World.ownsRow.lt Hm
  try simp at Hp
  try simp at cB
  try simp at go
  refine⟨(Hi.kept k13).mono ?_,(OwnI.kept Hk k23).mono ?_,Hm.mono ?_,fun k h1 h2=>?_,fun k h1 h2=>?_,fun k h1 h2=>?_⟩
  ·exact sz_
  ·exact sz_
  ·exact sz_
  ·have:=Hp k h1;have:=cB k h2;omega
  ·have:=Hp k h1;have:=go k h2;omega
  ·have:=cB k h1;have:=go k h2;omega)
 have fH:=h_ (Hg.trans (k03.mono Hg.size));have n1:w.heap.size+1<w3.heap.size:=by have:=k03.size;omega
 have gZ:=HR0.out.below k03 q1;obtain⟨t_0,t_1,t_2,t_3,t_4,t_5,t_6,t_7⟩:=gZ.c8;clear Hg h9 Hd He Hi Hk Hm k13 k23 k03;go_wp2;refine bodyPost_ret (v:= .agg #[.slice A0 S.D.fn.length ac0,.slice A1 S.D.fl.length ac1,.slice A2 S.D.nn.length ac2,.slice A3 S.D.nl.length ac3,.slice A4 S.D.ss.length ac4,.slice A5 S.cs.length ac5,.slice A6 S.ds.length ac6,.int .i64 S.fund]) (by simp[results,Tryz.results68,go_sem,n1,t_0,t_1,t_2,t_3,t_4,t_5,t_6,t_7]) rfl ?_
 refine⟨A0,ac0,A1,ac1,A2,ac2,A3,ac3,A4,ac4,A5,ac5,A6,ac6,fs,rfl,?_,?_⟩
 ·refine OwnSt.mono (base:=w.heap.size+1+1) ?_ o_
  repeat (first|(with_reducible exact Gv.out)|(with_reducible refine OwnSt.setLow ?_ ?_ _))
  all_goals exact sz_
 ·have Hc:=fH.out
  exact bel_
noncomputable def jR (D:Dr):Dr:=z2E (okD D) D
noncomputable def jB (D:Dr):Bool:=z0G (okD D) D
theorem xD {D:Dr} (h:okD D=false∨D.ss.length=0):jR D=D/\jB D=false:=by
 have hn:¬(okD D=true/\0<D.ss.length):=by
  rcases h with h|h
  ·rw[h];simp
  ·omega
 refine⟨z6m hn,?_⟩
 unfold jB z0G
 rcases h with h|h
 ·rw[h];rfl
 ·rw[h];simp
theorem QI {D:Dr} {k:Nat} (h:okD D=true) (hk:D.ss.length=k+1) (s:Sp) (hs:D.ss[k]? =some s):jR D=⟨D.fn,D.fl,s.ns,s.ls,D.ss.take k⟩/\jB D=true:=by
 have hp:0<D.ss.length:=o_
 obtain⟨gG,F6⟩:=List.getElem?_eq_some_iff.1 hs
 constructor
 ·unfold jR
  rw[h,z4A hp];have e:D.ss.length -1=k:=o_
  simp only[e,F6]
 ·unfold jB z0G
  rw[h,aaQ hp];rfl
theorem z5m {a b c d:Value} {g n c' k x:Nat} {fs:List SF} (hk:k<fs.length) (h:qJ a b fs[k].2.1 fs[k].2.2 (.slice (some ⟨g,0,none⟩) k c') (fs.take k) x):qJ a b c d (.slice (some ⟨g,0,none⟩) n c') fs x:=by
 rcases h with h|h|h
 ·exact .inl h
 ·exact .inr (.inr (.inr ⟨k,hk,h⟩))
 ·exact .inr (.inr (Jk h))
theorem z15 (v0 v1 v2 v3 v4:Value) (D:Dr) (w:World) (h:RD w v0 v1 v2 v3 v4 D) (hle:DrLe D):
  Calls Tryz.prog 117 #[.agg #[v0,v1,v2,v3,v4]] w (z5I (jR D) (jB D) w):=by
 obtain⟨r,hr⟩:∃r,okD D=r:=⟨_,rfl⟩;have HR:=h_ hr;have gf:=h_ hle;obtain⟨B4,d4,ev4,_⟩:=h.ss;subst ev4;obtain⟨E,hE⟩:∃E,jR D=E:=⟨_,rfl⟩;obtain⟨bb,gj⟩:∃bb,jB D=bb:=⟨_,rfl⟩;rw[hE,gj];have HE:=h_ hE;have gw:=h_ gj;clear hle hE gj
 go_enter Tryz.func117,Tryz.ntmps117
 go_wp2_with fail
 refine(Qh _ _ _ _ _ D _ (h.below bel_) gf.out).mono ?_
 rintro e w1 ⟨A0,c0,A1,c1,A2,c2,A3,c3,A4,c4,fs,rfl,Hi,h9⟩;have Ga:Blk w1 w.heap.size 30 #[v0,v1,v2,v3,(.slice B4 D.ss.length d4)]:=Blk.below ((Blk.newAt rfl).alloc _) h9 sz_;have Hx:Blk w1 (w.heap.size+1) 30 z5_:=Blk.below (Blk.newAt (by simp)) h9 sz_;have h8:Below w.heap.size w w1:=bel_
 have GQ:OwnD (w.heap.size+1+1) w1 (.slice A0 D.fn.length c0) (.slice A1 D.fl.length c1) (.slice A2 D.nn.length c2) (.slice A3 D.nl.length c3) (.slice A4 D.ss.length c4) D fs:=by simpa using Hi
 have gU:=h_ (OutSt.start GQ (aaa _) Ga Hx h8);obtain⟨x_0,x_1,x_2,x_3,x_4⟩:=Ga.c5;have fS:=Ga.lt;clear Hi h9 GQ
 go_wp2_with fail
 obtain⟨w2,gR⟩:∃w2,w2=w1.alloc (.cells #[.slice A0 D.fn.length c0,.slice A1 D.fl.length c1,.slice A2 D.nn.length c2,.slice A3 D.nl.length c3,.slice A4 D.ss.length c4] 30):=⟨_,rfl⟩;rw[<-gR] at gU⊢;generalize w1.heap.size=Z at*;clear gR Ga Hx h8 x_0 x_1 x_2 x_3 x_4 fS;refine(z0f _ _ _ _ _ D r _ (h.below gU.out.blw) HR).mono ?_
 rintro e w3 ⟨rfl,He⟩;have gk:=h_ (gU.out.below He);clear He gU;have Gr:=gk.out.X;have Fp:=gk.out.Z_;obtain⟨x_0,x_1,x_2,x_3,x_4⟩:=Gr.c5
 cases r
 ·obtain⟨u1,u2⟩:=xD (D:=D) (.inl hr)
  have hu:D=E:=by rw[<-HE.out];exact u1.symm
  have hv:false=bb:=by rw[<-gw.out];exact u2.symm
  subst hu;subst hv;have HF:=gk;clear gk HE gw hr u1 u2;obtain⟨_,_,hR,hZ,Gu,_,_⟩:=HF.out;obtain⟨z_0,z_1,z_2,z_3,z_4⟩:=hZ.c5;obtain⟨r_0,r_1,r_2,r_3,r_4,r_f0,r_f1,r_f2,r_f3,r_f4⟩:=hR.b5;have Hr:=hR.lt;have gl:=h_ (fun u0 u1 u2 u3 u4=>HF.out.fin u0 u1 u2 u3 u4);clear hR hZ HF;go_wp2;exact bodyPost_ret (v:= .tuple #[.agg #[.slice A0 D.fn.length c0,.slice A1 D.fl.length c1,.slice A2 D.nn.length c2,.slice A3 D.nl.length c3,.slice A4 D.ss.length c4],.bool false]) (by simp[results,Tryz.results117,go_sem,r_0,r_1,r_2,r_3,r_4,Hr]) rfl ⟨_,_,_,_,_,_,_,_,_,_,_,rfl,(gl.out _ _ _ _ _).1,(gl.out _ _ _ _ _).2⟩
 ·by_cases Fn:D.ss.length=0
  ·obtain⟨u1,u2⟩:=xD (D:=D) (.inr Fn)
   have hu:D=E:=by rw[<-HE.out];exact u1.symm
   have hv:false=bb:=by rw[<-gw.out];exact u2.symm
   subst hu;subst hv;have HF:=gk;clear gk HE gw hr u1 u2;obtain⟨_,_,hR,hZ,Gu,_,_⟩:=HF.out;obtain⟨z_0,z_1,z_2,z_3,z_4⟩:=hZ.c5;obtain⟨r_0,r_1,r_2,r_3,r_4,r_f0,r_f1,r_f2,r_f3,r_f4⟩:=hR.b5;have Hr:=hR.lt;have gl:=h_ (fun u0 u1 u2 u3 u4=>HF.out.fin u0 u1 u2 u3 u4);clear hR hZ HF;go_wp2;exact bodyPost_ret (v:= .tuple #[.agg #[.slice A0 D.fn.length c0,.slice A1 D.fl.length c1,.slice A2 D.nn.length c2,.slice A3 D.nl.length c3,.slice A4 D.ss.length c4],.bool false]) (by simp[results,Tryz.results117,go_sem,r_0,r_1,r_2,r_3,r_4,Hr,Fn]) rfl ⟨_,_,_,_,_,_,_,_,_,_,_,rfl,(gl.out _ _ _ _ _).1,(gl.out _ _ _ _ _).2⟩
  ·obtain⟨k,hk⟩:∃k,D.ss.length=k+1:=⟨D.ss.length -1,by omega⟩
   have BN:k<D.ss.length:=o_
   have hm:=congrArg List.length gk.out.own.map;simp at hm
   have Wj:k<fs.length:=o_
   obtain⟨g,hg,hgl,BI⟩:=gk.out.own.ss.addr o_;subst hg
   have YV:fs[k].1=D.ss[k]:=by
    have h1:=gk.out.own.map;have h2:(fs.map Prod.fst)[k]'(by simpa using Wj)=D.ss[k]:=by simp only[h1]
    simpa using h2
   obtain⟨u1,u2⟩:=QI hr hk D.ss[k] (aac BN);have hu:E=⟨D.fn,D.fl,D.ss[k].ns,D.ss[k].ls,D.ss.take k⟩:=by rw[<-HE.out];exact u1
   have hv:true=bb:=by rw[<-gw.out];exact u2.symm
   subst hu;subst hv;clear HE gw u1 u2 hr;have e1:(D.ss.length:Int) -1=(k:Int):=o_
   have k0:(0:Int)<=(k:Int):=o_
   have k1:(k:Int)<(D.ss.length:Int):=o_
   have k2:(k:Int)<=(c4:Int):=o_
   have BW:((D.ss.length:Int)==0)=false:=beq_eq_false_iff_ne.2 o_;have hkm:k<1048576:=by have:=gf.out.ss;omega
   have hwk:IntKind.i64.wrap (k:Int)=(k:Int):=aaP _ o_;have uf:=gk.out.lt;have nX:w.heap.size≠Z:=o_
   have nR:w.heap.size+1≠Z:=o_
   have nB:w.heap.size<=Z:=o_
   have YM:(D.ss.take k).length =k:=by simp;omega
   have Hh:=gk.out.own.ss.win k Wj;obtain⟨An,cn,en⟩:=Hh.1.form;obtain⟨Al,cl,el⟩:=Hh.2.1.form;have Hq:=gk.out.own.ss.row;have FW:k*5+3<D.ss.length*5:=o_
   have GX:k*5+4<D.ss.length*5:=o_
   rw[<-hgl] at Hq;have q3:=Hq.cellAt (k*5+3) FW;have q4:=Hq.cellAt (k*5+4) GX;rw[yw sfc 5 (fun _=>rfl) _ k _ Wj o_] at q3 q4;simp only[sfc,aag,aah] at q3 q4
   have hN:=gk.out.own.popNow Wj;have GB:¬qJ (.slice A0 D.fn.length c0) (.slice A1 D.fl.length c1) fs[k].2.1 fs[k].2.2 (.slice (some ⟨g,0,none⟩) k c4) (fs.take k) Z:=fun hz=>gk.out.far (z5m Wj hz)
   rw[YV] at hN;rw[YV] at en;rw[YV] at el;rw[en,el] at hN GB;rw[en] at q3;rw[el] at q4;obtain⟨w5,fe⟩:∃w5,w5=((w3.setCell ⟨Z,2,none⟩ (.slice An D.ss[k].ns.length cn)).setCell ⟨Z,3,none⟩ (.slice Al D.ss[k].ls.length cl)).setCell ⟨Z,4,none⟩ (.slice (some ⟨g,0,none⟩) k c4):=⟨_,rfl⟩
   have HF:Hid (OutSt w v0 v1 v2 v3 (.slice B4 D.ss.length d4) Z (.slice A0 D.fn.length c0) (.slice A1 D.fl.length c1) (.slice An D.ss[k].ns.length cn) (.slice Al D.ss[k].ls.length cl) (.slice (some ⟨g,0,none⟩) k c4) ⟨D.fn,D.fl,D.ss[k].ns,D.ss[k].ls,D.ss.take k⟩ (fs.take k) w5):=h_
    (fe▸⟨((hN.setFar (p:=⟨Z,2,none⟩) GB _).setFar (p:=⟨Z,3,none⟩) GB _).setFar (p:=⟨Z,4,none⟩) GB _,((gk.out.X.far (p:=⟨Z,2,none⟩) nX _).far (p:=⟨Z,3,none⟩) nX _).far (p:=⟨Z,4,none⟩) nX _,
     ((gk.out.R.far (p:=⟨Z,2,none⟩) nR _).far (p:=⟨Z,3,none⟩) nR _).far (p:=⟨Z,4,none⟩) nR _,((Fp.set_ 2 _).set_ 3 _).set_ 4 _,uf,GB,((gk.out.blw.setCell (p:=⟨Z,2,none⟩) nB _).setCell (p:=⟨Z,3,none⟩) nB _).setCell (p:=⟨Z,4,none⟩) nB _⟩)
   obtain⟨z_0,z_1,z_2,z_3,z_4,z_f0,z_f1,z_f2,z_f3,z_f4⟩:=Fp.b5;have BY:=h_ YM;generalize D.ss[k]=s at*;clear hN gk Hh Hq FW GX en el YV Gr Fp hm hk hgl BI YM GB BN
   go_upto_region 7 with (fail)
   rw[<-fe];clear fe z_0 z_1 z_2 z_3 z_4 z_f0 z_f1 z_f2 z_f3 z_f4 q3 q4 x_0 x_1 x_2 x_3 x_4;obtain⟨_,_,hR,hZ,Gu,_,_⟩:=HF.out;obtain⟨z_0,z_1,z_2,z_3,z_4⟩:=hZ.c5;obtain⟨r_0,r_1,r_2,r_3,r_4,r_f0,r_f1,r_f2,r_f3,r_f4⟩:=hR.b5;have Hr:=hR.lt;have gl:=h_ (fun u0 u1 u2 u3 u4=>HF.out.fin u0 u1 u2 u3 u4);clear hR hZ HF;go_wp2
   exact bodyPost_ret (v:= .tuple #[.agg #[.slice A0 D.fn.length c0,.slice A1 D.fl.length c1,.slice An s.ns.length cn,.slice Al s.ls.length cl,.slice (some ⟨g,0,none⟩) k c4],.bool true]) (by simp[results,Tryz.results117,go_sem,r_0,r_1,r_2,r_3,r_4,Hr]) rfl
    ⟨A0,c0,A1,c1,An,cn,Al,cl,some ⟨g,0,none⟩,c4,fs.take k,by simp only[BY.out],by simp only[BY.out];exact(gl.out _ _ _ _ _).1,(gl.out _ _ _ _ _).2⟩
theorem vB {a b c d:List Pr}:qO a b c d=true↔a=c/\b=d:=by simp[qO]
theorem vN {nn nl N L:List Pr} {s:Sp} {r:List Sp}:qL nn nl N L (s::r)=true↔(s.ns=N/\s.ls=L)/\yZ N L s.k s.a s.b=true/\qL nn nl (y8 N L s.k s.a s.b) (y7 N L s.k s.a s.b) r=true:=by
 rw[qL,aaG,aaG,vB]
theorem xE:∀(ss:List Sp) (nn nl N L:List Pr) (s:Sp),qL nn nl N L (ss++[s])=true↔qL s.ns s.ls N L ss=true/\yZ s.ns s.ls s.k s.a s.b=true/\nn=y8 s.ns s.ls s.k s.a s.b/\nl=y7 s.ns s.ls s.k s.a s.b
 | [],nn,nl,N,L,s=>by
  rw[List.nil_append,vN,qL,qL,vB,vB]
  constructor
  ·rintro⟨⟨rfl,rfl⟩,h1,h2,h3⟩;exact⟨⟨rfl,rfl⟩,h1,h2,h3⟩
  ·rintro⟨⟨rfl,rfl⟩,h1,h2,h3⟩;exact⟨⟨rfl,rfl⟩,h1,h2,h3⟩
 |t::ss,nn,nl,N,L,s=>by
  rw[List.cons_append,vN,vN,xE ss]
  constructor
  ·rintro⟨h1,h2,h3,h4⟩;exact⟨⟨h1,h2,h3⟩,h4⟩
  ·rintro⟨⟨h1,h2,h3⟩,h4⟩;exact⟨h1,h2,h3,h4⟩
theorem kJ {D:Dr}:okD D=true↔zC D.fn D.fl/\D.ss.length<=40/\qL D.nn D.nl D.fn D.fl D.ss=true:=by
 unfold okD;rw[aaG,aaG,zq,aa4]
theorem z6W {D:Dr} (h:okD D=true) (k a b:Int):okD (ji D k a b)=true:=by
 by_cases hc:zV D k a b=true
 ·rw[kN hc]
  unfold zV at hc;rw[aaG,aaG,aa4] at hc;obtain⟨h1,h2,h3⟩:=kJ.1 h;rw[kJ];refine⟨h1,by simp;omega,?_⟩
  rw[xE];exact⟨h3,hc.2.2,rfl,rfl⟩
 ·rw[yh (by simpa using hc)];exact h
theorem z8P (D:Dr) (k a b:Int):(ji D k a b).ss.length <=D.ss.length+1:=by
 by_cases hc:zV D k a b=true
 ·rw[kN hc];simp
 ·rw[yh (by simpa using hc)];omega
theorem z75 {D:Dr} (h:okD D=true):okD (jR D)=true:=by
 by_cases h0:D.ss.length=0
 ·rw[(xD (.inr h0)).1];exact h
 ·obtain⟨k,hk⟩:∃k,D.ss.length=k+1:=⟨D.ss.length -1,by omega⟩
  have BN:k<D.ss.length:=o_
  rw[(QI h hk D.ss[k] (aac BN)).1];obtain⟨h1,h2,h3⟩:=kJ.1 h
  have e:D.ss=D.ss.take k++[D.ss[k]]:=by
   rw[<-aax BN,aaK o_]
  rw[e,xE] at h3;rw[kJ];exact⟨h1,by simp;omega,h3.1⟩
theorem z6X {ns ls:List Pr} (h:zC ns ls) (k a b:Int):zC (y8 ns ls k a b) (y7 ns ls k a b):=by
 unfold y8 y7
 by_cases h1:k=1
 ·rw[aaq o_,aao h1];exact Vw h a b
 ·by_cases h2:k=2
  ·rw[aaq o_,aaq h1,aao h2];exact z06 h a
  ·by_cases h3:k=3
   ·rw[aao h3,aaq h1,aaq h2,aao h3]
    unfold qo qp
    by_cases hj:z9C ns ls a=true
    ·rw[aao hj,aao hj]
     unfold z9C at hj;rw[aaG] at hj;exact zq.1 hj.2
    ·rw[aaq hj,aaq hj];exact h
   ·rw[aaq h3,aaq h1,aaq h2,aaq h3];exact h
theorem Qb:∀(ss:List Sp) (nn nl N L:List Pr),zC N L->qL nn nl N L ss=true->zC nn nl/\∀k (hk:k<ss.length),zC ss[k].ns ss[k].ls
 | [],nn,nl,N,L,h,h1=>by
  rw[qL,vB] at h1;obtain⟨rfl,rfl⟩:=h1;exact⟨h,fun k hk=>absurd hk (by simp)⟩
 |s::r,nn,nl,N,L,h,h1=>by
  obtain⟨⟨h2,h3⟩,h4,h5⟩:=vN.1 h1;obtain⟨h6,h7⟩:=Qb r nn nl _ _ (z6X h s.k s.a s.b) h5;refine⟨h6,fun k hk=>?_⟩
  cases k with
  |zero=>rw[<-h2,<-h3] at h;exact h
  |succ k=>exact h7 k (by simpa using hk)
theorem z4n:∀(ss:List Sp),(∀k (hk:k<ss.length),zC ss[k].ns ss[k].ls)->sumT ss<=32*ss.length
 | [],_=>by simp[sumT]
 |s::r,h=>by
  have h0:=h 0 (by simp);have h1:=z4n r (fun k hk=>h (k+1) (by simp;omega));have h2:=h0.2.1;have h3:=h0.2.2.1;simp at h2 h3
  simp only[sumT,aaU]
  omega
theorem z7i {D:Dr} (h:okD D=true):DrLe D:=by
 obtain⟨h1,h2,h3⟩:=kJ.1 h;obtain⟨h4,h5⟩:=Qb D.ss _ _ _ _ h1 h3;have h6:=z4n D.ss h5;have a1:=h1.2.1;have a2:=h1.2.2.1;have a3:=h4.2.1;have a4:=h4.2.2.1;exact⟨by omega,by omega,by omega,by omega,by omega,fun k hk=>by have:=(h5 k hk).2.1;have:=(h5 k hk).2.2.1;omega,by omega⟩
theorem z7V {D:Dr} (h:okD D=true):zC D.nn D.nl:=by
 obtain⟨h1,h2,h3⟩:=kJ.1 h;exact(Qb D.ss _ _ _ _ h1 h3).1
theorem z46 {ns ls:List Pr} (h:zC ns ls):okD ⟨ns,ls,ns,ls,[]⟩=true:=by
 rw[kJ];exact⟨h,by simp,by rw[qL,vB];exact⟨rfl,rfl⟩⟩
theorem z7g (n:Nat):natI (List.replicate n 0)=List.replicate n 0:=by simp[natI]
theorem z1k (l:List Nat) (a x:Nat):natI (l.set a x)=(natI l).set a (x:Int):=by simp[natI,List.map_set]
theorem z3A {s:List Int} {F k:Nat} (h:s.getD (2*k) 0=s.getD (2*k+1) 0):jg s F (k+1)=jg s F k:=by simp only[jg];rw[aao h]
theorem z3h {s:List Int} {F k a b:Nat} (ha:s.getD (2*k) 0=(a:Int)) (hb:s.getD (2*k+1) 0=(b:Int)) (h:a≠b):jg s F (k+1)=setN (setN (jg s F k) a b) b a:=by
 simp only[jg];rw[aaq o_,ha,hb,aa5,aa5]
theorem Xj (vn vl:Value) (ns ls:List Pr) (w:World) (hn:RP w vn ns) (hl:RP w vl ls) (hw:ze ns ls=true):
  Calls Tryz.prog 254 #[.agg #[vn,vl]] w (RetI (natI (qZ ns ls)) w):=by
 have Hg:Below w.heap.size w (w.alloc (.cells #[vn,vl] 27)):=bel_
 have gy:Blk (w.alloc (.cells #[vn,vl] 27)) w.heap.size 27 #[vn,vl]:=Blk.newAt rfl;obtain⟨i0,hi,iz0,iz1,iz2⟩:=info_parts qu;have CB:=ym hw;have GD:=(zM hw).1.2.2.1;have fc:=zJ ns ls;have CO:=zW hw;have bH:=h_ (fun d (hd:d<2*ls.length)=>kh (ns:=ns) (ls:=ls) CB hd);have BY:=h_ (vp ns ls);have HSI:Hid (kK ns ls=zN ns ls):=h_ (by unfold kK;rw[hw];rfl);have HR:Hid (qZ ns ls=jg (zN ns ls) (z9 ns ls).length ls.length):=h_ (by unfold qZ;rw[CO])
 have FZ:Hid (∀k,k<=ls.length->∀f,f<(z9 ns ls).length ->(jg (zN ns ls) (z9 ns ls).length k).getD f 0<2^(z9 ns ls).length):=h_ (fun k hk f hf=>VC _ _ k (fun j hj=>by
  obtain⟨p,h1,h2⟩:=kh (ns:=ns) (ls:=ls) CB (d:=j) o_;rw[h1];omega) f hf)
 have Wk:=h_ (fun k=>jU (zN ns ls) (z9 ns ls).length k);have cI:=h_ (fun k h=>z3A (s:=zN ns ls) (F:=(z9 ns ls).length) (k:=k) h);have HDI:=h_ (fun k a b ha hb h=>z3h (s:=zN ns ls) (F:=(z9 ns ls).length) (k:=k) (a:=a) (b:=b) ha hb h);have HZ:Hid (jg (zN ns ls) (z9 ns ls).length 0=List.replicate (z9 ns ls).length 0):=h_ rfl
 go_enter Tryz.func254,Tryz.ntmps254
 go_wp2_with fail
 refine(JF _ _ ns ls _ (hn.below Hg) (hl.below Hg)).mono ?_
 rw[HSI.out];rintro e w1 ⟨v1,rfl,Hi,h9⟩;have h8:=Hg.trans (h9.mono Hg.size);have Hz:=gy.below h9 gy.lt;have FQ:=Hi.reads;obtain⟨a_0,a_1⟩:=Hz.c2;have Ht:=Hz.lt
 go_wp2_with fail
 refine(jK _ _ ns ls _ (hn.below h8) (hl.below h8)).mono ?_
 rintro e w2 ⟨v2,rfl,Hk,Hd⟩;have Ha:=h8.trans (Hd.mono h8.size);have F6:=FQ.below Hd;have Gh:w.heap.size<w2.heap.size:=aaD Ht Hd.size;obtain⟨A2,c2,rfl⟩:=Hk.form;obtain⟨As,cS,rfl,fU,YW,GR⟩:=F6.form;rw[BY.out] at GR⊢;generalize (z9 ns ls).length =F at*;generalize zN ns ls=s at*
 go_wp2_with (at_make;refine wpList_make_full _ rfl _ _ 31 rfl (w.heap.size+1) 3 i0 (.int .i64 0) 1 Tryz.underlying31 hi iz0 iz1 .i64 .i64 _ _ F rfl rfl rfl rfl (by rw[iz2];omega) (by unfold maxLen;omega) o_ ?_)
 intro w3 gY gL;have GO:Below w2.heap.size w2 w3:=(aaj _ _).grown gL (aaa _) (by intro k hk;cases hk)
 have G0:OwnI (w.heap.size+1) w3 (.slice (some ⟨w2.heap.size,0,none⟩) F F) (natI (jg s F 0)):=by
  rw[HZ.out,z7g];unfold OwnI;rw[aaC,<-z2l];exact gY
 have ud:=(OwnI.lt G0 _ rfl).2;obtain⟨gs,mK⟩:∃g,w2.heap.size=g:=⟨_,rfl⟩;rw[mK] at GO G0 ud Gh⊢;have NP:=h_ mK;go_wp2
 go_loopw [5] (fun x wr=>∃k:Nat,k<=ls.length/\x= .int .i64 k/\OwnI (w.heap.size+1) wr (.slice (some ⟨gs,0,none⟩) F F) (natI (jg s F k))/\Below gs w2 wr) (fun x _=>ls.length -(intOf x).toNat)
 case atStart=>exact⟨0,aab _,rfl,G0,GO⟩
 case round=>
  obtain⟨k,hk,rfl,ho,hB⟩:=hrel;have ew:IntKind.i64.wrap (2*(k:Int))=((2*k:Nat):Int):=by rw[show 2*(k:Int)=((2*k:Nat):Int) by omega];exact aaP _ o_
  by_cases Hf:k<ls.length
  ·obtain⟨b,off,rfl,hb,Gp⟩:=GR o_
   obtain⟨p,hp,Wl⟩:=bH.out (2*k) o_;obtain⟨q,hq,Wm⟩:=bH.out (2*k+1) o_;rw[NP.out] at hb;have FE:=(hB.cell (p:=⟨b,off+2*k,none⟩) hb).trans (Gp (2*k) o_);have CY:=(hB.cell (p:=⟨b,off+(2*k+1),none⟩) hb).trans (Gp (2*k+1) o_);rw[hp] at FE;rw[hq] at CY;have uu:b<wr.heap.size:=by have:=hB.size;rw[NP.out] at this;omega
   have i4:(0:Int)<=(p:Int):=o_
   have i5:(p:Int)<(F:Int):=o_
   have i6:(0:Int)<=(q:Int):=o_
   have i7:(q:Int)<(F:Int):=o_
   have MZ:=h_ (cI.out k);have uv:=h_ (HDI.out k p q hp hq);rw[hp,hq] at MZ;have hgl:=(OwnI.lt ho gs rfl).2
   by_cases fZ:p=q
   ·have e1:((p:Int)==(q:Int))=true:=beq_iff_eq.2 o_
    have e2:((p:Int) != (q:Int))=false:=by rw[bne,e1];rfl
    have HX:=h_ (MZ.out o_)
    go_wp2_with fail
    (refine z7 k_ k_ (fun hG=>?_))
    repeat (go_big_quiet_step (fail))
    refine wpQuiet_nil ?_
    rintro w5 ⟨⟨_,G1⟩,rfl⟩;have HO:=h_ (show OwnI (w.heap.size+1) w5 (.slice (some ⟨gs,0,none⟩) F F) (natI (jg s F (k+1))) by rw[HX.out];exact ho.kept G1);have HB:=h_ (hB.trans (G1.mono o_));go_wp2;go_roundw
    case rel=>exact⟨k+1,by omega,by go_num,HO.out,HB.out⟩
    case measure=>simp[intOf];omega
   ·have e1:((p:Int)==(q:Int))=false:=beq_eq_false_iff_ne.2 o_
    have e2:((p:Int) != (q:Int))=true:=by rw[bne,e1];rfl
    have HX:=h_ (uv.out fZ);have hF62:(2:Nat)^F<=2^40:=aaE o_ o_;have hLp:=FZ.out k hk p Wl;have hLq:=FZ.out k hk q Wm;have mx:=Wk.out k;generalize jg s F k=L at*;have xp:=shl64 (k:=p) o_;have xq:=shl64 (k:=q) o_;have Pp:2^p<2^40:=aa3 o_ o_;have Pq:2^q<2^40:=aa3 o_ o_;have o1:=yP (a:=L.getD p 0) (b:=2^q) o_ o_;have o2:=yP (a:=L.getD q 0) (b:=2^p) o_ o_;have hq64:q<64:=o_
    have hp64:p<64:=o_
    have HGQ:Hid ((setN L p q).getD q 0=L.getD q 0):=h_ (by rw[Vf o_,aaq (fun e=>fZ e.symm)])
    go_wp2_with fail
    (refine z7 k_ k_ (fun hG=>?_))
    repeat (go_big_quiet_step (fail))
    refine wpQuiet_nil ?_
    rintro w5 ⟨⟨_,G1⟩,rfl⟩;have fG:=ho.kept G1;have fg:=hB.trans (G1.mono o_)
    have nG:w5.cell? ⟨gs,p,none⟩=some (.int .i64 (L.getD p 0:Nat)):=by
     rw[OwnE.cell (t:=3) (enc:=vI) fG 0 (q:=p) (by rw[za,mx];exact Wl),qs];rfl
    have fp:=OwnE.frz (t:=3) (enc:=vI) fG p;have GW:Hid (OwnI (w.heap.size+1) (w5.setCell ⟨gs,p,none⟩ (.int .i64 ((L.getD p 0 ||| 2^q:Nat):Int))) (.slice (some ⟨gs,0,none⟩) F F) (natI (setN L p q))):=h_ (by unfold setN;rw[z1k];exact kA fG p _);have be:=h_ (fg.setCell (p:=⟨gs,p,none⟩) (aaa _) (.int .i64 ((L.getD p 0 ||| 2^q:Nat):Int)));generalize GQ:L.getD p 0 ||| 2^q=O1 at*
    generalize hP2:((2^q:Nat):Int)=Q2 at*;generalize L.getD p 0=lp at*
    go_wp2_with fail
    go_cut [] (fun wx=>OwnI (w.heap.size+1) wx (.slice (some ⟨gs,0,none⟩) F F) (natI (setN L p q))/\Below gs w2 wx)
    case first=>
     go_region
     all_goals go_wp2
     all_goals go_meet
     all_goals exact⟨GW.out,be.out.drew⟩
    case rest=>
     obtain⟨G2,mA⟩:=hcut;obtain⟨w6,F4⟩:∃u,u=wc:=⟨_,rfl⟩;subst F4
     have mC:w6.cell? ⟨gs,q,none⟩=some (.int .i64 (L.getD q 0:Nat)):=by
      rw[OwnE.cell (t:=3) (enc:=vI) G2 0 (q:=q) (by rw[za,z9p,mx];exact Wm),qs,HGQ.out];rfl
     have fq:=OwnE.frz (t:=3) (enc:=vI) G2 q;have gU:Hid (OwnI (w.heap.size+1) (w6.setCell ⟨gs,q,none⟩ (.int .i64 ((L.getD q 0 ||| 2^p:Nat):Int))) (.slice (some ⟨gs,0,none⟩) F F) (natI (jg s F (k+1)))):=h_ (by rw[HX.out];unfold setN;rw[z1k,show(L.set p (L.getD p 0 ||| 2^q)).getD q 0=L.getD q 0 from HGQ.out];exact kA G2 q _);have cV:=h_ (mA.setCell (p:=⟨gs,q,none⟩) (aaa _) (.int .i64 ((L.getD q 0 ||| 2^p:Nat):Int)));generalize Ca:L.getD q 0 ||| 2^p=O2 at*
     generalize hP3:((2^p:Nat):Int)=P2 at*;generalize L.getD q 0=lq at*
     go_wp2_with fail
     go_region
     all_goals go_wp2
     all_goals go_roundw
     case rel=>exact⟨k+1,by omega,by go_num,gU.out,cV.out.drew⟩
     case measure=>simp[intOf];omega
  ·have gi:k=ls.length:=o_
   subst gi;have HB:=h_ (Ha.trans (Below.mono (by rw[NP.out];exact hB) Ha.size));go_wp2;go_ret
   exact⟨_,rfl,by rw[HR.out];exact OwnI.mono ho o_,HB.out⟩
theorem VS (base f g cap:Nat) (lb:Array Value) (G:List Nat) (c:Nat->Nat->Int) (lt:Nat->Nat->Bool) (w:World) (hc:ZM f lb G c (some g) w) (Hf:∀d e,decide (c d e<0)=lt d e)
  (ho:OwnI base w (.slice (some ⟨g,0,none⟩) G.length cap) (natI G)) (mJ:G.length<=40) (ef:Enters Tryz.prog f):
  Calls Tryz.prog 246 #[.slice (some ⟨g,0,none⟩) G.length cap,.int .i64 0,.int .i64 G.length,.func (.func f) #[] lb] w
   fun e w'=>e= .returned (.tuple #[])/\OwnI base w' (.slice (some ⟨g,0,none⟩) G.length cap) (natI (isoK lt G G.length))/\w.grownBy w' (some g):=by
 go_enter Tryz.func246,Tryz.ntmps246
 go_wp2
 go_loopw [8] (fun x wr=>∃i:Nat,1<=i/\(i<=G.length∨G.length=0)/\x= .int .i64 i/\OwnI base wr (.slice (some ⟨g,0,none⟩) G.length cap) (isoH lt G (min i G.length))/\w.grownBy wr (some g)) (fun x _=>G.length -(intOf x).toNat)
 case atStart=>
  refine⟨1,aaa _,by omega,rfl,?_,qW _ _⟩
  rcases abv G.length with h0|h0
  ·rw[h0,show min 1 0=0 from rfl,Z8];rw[h0] at ho;exact ho
  ·rw[show min 1 G.length=1 by omega,z23 lt G h0];exact ho
 case round=>
  obtain⟨i,ct,Cq,rfl,Hk,hg⟩:=hrel;have EF:=h_ ef;clear ho ef
  by_cases Gi:i<G.length
  ·rw[show min i G.length=i by omega,<-Qo lt G i Gi] at Hk
   have HE:=h_ (Vb lt G i Gi);have nN:G.getD i 0=G[i]:=by simp[List.getD,Gi]
   have U3:G.getD i 0∈G:=by rw[nN];exact abg Gi
   have HKL:=h_ (jx lt G i o_);have HKM:=h_ (fun e h=>Vc lt G e i o_ h);rw[<-nN] at HE;have nO:=h_ (fun p hp=>XI lt G i p Gi hp);have Gq:=h_ (fun p hp=>Vu lt G i p Gi hp);have Rg:=h_ (fun p hp=>Xq lt G i p Gi hp);have Nn:=h_ (fun p hp=>z2j lt G i p Gi hp);clear nN;generalize hD:G.getD i 0=D at*;clear hD;go_wp2
   go_loopw [9] (fun x wr2=>∃p:Nat,p<=i/\x= .int .i64 p/\OwnI base wr2 (.slice (some ⟨g,0,none⟩) G.length cap) (isoR lt G i p)/\w.grownBy wr2 (some g)/\Hid (posN (lt D) (isoK lt G i) i=posN (lt D) (isoK lt G i) p)) (fun x _=>(intOf x).toNat)
   case atStart=>exact⟨i,aaa _,rfl,Hk,hg,h_ rfl⟩
   case round=>
    clear Hk hg;obtain⟨p,hp,rfl,Hk,hg,HP⟩:=hrel
    by_cases m9:0<p
    ·obtain⟨r,rfl⟩:∃r,p=r+1:=⟨p -1,by omega⟩
     have mv:r<i:=o_
     have xs:=Hk.cell (q:=r+1) (by rw[Nn.out _ hp];omega);have xb:=Hk.cell (q:=r) (by rw[Nn.out _ hp];omega);rw[nO.out _ hp] at xs;rw[Gq.out r mv] at xb;have F3:(isoK lt G i).getD r 0∈G:=HKM.out _ (by rw[List.getD,aac (by rw[HKL.out];exact mv)];exact abg _);have mq:Hid (posN (lt D) (isoK lt G i) (r+1)=if lt D ((isoK lt G i).getD r 0) then posN (lt D) (isoK lt G i) r else r+1):=h_ rfl;have HS:=h_ (Rg.out r mv);have ft:=Hf D ((isoK lt G i).getD r 0);have Rh:=fun v (hv:w.grownBy v (some g))=>hc v D ((isoK lt G i).getD r 0) U3 F3 hv
     generalize (isoK lt G i).getD r 0=e at*;rw[<-ft] at mq;generalize c D e=z at*;have HC:=h_ Rh;clear Rh ft F3;have ir1:(0:Int)<=(r:Int):=o_
     have ir2:(r:Int)<(G.length:Int):=o_
     have ir3:((r+1:Nat):Int)<(G.length:Int):=o_
     have mK:=(Hk.lt g rfl).2;clear hc Hf;have hef:∀(args:Array Value) (w:World),(callFunc f args).run Tryz.prog w= .ok (.enter f args) w:=EF.out
     go_wp2_with fail
     (refine z7 k_ k_ (fun hG=>?_))
     repeat (go_big_quiet_step ((go_at_fn f;exact zI (HC.out _ (z9S hg (Grw.below _))))))
     refine wpQuiet_nil ?_
     clear hG;rintro w3 ⟨⟨_,He⟩,rfl⟩;have Hm:=Hk.kept He;have gn:=z9S hg He;have g0:=Hm.frz r;have g1:=Hm.frz (r+1);have ys:=Hm.cell (q:=r+1) (by rw[Nn.out _ hp];omega);rw[nO.out _ hp] at ys
     have yb':w3.cell? ⟨g,r,none⟩=some (.int .i64 e):=by
      have:=(He.cell (p:=⟨g,r,none⟩) mK).trans xb;exact this
     clear xs xb hg He hef
     by_cases hz:z<0
     ·have e1:decide (z<0)=true:=by simp[hz]
      have HO:=h_ (show OwnI base ((w3.setCell ⟨g,r+1,none⟩ (.int .i64 e)).setCell ⟨g,r,none⟩ (.int .i64 D)) (.slice (some ⟨g,0,none⟩) G.length cap) (isoR lt G i r) by
       rw[<-HS.out];exact(Hm.set_ (r+1) _).set_ r _)
      have HG:=h_ (qU (qU gn (r+1) (.int .i64 e)) r (.int .i64 D));have Fd:Hid (posN (lt D) (isoK lt G i) i=posN (lt D) (isoK lt G i) r):=h_ (by rw[HP.out,mq.out,aao e1]);clear Hk Hm gn
      go_wp2_with fail
      go_region
      all_goals go_wp2
      all_goals go_roundw
      case rel=>exact⟨r,by omega,by go_num,HO.out,Ji HG.out,Fd⟩
      case measure=>simp[intOf]
     ·have e1:decide (z<0)=false:=by simp[hz]
      have Fd:Hid (posN (lt D) (isoK lt G i) i=r+1):=h_ (by rw[HP.out,mq.out,e1];rfl);have HO:Hid (OwnI base w3 (.slice (some ⟨g,0,none⟩) G.length cap) (isoH lt G (i+1))):=h_ (by rw[<-HE.out,Fd.out];exact Hm);clear Hk Hm;go_wp2;go_roundw
      case rel=>exact⟨i+1,by omega,by omega,by go_num,by rw[show min (i+1) G.length=i+1 by omega];exact HO.out,gn⟩
      case measure=>simp[intOf];omega
    ·have BG:p=0:=o_
     subst BG;have Fd:Hid (posN (lt D) (isoK lt G i) i=0):=h_ HP.out;have HO:Hid (OwnI base wr (.slice (some ⟨g,0,none⟩) G.length cap) (isoH lt G (i+1))):=h_ (by rw[<-HE.out,Fd.out];exact Hk);clear Hk hc Hf m9
     go_wp2_with fail
     (refine z7 k_ k_ (fun hG=>?_))
     repeat (go_big_quiet_step (fail))
     refine wpQuiet_nil ?_
     clear hG;rintro w3 ⟨⟨_,He⟩,rfl⟩;have Hm:=HO.out.kept He;have gn:=z9S hg He;go_wp2;go_roundw
     case rel=>exact⟨i+1,by omega,by omega,by go_num,by rw[show min (i+1) G.length=i+1 by omega];exact Hm,gn⟩
     case measure=>simp[intOf];omega
  ·have HO:Hid (OwnI base wr (.slice (some ⟨g,0,none⟩) G.length cap) (natI (isoK lt G G.length))):=h_ (by
    rw[show min i G.length=G.length by omega,z1W] at Hk;exact Hk)
   clear hc Hf Hk;go_wp2
   go_end0
   exact⟨rfl,HO.out,hg⟩
theorem z3t (base f g cap:Nat) (lb:Array Value) (G:List Nat) (c:Nat->Nat->Int) (lt:Nat->Nat->Bool) (w:World) (hc:ZM f lb G c (some g) w) (Hf:∀d e,decide (c d e<0)=lt d e)
  (ho:OwnI base w (.slice (some ⟨g,0,none⟩) G.length cap) (natI G)) (YX:G.length<20) (ef:Enters Tryz.prog f):
  Calls Tryz.prog 210 #[.slice (some ⟨g,0,none⟩) G.length cap,.int .i64 G.length,.func (.func f) #[] lb] w
   fun e w'=>e= .returned (.tuple #[])/\OwnI base w' (.slice (some ⟨g,0,none⟩) G.length cap) (natI (isoK lt G G.length))/\w.grownBy w' (some g):=by
 go_enter Tryz.func210,Tryz.ntmps210
 go_wp2;refine wp_loop_rounds 1 ?_
 rw[rounds_succ]
 go_wp2_with fail
 refine(VS base f g cap lb G c lt _ hc Hf ho o_ ef).mono ?_
 rintro e w1 ⟨rfl,Hi,gD⟩;go_wp2;refine wp_loop_rounds 1 ?_
 rw[rounds_succ];go_wp2
 go_end0
 exact⟨rfl,Hi,gD⟩
theorem Vy (base f g cap:Nat) (lb:Array Value) (G:List Nat) (c:Nat->Nat->Int) (lt:Nat->Nat->Bool) (w:World) (hc:ZM f lb G c (some g) w) (Hf:∀d e,decide (c d e<0)=lt d e)
  (ho:OwnI base w (.slice (some ⟨g,0,none⟩) G.length cap) (natI G)) (YX:G.length<20) (ef:Enters Tryz.prog f):
  Calls Tryz.prog 150 #[.slice (some ⟨g,0,none⟩) G.length cap,.func (.func f) #[] lb] w
   fun e w'=>e= .returned (.tuple #[])/\OwnI base w' (.slice (some ⟨g,0,none⟩) G.length cap) (natI (isoK lt G G.length))/\w.grownBy w' (some g):=by
 go_enter Tryz.func150,Tryz.ntmps150
 go_wp2_with fail
 refine(z3t base f g cap lb G c lt _ hc Hf ho YX ef).mono ?_
 rintro e w1 ⟨rfl,Hi,gD⟩;go_wp2
 go_end0
 exact⟨rfl,Hi,gD⟩
theorem JL (f:Nat) (lb:Array Value) (w:World):
  Calls Tryz.prog 150 #[.slice none 0 0,.func (.func f) #[] lb] w
   fun e w'=>e= .returned (.tuple #[])/\Below w.heap.size w w':=by
 go_enter Tryz.func150,Tryz.ntmps150
 go_wp2_with fail
 refine Calls.mono (R:=fun e w'=>e= .returned (.tuple #[])/\Below w.heap.size w w') ?_ ?_
 ·go_enter Tryz.func210,Tryz.ntmps210
  go_wp2;refine wp_loop_rounds 1 ?_
  rw[rounds_succ]
  go_wp2_with fail
  refine(ZH f lb _).mono ?_
  rintro e w1 ⟨rfl,h9⟩;go_wp2;refine wp_loop_rounds 1 ?_
  rw[rounds_succ];go_wp2
  go_end0
  exact⟨rfl,h9⟩
 ·rintro e w1 ⟨rfl,h9⟩
  go_wp2
  go_end0
  exact⟨rfl,h9⟩
end Go.Proofs.YtnjcpljhmhdhkaaGreat
