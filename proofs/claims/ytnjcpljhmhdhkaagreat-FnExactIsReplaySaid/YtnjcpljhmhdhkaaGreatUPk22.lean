/- part 22 -/
import Derived.Test.YtnjcpljhmhdhkaaGreatUPk19
import Derived.Test.YtnjcpljhmhdhkaaGreatUPk20
set_option linter.unusedSimpArgs false
set_option linter.unusedVariables false
set_option maxRecDepth 100000
set_option maxHeartbeats 16000000
namespace Go.Proofs.YtnjcpljhmhdhkaaGreat
open Go.RowKit
noncomputable def j6 (D:Dr):Dr:=z2C (okD D) D
noncomputable def qQ (D:Dr):Bool:=z2g (okD D) D
theorem yX {D:Dr} (h:okD D=false∨D.ss.length=0):j6 D=D/\qQ D=false:=by
 have hn:¬(okD D=true/\0<D.ss.length):=by
  rcases h with h|h
  ·rw[h];simp
  ·omega
 refine⟨z8g hn,?_⟩
 unfold qQ z2g
 rcases h with h|h
 ·rw[h];rfl
 ·rw[h];simp
theorem xh {D:Dr} {k:Nat} (h:okD D=true) (hk:D.ss.length=k+1) (s:Sp) (hs:D.ss[k]? =some s):j6 D=⟨D.fn,D.fl,s.ns,s.ls,D.ss.take k⟩/\qQ D=true:=by
 have hp:0<D.ss.length:=o_
 obtain⟨Gj,Fw⟩:=List.getElem?_eq_some_iff.1 hs
 constructor
 ·unfold j6
  rw[h,z7i hp];have e:D.ss.length -1=k:=o_
  simp only[e,Fw]
 ·unfold qQ z2g
  rw[h,aaR hp];rfl
theorem Qo (D:Dr) (h:DrLe D):cntD (j6 D)<=20000000:=by
 by_cases hc:okD D=true/\0<D.ss.length
 ·obtain⟨h1,h2⟩:=hc
  obtain⟨k,hk⟩:∃k,D.ss.length=k+1:=⟨D.ss.length -1,by omega⟩;have bj:k<D.ss.length:=o_
  rw[(xh h1 hk D.ss[k] (aac bj)).1];have e:cntD (⟨D.fn,D.fl,D.ss[k].ns,D.ss[k].ls,D.ss.take k⟩:Dr)=2*D.fn.length+2*D.fl.length+2*D.ss[k].ns.length +2*D.ss[k].ls.length +cntS (D.ss.take k):=rfl
  have hsplit:cntS (D.ss.take k)<=cntS D.ss:=by
   have:∀(l:List Sp) (m:Nat),cntS (l.take m)<=cntS l:=by
    intro l
    induction l with
    |nil=>intro m;simp[cntS]
    |cons a r ih=>
     intro m
     cases m with
     |zero=>simp[cntS]
     |succ m=>have:=ih m;simp only[List.take_succ_cons,cntS];omega
   exact this _ _
  have:=z5Q D.ss;have:=h.fn;have:=h.fl;have:=h.ss;have:=h.sum;have:=h.ws k bj;omega
 ·rw[(yX (by
   cases hb:okD D with
   |false=>exact .inl rfl
   |true=>exact .inr (by
     have h3:¬0<D.ss.length:=fun h2=>hc ⟨hb,h2⟩
     omega))).1]
  exact h.cnt
theorem z6O {a b c d:Value} {g n c' k x:Nat} {fs:List SF} (hk:k<fs.length) (h:qn a b fs[k].2.1 fs[k].2.2 (.slice (some ⟨g,0,none⟩) k c') (fs.take k) x):qn a b c d (.slice (some ⟨g,0,none⟩) n c') fs x:=by
 rcases h with h|h|h
 ·exact .inl h
 ·exact .inr (.inr (.inr ⟨k,hk,h⟩))
 ·exact .inr (.inr (k7 h))
theorem z1J (v0 v1 v2 v3 v4:Value) (D:Dr) (w:World) (h:RD w v0 v1 v2 v3 v4 D) (hle:DrLe D):
  Calls Tryz.prog 117 #[.agg #[v0,v1,v2,v3,v4]] w (z5F (j6 D) (qQ D) w):=by
 obtain⟨r,hr⟩:∃r,okD D=r:=⟨_,rfl⟩;have HR:=h_ hr;have gi:=h_ hle;obtain⟨B4,d4,ev4,_⟩:=h.ss;subst ev4;obtain⟨E,hE⟩:∃E,j6 D=E:=⟨_,rfl⟩;obtain⟨bb,gc⟩:∃bb,qQ D=bb:=⟨_,rfl⟩;rw[hE,gc];have HE:=h_ hE;have gm:=h_ gc;clear hle hE gc
 go_enter Tryz.func117,Tryz.ntmps117
 go_wp2_with fail
 refine(Za _ _ _ _ _ D _ (h.below bel_) gi.out).mono ?_
 rintro e w1 ⟨A0,c0,A1,c1,A2,c2,A3,c3,A4,c4,fs,rfl,Hj,h9⟩;have gh:Blk w1 w.heap.size 30 #[v0,v1,v2,v3,(.slice B4 D.ss.length d4)]:=Blk.below ((Blk.newAt rfl).alloc _) h9 sz_;have gu:Blk w1 (w.heap.size+1) 30 z5_:=Blk.below (Blk.newAt (by simp)) h9 sz_;have h8:Below w.heap.size w w1:=bel_
 have Gi:OwnD (w.heap.size+1+1) w1 (.slice A0 D.fn.length c0) (.slice A1 D.fl.length c1) (.slice A2 D.nn.length c2) (.slice A3 D.nl.length c3) (.slice A4 D.ss.length c4) D fs:=by simpa using Hj
 have gB:=h_ (OutSt.start Gi (aaa _) gh gu h8);obtain⟨x_0,x_1,x_2,x_3,x_4⟩:=gh.c5;have fi:=gh.lt;clear Hj h9 Gi
 go_wp2_with fail
 obtain⟨w2,gS⟩:∃w2,w2=w1.alloc (.cells #[.slice A0 D.fn.length c0,.slice A1 D.fl.length c1,.slice A2 D.nn.length c2,.slice A3 D.nl.length c3,.slice A4 D.ss.length c4] 30):=⟨_,rfl⟩;rw[<-gS] at gB⊢;generalize w1.heap.size=Z at*;clear gS gh gu h8 x_0 x_1 x_2 x_3 x_4 fi;refine(z1w _ _ _ _ _ D r _ (h.below gB.out.blw) HR).mono ?_
 rintro e w3 ⟨rfl,Hf⟩;have gd:=h_ (gB.out.below Hf);clear Hf gB;have gU:=gd.out.X;have cZ:=gd.out.Z_;obtain⟨x_0,x_1,x_2,x_3,x_4⟩:=gU.c5
 cases r
 ·obtain⟨u1,u2⟩:=yX (D:=D) (.inl hr)
  have hu:D=E:=by rw[<-HE.out];exact u1.symm
  have hv:false=bb:=by rw[<-gm.out];exact u2.symm
  subst hu;subst hv;have HF:=gd;clear gd HE gm hr u1 u2;obtain⟨_,_,hR,hZ,Ga,_,_⟩:=HF.out;obtain⟨z_0,z_1,z_2,z_3,z_4⟩:=hZ.c5;obtain⟨r_0,r_1,r_2,r_3,r_4,r_f0,r_f1,r_f2,r_f3,r_f4⟩:=hR.b5;have Hl:=hR.lt;have Hy:=h_ (fun u0 u1 u2 u3 u4=>HF.out.fin u0 u1 u2 u3 u4);clear hR hZ HF;go_wp2;exact bodyPost_ret (v:= .tuple #[.agg #[.slice A0 D.fn.length c0,.slice A1 D.fl.length c1,.slice A2 D.nn.length c2,.slice A3 D.nl.length c3,.slice A4 D.ss.length c4],.bool false]) (by simp[results,Tryz.results117,go_sem,r_0,r_1,r_2,r_3,r_4,Hl]) rfl ⟨_,_,_,_,_,_,_,_,_,_,_,rfl,(Hy.out _ _ _ _ _).1,(Hy.out _ _ _ _ _).2⟩
 ·by_cases fH:D.ss.length=0
  ·obtain⟨u1,u2⟩:=yX (D:=D) (.inr fH)
   have hu:D=E:=by rw[<-HE.out];exact u1.symm
   have hv:false=bb:=by rw[<-gm.out];exact u2.symm
   subst hu;subst hv;have HF:=gd;clear gd HE gm hr u1 u2;obtain⟨_,_,hR,hZ,Ga,_,_⟩:=HF.out;obtain⟨z_0,z_1,z_2,z_3,z_4⟩:=hZ.c5;obtain⟨r_0,r_1,r_2,r_3,r_4,r_f0,r_f1,r_f2,r_f3,r_f4⟩:=hR.b5;have Hl:=hR.lt;have Hy:=h_ (fun u0 u1 u2 u3 u4=>HF.out.fin u0 u1 u2 u3 u4);clear hR hZ HF;go_wp2;exact bodyPost_ret (v:= .tuple #[.agg #[.slice A0 D.fn.length c0,.slice A1 D.fl.length c1,.slice A2 D.nn.length c2,.slice A3 D.nl.length c3,.slice A4 D.ss.length c4],.bool false]) (by simp[results,Tryz.results117,go_sem,r_0,r_1,r_2,r_3,r_4,Hl,fH]) rfl ⟨_,_,_,_,_,_,_,_,_,_,_,rfl,(Hy.out _ _ _ _ _).1,(Hy.out _ _ _ _ _).2⟩
  ·obtain⟨k,hk⟩:∃k,D.ss.length=k+1:=⟨D.ss.length -1,by omega⟩
   have bj:k<D.ss.length:=o_
   have hm:=congrArg List.length gd.out.own.map;simp at hm
   have Y8:k<fs.length:=o_
   obtain⟨g,hg,hgl,bP⟩:=gd.out.own.ss.addr o_;subst hg
   have hfk:fs[k].1=D.ss[k]:=by
    have h1:=gd.out.own.map;have h2:(fs.map Prod.fst)[k]'(by simpa using Y8)=D.ss[k]:=by simp only[h1]
    simpa using h2
   obtain⟨u1,u2⟩:=xh hr hk D.ss[k] (aac bj);have hu:E=⟨D.fn,D.fl,D.ss[k].ns,D.ss[k].ls,D.ss.take k⟩:=by rw[<-HE.out];exact u1
   have hv:true=bb:=by rw[<-gm.out];exact u2.symm
   subst hu;subst hv;clear HE gm u1 u2 hr;have e1:(D.ss.length:Int) -1=(k:Int):=o_
   have k0:(0:Int)<=(k:Int):=o_
   have k1:(k:Int)<(D.ss.length:Int):=o_
   have k2:(k:Int)<=(c4:Int):=o_
   have Ma:((D.ss.length:Int)==0)=false:=beq_eq_false_iff_ne.2 o_;have hkm:k<1048576:=by have:=gi.out.ss;omega
   have hwk:IntKind.i64.wrap (k:Int)=(k:Int):=aaQ _ o_;have m7:=gd.out.lt;have nX:w.heap.size≠Z:=o_
   have nR:w.heap.size+1≠Z:=o_
   have nB:w.heap.size<=Z:=o_
   have Yr:(D.ss.take k).length =k:=by simp;omega
   have Hn:=gd.out.own.ss.win k Y8;obtain⟨An,cn,en⟩:=Hn.1.form;obtain⟨Al,cl,el⟩:=Hn.2.1.form;have Hk:=gd.out.own.ss.row;have bv:k*5+3<D.ss.length*5:=o_
   have F7:k*5+4<D.ss.length*5:=o_
   rw[<-hgl] at Hk;have q3:=Hk.cellAt (k*5+3) bv;have q4:=Hk.cellAt (k*5+4) F7;rw[qi sfc 5 (fun _=>rfl) _ k _ Y8 o_] at q3 q4;simp only[sfc,aag,aah] at q3 q4
   have hN:=gd.out.own.popNow Y8;have Gh:¬qn (.slice A0 D.fn.length c0) (.slice A1 D.fl.length c1) fs[k].2.1 fs[k].2.2 (.slice (some ⟨g,0,none⟩) k c4) (fs.take k) Z:=fun hz=>gd.out.far (z6O Y8 hz)
   rw[hfk] at hN;rw[hfk] at en;rw[hfk] at el;rw[en,el] at hN Gh;rw[en] at q3;rw[el] at q4;obtain⟨w5,GH⟩:∃w5,w5=((w3.setCell ⟨Z,2,none⟩ (.slice An D.ss[k].ns.length cn)).setCell ⟨Z,3,none⟩ (.slice Al D.ss[k].ls.length cl)).setCell ⟨Z,4,none⟩ (.slice (some ⟨g,0,none⟩) k c4):=⟨_,rfl⟩
   have HF:Hid (OutSt w v0 v1 v2 v3 (.slice B4 D.ss.length d4) Z (.slice A0 D.fn.length c0) (.slice A1 D.fl.length c1) (.slice An D.ss[k].ns.length cn) (.slice Al D.ss[k].ls.length cl) (.slice (some ⟨g,0,none⟩) k c4) ⟨D.fn,D.fl,D.ss[k].ns,D.ss[k].ls,D.ss.take k⟩ (fs.take k) w5):=h_
    (GH▸⟨((hN.setFar (p:=⟨Z,2,none⟩) Gh _).setFar (p:=⟨Z,3,none⟩) Gh _).setFar (p:=⟨Z,4,none⟩) Gh _,((gd.out.X.far (p:=⟨Z,2,none⟩) nX _).far (p:=⟨Z,3,none⟩) nX _).far (p:=⟨Z,4,none⟩) nX _,
     ((gd.out.R.far (p:=⟨Z,2,none⟩) nR _).far (p:=⟨Z,3,none⟩) nR _).far (p:=⟨Z,4,none⟩) nR _,((cZ.set_ 2 _).set_ 3 _).set_ 4 _,m7,Gh,((gd.out.blw.setCell (p:=⟨Z,2,none⟩) nB _).setCell (p:=⟨Z,3,none⟩) nB _).setCell (p:=⟨Z,4,none⟩) nB _⟩)
   obtain⟨z_0,z_1,z_2,z_3,z_4,z_f0,z_f1,z_f2,z_f3,z_f4⟩:=cZ.b5;have bB:=h_ Yr;generalize D.ss[k]=s at*;clear hN gd Hn Hk bv F7 en el hfk gU cZ hm hk hgl bP Yr Gh bj
   go_upto_region 7 with (fail)
   rw[<-GH];clear GH z_0 z_1 z_2 z_3 z_4 z_f0 z_f1 z_f2 z_f3 z_f4 q3 q4 x_0 x_1 x_2 x_3 x_4;obtain⟨_,_,hR,hZ,Ga,_,_⟩:=HF.out;obtain⟨z_0,z_1,z_2,z_3,z_4⟩:=hZ.c5;obtain⟨r_0,r_1,r_2,r_3,r_4,r_f0,r_f1,r_f2,r_f3,r_f4⟩:=hR.b5;have Hl:=hR.lt;have Hy:=h_ (fun u0 u1 u2 u3 u4=>HF.out.fin u0 u1 u2 u3 u4);clear hR hZ HF;go_wp2
   exact bodyPost_ret (v:= .tuple #[.agg #[.slice A0 D.fn.length c0,.slice A1 D.fl.length c1,.slice An s.ns.length cn,.slice Al s.ls.length cl,.slice (some ⟨g,0,none⟩) k c4],.bool true]) (by simp[results,Tryz.results117,go_sem,r_0,r_1,r_2,r_3,r_4,Hl]) rfl
    ⟨A0,c0,A1,c1,An,cn,Al,cl,some ⟨g,0,none⟩,c4,fs.take k,by simp only[bB.out],by simp only[bB.out];exact(Hy.out _ _ _ _ _).1,(Hy.out _ _ _ _ _).2⟩
theorem z1v (v0 v1 v2 v3 v4:Value) (D:Dr) (w:World) (h:RD w v0 v1 v2 v3 v4 D) (hle:DrLe D):
  Calls Tryz.prog 140 #[.agg #[v0,v1,v2,v3,v4]] w (z5F (j6 D) (qQ D) w):=by
 obtain⟨r,hr⟩:∃r,okD D=r:=⟨_,rfl⟩;have HR:=h_ hr;have gi:=h_ hle;obtain⟨B4,d4,ev4,_⟩:=h.ss;subst ev4;obtain⟨E,hE⟩:∃E,j6 D=E:=⟨_,rfl⟩;obtain⟨bb,gc⟩:∃bb,qQ D=bb:=⟨_,rfl⟩;rw[hE,gc];have HE:=h_ hE;have gm:=h_ gc;clear hle hE gc
 go_enter Tryz.func140,Tryz.ntmps140
 go_wp2_with fail
 refine(Zf _ _ _ _ _ D _ (h.below bel_) gi.out).mono ?_
 rintro e w1 ⟨A0,c0,A1,c1,A2,c2,A3,c3,A4,c4,fs,rfl,Hj,h9⟩;have gh:Blk w1 w.heap.size 30 #[v0,v1,v2,v3,(.slice B4 D.ss.length d4)]:=Blk.below ((Blk.newAt rfl).alloc _) h9 sz_;have gu:Blk w1 (w.heap.size+1) 30 z5_:=Blk.below (Blk.newAt (by simp)) h9 sz_;have h8:Below w.heap.size w w1:=bel_
 have Gi:OwnD (w.heap.size+1+1) w1 (.slice A0 D.fn.length c0) (.slice A1 D.fl.length c1) (.slice A2 D.nn.length c2) (.slice A3 D.nl.length c3) (.slice A4 D.ss.length c4) D fs:=by simpa using Hj
 have gB:=h_ (OutSt.start Gi (aaa _) gh gu h8);obtain⟨x_0,x_1,x_2,x_3,x_4⟩:=gh.c5;have fi:=gh.lt;clear Hj h9 Gi
 go_wp2_with fail
 obtain⟨w2,gS⟩:∃w2,w2=w1.alloc (.cells #[.slice A0 D.fn.length c0,.slice A1 D.fl.length c1,.slice A2 D.nn.length c2,.slice A3 D.nl.length c3,.slice A4 D.ss.length c4] 30):=⟨_,rfl⟩;rw[<-gS] at gB⊢;generalize w1.heap.size=Z at*;clear gS gh gu h8 x_0 x_1 x_2 x_3 x_4 fi;refine(z2u _ _ _ _ _ D r _ (h.below gB.out.blw) HR).mono ?_
 rintro e w3 ⟨rfl,Hf⟩;have gd:=h_ (gB.out.below Hf);clear Hf gB;have gU:=gd.out.X;have cZ:=gd.out.Z_;have GK:=gd.out.R;obtain⟨x_0,x_1,x_2,x_3,x_4⟩:=gU.c5
 cases r
 ·obtain⟨u1,u2⟩:=yX (D:=D) (.inl hr)
  have hu:D=E:=by rw[<-HE.out];exact u1.symm
  have hv:false=bb:=by rw[<-gm.out];exact u2.symm
  subst hu;subst hv;have HF:=gd;clear gd HE gm hr u1 u2;obtain⟨_,_,hR,hZ,Ga,_,_⟩:=HF.out;obtain⟨z_0,z_1,z_2,z_3,z_4⟩:=hZ.c5;obtain⟨r_0,r_1,r_2,r_3,r_4,r_f0,r_f1,r_f2,r_f3,r_f4⟩:=hR.b5;have Hl:=hR.lt;have Hy:=h_ (fun u0 u1 u2 u3 u4=>HF.out.fin u0 u1 u2 u3 u4);clear hR hZ HF;go_wp2;exact bodyPost_ret (v:= .tuple #[.agg #[.slice A0 D.fn.length c0,.slice A1 D.fl.length c1,.slice A2 D.nn.length c2,.slice A3 D.nl.length c3,.slice A4 D.ss.length c4],.bool false]) (by simp[results,Tryz.results140,go_sem,r_0,r_1,r_2,r_3,r_4,Hl]) rfl ⟨_,_,_,_,_,_,_,_,_,_,_,rfl,(Hy.out _ _ _ _ _).1,(Hy.out _ _ _ _ _).2⟩
 ·by_cases fH:D.ss.length=0
  ·obtain⟨u1,u2⟩:=yX (D:=D) (.inr fH)
   have hu:D=E:=by rw[<-HE.out];exact u1.symm
   have hv:false=bb:=by rw[<-gm.out];exact u2.symm
   subst hu;subst hv;have HF:=gd;clear gd HE gm hr u1 u2;obtain⟨_,_,hR,hZ,Ga,_,_⟩:=HF.out;obtain⟨z_0,z_1,z_2,z_3,z_4⟩:=hZ.c5;obtain⟨r_0,r_1,r_2,r_3,r_4,r_f0,r_f1,r_f2,r_f3,r_f4⟩:=hR.b5;have Hl:=hR.lt;have Hy:=h_ (fun u0 u1 u2 u3 u4=>HF.out.fin u0 u1 u2 u3 u4);clear hR hZ HF;go_wp2;exact bodyPost_ret (v:= .tuple #[.agg #[.slice A0 D.fn.length c0,.slice A1 D.fl.length c1,.slice A2 D.nn.length c2,.slice A3 D.nl.length c3,.slice A4 D.ss.length c4],.bool false]) (by simp[results,Tryz.results140,go_sem,r_0,r_1,r_2,r_3,r_4,Hl,fH]) rfl ⟨_,_,_,_,_,_,_,_,_,_,_,rfl,(Hy.out _ _ _ _ _).1,(Hy.out _ _ _ _ _).2⟩
  ·obtain⟨k,hk⟩:∃k,D.ss.length=k+1:=⟨D.ss.length -1,by omega⟩
   have bj:k<D.ss.length:=o_
   have hm:=congrArg List.length gd.out.own.map;simp at hm
   have Y8:k<fs.length:=o_
   obtain⟨g,hg,hgl,bP⟩:=gd.out.own.ss.addr o_;subst hg
   have hfk:fs[k].1=D.ss[k]:=by
    have h1:=gd.out.own.map;have h2:(fs.map Prod.fst)[k]'(by simpa using Y8)=D.ss[k]:=by simp only[h1]
    simpa using h2
   obtain⟨u1,u2⟩:=xh hr hk D.ss[k] (aac bj);have hu:E=⟨D.fn,D.fl,D.ss[k].ns,D.ss[k].ls,D.ss.take k⟩:=by rw[<-HE.out];exact u1
   have hv:true=bb:=by rw[<-gm.out];exact u2.symm
   subst hu;subst hv;clear HE gm u1 u2 hr;have k0:(0:Int)<=(k:Int):=o_
   have k2:(k:Int)<=(c4:Int):=o_
   have hkm:k<1048576:=by have:=gi.out.ss;omega
   have hwk:IntKind.i64.wrap (k:Int)=(k:Int):=aaQ _ o_;have m7:=gd.out.lt;have nX:w.heap.size≠Z:=o_
   have nR:w.heap.size+1≠Z:=o_
   have nB:w.heap.size<=Z:=o_
   have Yr:(D.ss.take k).length =k:=by simp;omega
   obtain⟨B5,d5,ev5,_,_,hcell⟩:=h.ss
   cases ev5
   have hB:=hcell o_;obtain⟨b,off,rfl,hb,Ho⟩:=hB;obtain⟨_,_,_,vn,vl,k3,k4,hn,hl⟩:=Ho k bj;obtain⟨FY,gS⟩:=gi.out.ws k bj;obtain⟨Av,cv,ev,_⟩:=hn.form;obtain⟨Au,cu,eu,_⟩:=hl.form;subst ev eu;have Hb:=gd.out.blw;have q3:=(Hb.cell (p:=⟨b,off+k*5+3,none⟩) hb).trans k3;have q4:=(Hb.cell (p:=⟨b,off+k*5+4,none⟩) hb).trans k4;have FM:=hn.below Hb;have Gc:=hl.below Hb;have bB:=h_ Yr;clear Yr hfk;generalize D.ss[k]=s at*;clear k3 k4 Ho hcell hn hl Hb;have hZ3l:=cZ.lt
   go_wp2_with fail
   refine(qo _ _ s.ns s.ls _ FM Gc FY gS).mono ?_
   rintro e w4 ⟨An,cn,Al,cl,rfl,gF,Hv⟩;have gp:=gd.out.own.lt;have gZ:=gd.out.below Hv;have BW:=gZ.Z_;have Ci:=gF.lt;have H9:w.heap.size+1+1<=w3.heap.size:=by have:=GK.lt;omega
   have hnow:=gZ.own.newNow gF H9 (fun k hk gH=>by have:=(Ci k hk).1;have:=(gp k gH).2;omega);have hN:=hnow.takeN (k:=k) o_
   have Gh:¬qn (.slice A0 D.fn.length c0) (.slice A1 D.fl.length c1) (.slice An s.ns.length cn) (.slice Al s.ls.length cl) (.slice (some ⟨g,0,none⟩) k c4) (fs.take k) Z:=by
    rintro(hz|hz|hz)
    ·exact gZ.far (.inl hz)
    ·have:=(Ci _ hz).1;omega
    ·exact gZ.far (.inr (.inr (k7 hz)))
   obtain⟨w5,GH⟩:∃w5,w5=((w4.setCell ⟨Z,2,none⟩ (.slice An s.ns.length cn)).setCell ⟨Z,3,none⟩ (.slice Al s.ls.length cl)).setCell ⟨Z,4,none⟩ (.slice (some ⟨g,0,none⟩) k c4):=⟨_,rfl⟩
   have HF:Hid (OutSt w v0 v1 v2 v3 (.slice (some ⟨b,off,none⟩) D.ss.length d4) Z (.slice A0 D.fn.length c0) (.slice A1 D.fl.length c1) (.slice An s.ns.length cn) (.slice Al s.ls.length cl) (.slice (some ⟨g,0,none⟩) k c4) ⟨D.fn,D.fl,s.ns,s.ls,D.ss.take k⟩ (fs.take k) w5):=h_
    (GH▸⟨((hN.setFar (p:=⟨Z,2,none⟩) Gh _).setFar (p:=⟨Z,3,none⟩) Gh _).setFar (p:=⟨Z,4,none⟩) Gh _,((gZ.X.far (p:=⟨Z,2,none⟩) nX _).far (p:=⟨Z,3,none⟩) nX _).far (p:=⟨Z,4,none⟩) nX _,
     ((gZ.R.far (p:=⟨Z,2,none⟩) nR _).far (p:=⟨Z,3,none⟩) nR _).far (p:=⟨Z,4,none⟩) nR _,((BW.set_ 2 _).set_ 3 _).set_ 4 _,m7,Gh,((gZ.blw.setCell (p:=⟨Z,2,none⟩) nB _).setCell (p:=⟨Z,3,none⟩) nB _).setCell (p:=⟨Z,4,none⟩) nB _⟩)
   obtain⟨z_0,z_1,z_2,z_3,z_4,z_f0,z_f1,z_f2,z_f3,z_f4⟩:=BW.b5;clear hN hnow gZ gd gp Ci Gh gF Hv gU cZ GK x_0 x_1 x_2 x_3 x_4 FM Gc hZ3l BW q3 q4 hm hk hgl bP bj
   go_upto_region 7 with (fail)
   rw[<-GH];clear GH z_0 z_1 z_2 z_3 z_4 z_f0 z_f1 z_f2 z_f3 z_f4;obtain⟨_,_,hR,hZ,Ga,_,_⟩:=HF.out;obtain⟨z_0,z_1,z_2,z_3,z_4⟩:=hZ.c5;obtain⟨r_0,r_1,r_2,r_3,r_4,r_f0,r_f1,r_f2,r_f3,r_f4⟩:=hR.b5;have Hl:=hR.lt;have Hy:=h_ (fun u0 u1 u2 u3 u4=>HF.out.fin u0 u1 u2 u3 u4);clear hR hZ HF;go_wp2
   exact bodyPost_ret (v:= .tuple #[.agg #[.slice A0 D.fn.length c0,.slice A1 D.fl.length c1,.slice An s.ns.length cn,.slice Al s.ls.length cl,.slice (some ⟨g,0,none⟩) k c4],.bool true]) (by simp[results,Tryz.results140,go_sem,r_0,r_1,r_2,r_3,r_4,Hl]) rfl
    ⟨A0,c0,A1,c1,An,cn,Al,cl,some ⟨g,0,none⟩,c4,fs.take k,by simp only[bB.out],by simp only[bB.out];exact(Hy.out _ _ _ _ _).1,(Hy.out _ _ _ _ _).2⟩
theorem z7w {s:List Int} {F k:Nat} (h:s.getD (2*k) 0=s.getD (2*k+1) 0):besK s F (k+1)=besK s F k:=by simp only[besK];rw[aao h]
theorem z6G {s:List Int} {F k a b:Nat} (ha:s.getD (2*k) 0=(a:Int)) (hb:s.getD (2*k+1) 0=(b:Int)) (h:a≠b):besK s F (k+1)=setT (setT (besK s F k) a b) b a:=by
 simp only[besK];rw[aaq o_,ha,hb,aa6,aa6]
theorem z8v:(Tryz.prog.info? 182).map (fun i=>(i.zero,i.size,i.bytes))=some (some (.slice none 0 0),1,24):=by kernel_rfl
theorem ZF {w:World} {ops:Array Oper} {rest:List Oper} {o:Oper} {a:Act} {Q:Exit->Act->World->Prop} (FH:o.guard=none) (s x:Operand)
  (ho:o.op= .call { callee:= .builtin .append,args:= #[s,x],argTypes:= #[169,169] })
  (base:Nat) (v:Value) (F g:Nat) (gs:List Nat) (T:List (List Bool)) (r:List Bool) (hs:a.eval s=v) (g1:Nat) (hx:a.eval x= .slice (some ⟨g1,0,none⟩) 1 1) (hg:w.cell? ⟨g1,0,none⟩=some (rowV F g))
  (hown:OwnTab base w v F gs T) (hr:OwnE 4 Value.bool base w (rowV F g) r) (hgn:∀k,k<T.length->gs.getD k 0≠g) (Hi:T.length<=1048576) (H9:base<=w.heap.size)
  (h:∀v' w',OwnTab base w' v' F (gs++[g]) (T++[r])->w.grownBy w' v.ownBlock->wpList Tryz.prog ops Q rest (a.put o.dst v') w'):wpList Tryz.prog ops Q (o::rest) a w:=by
 obtain⟨i,hi,hz,H7,gG⟩:=info_parts z8v;have hl:=hown.len
 exact wpList_append_own w FH s x 169 ho base 182 i (.slice none 0 0) 1 24 Tryz.underlying169 hi hz H7 gG rfl (by decide) v gs.length (gs.map (rowV F)) hs hown.out ⟨g1,0,none⟩ 1 1 [rowV F g] hx rfl
  (fun j y hj=>by
   match j,hj with
   |0,hj=>cases hj;exact hg
   |j+1,hj=>simp at hj)
  (by
   intro y hy;simp at hy
   subst hy;rfl) (by unfold maxLen;omega) o_ H9 fun v' w' e1 e2 _=>h v' w' (hown.snoc hr hgn e2 (by rw[<-hl];exact e1)) e2
def zb9 (F:Nat) (T:List (List Bool)) (w:World) (e:Ending) (w':World):Prop:=∃v gs,e= .returned v/\OwnTab w.heap.size w' v F gs T/\Below w.heap.size w w'
theorem OwnTab.mono {base base':Nat} {w:World} {v:Value} {F:Nat} {gs:List Nat} {T:List (List Bool)} (h:OwnTab base w v F gs T) (hb:base'<=base):OwnTab base' w v F gs T:=
 ⟨World.ownsRow.mono h.out hb,h.len,h.nd,fun k hk=>World.ownsRow.mono (h.row k hk) hb⟩
theorem z8e {α:Type} (k:Nat) (x:α):List.replicate k x++[x]=List.replicate (k+1) x:=by rw[List.replicate_succ']
theorem JQ (vn vl:Value) (ns ls:List Pr) (w:World) (hn:RP w vn ns) (hl:RP w vl ls) (hw:zf ns ls=true):
  Calls Tryz.prog 179 #[.agg #[vn,vl]] w (zb9 (z9 ns ls).length (besW ns ls) w):=by
 obtain⟨Al,cl,rfl,Ho,GO,_⟩:=hl.formI;unfold maxLen at GO;have Hg:Below w.heap.size w (w.alloc (.cells #[vn,.slice Al ls.length cl] 27)):=bel_
 have gD:Blk (w.alloc (.cells #[vn,.slice Al ls.length cl] 27)) w.heap.size 27 #[vn,.slice Al ls.length cl]:=Blk.newAt rfl;obtain⟨i0,hi,iz0,iz1,iz2⟩:=info_parts Zl;have CN:=ye hw;have GW:=(zI hw).1.2.2.1;have GB:=zq ns ls;have mT:=h_ (fun d (hd:d<2*ls.length)=>kK (ns:=ns) (ls:=ls) CN hd);have bB:=h_ (vP ns ls);have HR:Hid (besW ns ls=besK (zF ns ls) (z9 ns ls).length ls.length):=h_ (by unfold besW;rw[zE hw]);have mv:=h_ (fun k=>jT (zF ns ls) (z9 ns ls).length k);have HBR:=h_ (fun k f hf=>vZ (zF ns ls) (z9 ns ls).length k f hf);have mb:=h_ (fun k h=>z7w (s:=zF ns ls) (F:=(z9 ns ls).length) (k:=k) h);have HDI:=h_ (fun k a b ha hb h=>z6G (s:=zF ns ls) (F:=(z9 ns ls).length) (k:=k) (a:=a) (b:=b) ha hb h);have HZ:Hid (besK (zF ns ls) (z9 ns ls).length 0=List.replicate (z9 ns ls).length (List.replicate (z9 ns ls).length false)):=h_ rfl;have HSD:=h_ (fun (v:World) (h1:RP v vn ns) (h2:RP v (.slice Al ls.length cl) ls)=>Vk vn (.slice Al ls.length cl) ns ls v h1 h2 hw)
 go_enter Tryz.func179,Tryz.ntmps179
 go_wp2_with fail
 refine(jN _ _ ns ls _ (hn.below Hg) (hl.below Hg)).mono ?_
 rintro e w1 ⟨v1,rfl,Hj,h9⟩;have h8:=Hg.trans (h9.mono Hg.size);have gg:=gD.below h9 gD.lt;have H8:=gg.lt;obtain⟨A1,c1,rfl⟩:=Hj.form;generalize (z9 ns ls).length =F at*;generalize zF ns ls=s at*
 have uH:OwnTab (w.heap.size+1) (w1.alloc (.cells #[] 182)) (.slice (some ⟨w1.heap.size,0,none⟩) 0 0) F [] (List.replicate 0 (List.replicate F false)):=by
  refine⟨?_,rfl,List.nodup_nil,fun k hk=>absurd hk (by simp)⟩
  exact World.ownsRow_made w1 #[] 0 o_ (by decide) (by simp)
 have Ha:Below w.heap.size w (w1.alloc (.cells #[] 182)):=h8.alloc h8.size _;have gV:=gg.alloc (.cells #[] 182);go_wp2
 go_loopw [4,5] (fun v x wr=>∃(k:Nat) (gs:List Nat),k<=F/\x= .int .i64 k/\OwnTab (w.heap.size+1) wr v F gs (List.replicate k (List.replicate F false))/\Blk wr w.heap.size 27 #[vn,.slice Al ls.length cl]/\Below w.heap.size w wr) (fun _ x _=>F -(intOf x).toNat)
 case atStart=>exact⟨0,[],aab _,rfl,uH,gV,Ha⟩
 case round=>
  obtain⟨k,gs,hk,rfl,ho,hW,hB⟩:=hrel;have Gd:=hW.lt
  by_cases Hd:k<F
  ·have Hr:(k:Int)<(F:Int):=o_
   go_wp2_with (at_make;refine wpList_make_full _ rfl _ _ 182 rfl (w.heap.size+1) 4 i0 (.bool false) 1 Tryz.underlying182 hi iz0 iz1 .i64 .i64 _ _ F rfl rfl rfl rfl (by rw[iz2];omega) (by unfold maxLen;omega) o_ ?_)
   intro w3 Hz gQ;have GZ:Below wr.heap.size wr w3:=(aaj _ _).grown gQ (aaa _) (by intro k hk;cases hk)
   have Hk:OwnE 4 Value.bool (w.heap.size+1) w3 (rowV F wr.heap.size) (List.replicate F false):=by
    unfold OwnE;rw[aaD,<-z67];exact Hz
   have Hq:=ho.kept GZ;have GJ:=hW.below GZ Gd;have hBw3:=hB.trans (GZ.mono hB.size);have hgn:∀j,j<(List.replicate k (List.replicate F false)).length ->gs.getD j 0≠wr.heap.size:=fun j hj=>by have:=(z40 ho hj).2;omega
   have fA:=GJ.lt;have gF:=Hq.kept (Below.alloc (aaj w3.heap.size w3) (aaa _) (.cells #[rowV F wr.heap.size] 182));have hrow4:=OwnE.alloc Hk (.cells #[rowV F wr.heap.size] 182);have bV:=GJ.alloc (.cells #[rowV F wr.heap.size] 182);have uA:Below w.heap.size w (w3.alloc (.cells #[rowV F wr.heap.size] 182)):=hBw3.alloc hBw3.size _
   go_wp2_with (at_builtin;refine ZF rfl _ _ rfl (w.heap.size+1) _ F wr.heap.size gs (List.replicate k (List.replicate F false)) (List.replicate F false) rfl w3.heap.size rfl (qH rfl) gF hrow4 hgn (by simp;omega) (by simp;omega) ?_)
   intro v5 w5 fQ bv;rw[z8e] at fQ;have BO:Blk w5 w.heap.size 27 #[vn,.slice Al ls.length cl]:=(bv.block w.heap.size (by simp;omega) (fun e=>by have:=(gF.out.lt _ e.symm).1;omega)).trans bV;have GR:=uA.grown bv (by simp;omega) (fun q hq=>by have:=(gF.out.lt q hq).1;omega);go_wp2;go_roundw
   case rel=>exact⟨k+1,_,by omega,by go_num,fQ,BO,GR⟩
   case measure=>simp[intOf];omega
  ·have Hw:k=F:=o_
   subst Hw;have hgl:gs.length=k:=by have:=ho.len;simpa using this
   have N5:=ho;rw[<-HZ.out] at N5;obtain⟨g,cg,rfl,FG,Nv⟩:=N5.blk (by rw[mv.out];exact CN);have U2:∀p:Nat,p<k->(p:Int)<(gs.length:Int):=fun p hp=>by omega
   obtain⟨a_0,a_1⟩:=hW.c2
   go_wp2_with fail
   refine(HSD.out _ (hn.below hB) (hl.below hB)).mono ?_
   rintro e w3 ⟨v3,rfl,Hq,Hf⟩;have Ur:=N5.kept Hf;have GJ:=hW.below Hf Gd;have GZ:=hB.trans (Hf.mono hB.size);have bO:=OwnI.mono Hq (show w.heap.size+1<=wr.heap.size by omega);obtain⟨As,cS,rfl⟩:=OwnE.form (t:=3) (enc:=vI) bO;rw[bB.out] at bO⊢;go_wp2
   go_loopw [7] (fun x wr=>∃j:Nat,j<=ls.length/\x= .int .i64 j/\OwnTab (w.heap.size+1) wr (.slice (some ⟨g,0,none⟩) gs.length cg) k gs (besK s k j)/\OwnI (w.heap.size+1) wr (.slice As (2*ls.length) cS) s/\Blk wr w.heap.size 27 #[vn,.slice Al ls.length cl]/\Below w.heap.size w wr) (fun x _=>ls.length -(intOf x).toNat)
   case atStart=>exact⟨0,aab _,rfl,Ur,bO,GJ,GZ⟩
   case round=>
    obtain⟨j,hj,rfl,hT,hS,hW,hB⟩:=hrel;obtain⟨a_0,a_1⟩:=hW.c2
    by_cases Hd:j<ls.length
    ·obtain⟨p,hp,hpF⟩:=mT.out (2*j) o_
     obtain⟨q,hq,hqF⟩:=mT.out (2*j+1) o_;obtain⟨b,cb,eb,hcb,gc,Hb,GG⟩:=OwnI.blk hS (by rw[bB.out];omega)
     injection eb with eb1 eb2 eb3
     subst eb1;have GU:=GG (2*j) (by rw[bB.out];omega);have CM:=GG (2*j+1) (by rw[bB.out];omega);rw[hp] at GU;rw[hq] at CM;have e0w:IntKind.i64.wrap (2*(j:Int))=((2*j:Nat):Int):=by rw[show 2*(j:Int)=((2*j:Nat):Int) by omega];exact aaQ _ o_
     have i4:(0:Int)<=(p:Int):=o_
     have i6:(0:Int)<=(q:Int):=o_
     have i8:(p:Int)<(k:Int):=o_
     have i9:(q:Int)<(k:Int):=o_
     have ij:(j:Int)<(ls.length:Int):=o_
     have rg:=h_ (mb.out j);have Y9:=h_ (HDI.out j p q hp hq);rw[hp,hq] at rg
     by_cases FI:p=q
     ·have e1:((p:Int)==(q:Int))=true:=beq_iff_eq.2 o_
      have e2:((p:Int) != (q:Int))=false:=by rw[bne,e1];rfl
      have HX:=h_ (rg.out o_);go_wp2;go_roundw
      case rel=>exact⟨j+1,by omega,by go_num,by rw[HX.out];exact hT,hS,hW,hB⟩
      case measure=>simp[intOf];omega
     ·have e1:((p:Int)==(q:Int))=false:=beq_eq_false_iff_ne.2 o_
      have e2:((p:Int) != (q:Int))=true:=by rw[bne,e1];rfl
      have HX:=h_ (Y9.out FI);have Cb:=mv.out j;have HTR:=h_ (HBR.out j);generalize besK s k j=T at*;have wb:p<T.length:=o_
      have we:q<T.length:=o_
      have u0:=hT.cell wb;have u1:=hT.cell we;have v0:=hT.cell2 wb (j:=q) (by rw[HTR.out p hpF];exact hqF);have v1:=hT.cell2 we (j:=p) (by rw[HTR.out q hqF];exact hpF);have f0:=hT.frz2 wb q;have f1:=hT.frz2 we p;obtain⟨l0a,l0⟩:=z40 hT wb;obtain⟨l1a,l1⟩:=z40 hT we;have fg:=hT.set_ wb q true;have gB:=fg.set_ (a:=q) (by simpa using we) p true;have hTT:(T.set p ((T.getD p []).set q true)).set q (((T.set p ((T.getD p []).set q true)).getD q []).set p true)=besK s k (j+1):=by rw[HX.out];rfl
      rw[hTT] at gB;have gr:=zaH hT wb we FI;have hg0:=hT.apart wb rfl;have fF:=hT.apart we rfl;have HO:=h_ (show OwnI (w.heap.size+1) ((wr.setCell ⟨gs.getD p 0,q,none⟩ (.bool true)).setCell ⟨gs.getD q 0,p,none⟩ (.bool true)) (.slice (some ⟨b,0,none⟩) (2*ls.length) cS) s from OwnE.other (t:=3) (enc:=vI) (OwnE.other (t:=3) (enc:=vI) hS (hT.row p wb) ZX (qs (qt _ _) q _)) (fg.row q (by simpa using we)) ZX (qs (qt _ _) p _));have HS2':=h_ gB;have HW:=h_ (show Blk ((wr.setCell ⟨gs.getD p 0,q,none⟩ (.bool true)).setCell ⟨gs.getD q 0,p,none⟩ (.bool true)) w.heap.size 27 #[vn,.slice Al ls.length cl] from(hW.far (p:=⟨gs.getD p 0,q,none⟩) (show w.heap.size≠gs.getD p 0 by omega) _).far (p:=⟨gs.getD q 0,p,none⟩) (show w.heap.size≠gs.getD q 0 by omega) _);have HB:=h_ (show Below w.heap.size w ((wr.setCell ⟨gs.getD p 0,q,none⟩ (.bool true)).setCell ⟨gs.getD q 0,p,none⟩ (.bool true)) from(hB.setCell (p:=⟨gs.getD p 0,q,none⟩) (show w.heap.size<=gs.getD p 0 by omega) _).setCell (p:=⟨gs.getD q 0,p,none⟩) (show w.heap.size<=gs.getD q 0 by omega) _);generalize gs.getD p 0=ga at*;generalize gs.getD q 0=gb at*;generalize (T.getD p []).getD q false=x0 at*;generalize (T.getD q []).getD p false=x1 at*;have d1:¬ga=gb:=gr;have d2:¬gb=ga:=fun e=>gr e.symm
      have d3:¬g=ga:=hg0;have d4:¬ga=g:=fun e=>hg0 e.symm
      have d5:¬g=gb:=fF;go_wp2;go_roundw
      case rel=>exact⟨j+1,by omega,by go_num,HS2'.out,HO.out,HW.out,HB.out⟩
      case measure=>simp[intOf];omega
    ·have GV:j=ls.length:=o_
     subst GV;have hT':=hT;rw[hgl] at hT';have HT:=h_ hT';have HB:=h_ hB;go_wp2;go_ret
     exact⟨_,_,rfl,by rw[HR.out];exact OwnTab.mono HT.out (show w.heap.size<=w.heap.size+1 by omega),HB.out⟩
theorem z7y (k:Nat):List.replicate k (-1:Int)++[-1]=List.replicate (k+1) (-1):=by rw[List.replicate_succ']
theorem z6D (n:Nat) (w:World) (h:n<=40):
  Calls Tryz.prog 181 #[.int .i64 n] w (RetI (List.replicate n (-1)) w):=by
 have Hg:Below w.heap.size w (w.alloc (.cells #[] 3)):=bel_
 have bT:OwnI w.heap.size (w.alloc (.cells #[] 3)) (.slice (some ⟨w.heap.size,0,none⟩) 0 0) (List.replicate 0 (-1)):=OwnI.made rfl (aaa _)
 go_enter Tryz.func181,Tryz.ntmps181
 go_wp2
 go_loopw [3,4] (fun v x wr=>∃k:Nat,k<=n/\x= .int .i64 k/\OwnI w.heap.size wr v (List.replicate k (-1))/\Below w.heap.size w wr) (fun _ x _=>n -(intOf x).toNat)
 case atStart=>exact⟨0,aab _,rfl,bT,Hg⟩
 case round=>
  clear bT Hg;obtain⟨k,hk,rfl,ho,hB⟩:=hrel;have gj:=hB.size
  by_cases Hd:k<n
  ·have Hr:(k:Int)<(n:Int):=o_
   have Hi:(List.replicate k (-1:Int)).length <=40:=by simp;omega
   have HS:=h_ (z7y k);generalize List.replicate k (-1:Int)=G at*
   go_wp2_with (at_builtin;refine zR rfl _ _ rfl w.heap.size _ G (-1) rfl wr.heap.size rfl (qH rfl) (ho.alloc _) o_ (by simp;omega) ?_)
   intro v2 w2 Hm Gr gS;have He:Below w.heap.size w w2:=(hB.alloc hB.size (.cells #[.int .i64 (-1)] 3)).grown Gr (by simp;omega) (fun q hq=>by have:=(ho.lt q hq).1;omega);clear Gr gS ho hB;go_wp2;go_roundw
   case rel=>exact⟨k+1,by omega,by go_num,by rw[<-HS.out];exact Hm,He⟩
   case measure=>simp[intOf];omega
  ·have Hw:k=n:=o_
   subst Hw;go_wp2;go_ret
   exact⟨_,rfl,ho,hB⟩
def noW (F:Nat):List Int:=List.replicate F (-1)
theorem ZH (F:Nat):(noW F).length =F:=by simp[noW]
theorem z1W {F k:Nat} (h:k<F):(noW F).getD k 0= -1:=by simp[noW,List.getD,h]
theorem z8D {F k:Nat} {x:Int} (h:k<F):JA (noW F) k x=true:=z7B h
structure SrA (w:World) (b F:Nat) (adj:Nat->Nat->Bool) (vg:Value):Prop where
 tab:Xm w b 0 F adj
 wish:RI w vg (noW F)
theorem SrA.below {w w':World} {b F:Nat} {adj:Nat->Nat->Bool} {vg:Value} (h:SrA w b F adj vg) (hb:Below w.heap.size w w'):SrA w' b F adj vg:=⟨h.tab.below hb,h.wish.below hb⟩
theorem z4N (F n b cT:Nat) (adj:Nat->Nat->Bool) (vg:Value) (hF:F<=40) (hn:n<=6):
  ∀(r:Nat) (hd:List Int) (vh:Value) (w:World),hd.length+r=F->SrA w b F adj vg->RI w vh hd->
   Calls Tryz.prog 180 #[.slice (some ⟨b,0,none⟩) F cT,vg,.int .i64 n,vh] w (z0N ((srch adj (noW F) n r hd).getD []) (srch adj (noW F) n r hd).isSome w):=by
 intro r;obtain⟨i0,hi,iz0,iz1,iz2⟩:=info_parts ql
 induction r with
 |zero=>
  intro hd vh w hl hA hH;obtain⟨Ah,ch,rfl,hch,hmh,_⟩:=hH.form;unfold maxLen at hmh;have HH:=h_ hH;have HR:Hid (srch adj (noW F) n 0 hd=some hd):=h_ rfl;have e1:((hd.length:Int)==(F:Int))=true:=by rw[show hd.length=F by omega];simp
  have Hg:Below w.heap.size w (w.alloc (.cells #[] 3)):=bel_
  clear hH hA
  go_enter Tryz.func180,Tryz.ntmps180
  go_wp2_with (at_builtin;refine zM rfl _ _ _ rfl w.heap.size 3 i0 (.int .i64 0) 1 8 Tryz.underlying31 hi iz0 iz1 iz2 rfl (by decide) (.slice (some ⟨w.heap.size,0,none⟩) 0 0) _ 0 hd.length [] (hd.map vI) rfl rfl (zG (aaa _) rfl) (RI.below HH.out Hg) (yc hd) o_ (by decide) (by simp) ?_)
  intro A2 c2 w4 gF GA _;have Hp:Below w.heap.size w w4:=Hg.grown GA (by simp) (fun q hq=>by cases hq;exact aaa _);have HO:Hid (OwnI w.heap.size w4 (.slice A2 (0+hd.length) c2) hd):=h_ (by unfold OwnI;simpa using gF);clear gF GA;go_wp2;exact bodyPost_ret (v:= .tuple #[.slice A2 (0+hd.length) c2,.bool true]) (by simp[results,Tryz.results180,go_sem]) rfl ⟨_,by rw[HR.out];rfl,by rw[HR.out];exact HO.out,Hp⟩
 |succ r ih=>
  intro hd vh w hl hA hH;obtain⟨Ah,ch,rfl,hch,hmh,rh⟩:=hH.form;obtain⟨Ag,cg,rfl,hcg,hmg,Mb⟩:=hA.wish.form;unfold maxLen at hmh hmg;rw[ZH] at hcg hmg Mb hA ih⊢;obtain⟨bg,og,rfl,mI,hclg⟩:=Mb o_;obtain⟨k,hk⟩:∃k,hd.length=k:=⟨_,rfl⟩;have MR:k<F:=o_
  have hx:=hclg k MR;rw[z1W MR] at hx;have HIH:=h_ ih;have HA:=h_ hA;have hHk:RI w (.slice Ah k ch) hd:=by rw[<-hk];exact hH
  have HH:=h_ hHk;have hTB:=hA.tab.1;have HT:=h_ hA.tab.2;have HCH:=h_ rh;have e1:((hd.length:Int)==(F:Int))=false:=by rw[hk];exact beq_eq_false_iff_ne.2 o_
  have HWY:Hid (∀x:Int,JA (noW F) k x=true):=h_ (fun x=>z8D MR);have Uu:=h_ (fun (x:Nat) h=>z8y (adj:=adj) (gv:=noW F) (n:=n) (r:=r) (hd:=hd) (x:=x) h);have HFG:=h_ (fun (x:Nat) h1 h2=>z8U (adj:=adj) (gv:=noW F) (n:=n) (r:=r) (hd:=hd) (x:=x) h1 h2);have HHI:=h_ (fun (x:Nat) (L:List Int) hx hp h=>z3l (adj:=adj) (gv:=noW F) (n:=n) (r:=r) (hd:=hd) (L:=L) (x:=x) hx hp h);have HMI:=h_ (fun hp=>z1s (adj:=adj) (gv:=noW F) (n:=n) (r:=r) (hd:=hd) hp);have Yd:=h_ (fun (x:Int) (i:Nat)=>z2V (adj:=adj) (hd:=hd) (k:=k) (x:=x) (i:=i));have HOA:Hid (∀x:Int,okP adj hd k x k=okC adj hd k x):=h_ (fun _=>rfl);have Yk:Hid (∀x:Int,okP adj hd k x 0=true):=h_ (fun _=>rfl);rw[hk] at Uu HFG;have HKK:=h_ hk;have HLR:=h_ hl;generalize srch adj (noW F) n (r+1) hd=RR at*;clear hA hH hHk ih rh Mb hclg hl;rw[hk];rw[hk] at e1 hch hmh HCH;have ik1:(0:Int)<=(k:Int):=o_
  have ik2:(k:Int)<(F:Int):=o_
  clear hk
  go_enter Tryz.func180,Tryz.ntmps180
  go_wp2
  go_loopw [11] (fun s wr=>∃x:Nat,x<=n/\s= .int .i64 x/\Hid (∀y,y<x->srF adj (noW F) n r hd y=none)/\Below w.heap.size w wr) (fun s _=>n -(intOf s).toNat)
  case atStart=>exact⟨0,aab _,rfl,h_ (fun y hy=>absurd hy o_),aaj _ _⟩
  case round=>
   obtain⟨x,hxn,rfl,HP,hB⟩:=hrel;have gj:=hB.size;have Hb:b<wr.heap.size:=o_
   have hbg':bg<wr.heap.size:=o_
   have fX:=(hB.cell (p:=⟨bg,og+k,none⟩) mI).trans hx
   by_cases Hd:x<n
   ·have Hr:(x:Int)<(n:Int):=o_
    have HB:=h_ hB;clear hB;go_wp2;obtain⟨wq,cI⟩:∃u,u=wr:=⟨_,rfl⟩;rw[<-cI]
    go_loopw [12,13] (fun s t w2=>∃i:Nat,i<=k/\t= .int .i64 i/\s= .bool (okP adj hd k x i)/\w2=wr) (fun _ t _=>k -(intOf t).toNat)
    case atStart=>exact⟨0,aab _,rfl,by rw[Yk.out],cI⟩
    case round=>
     clear cI wq;obtain⟨i,U2,rfl,rfl,rfl⟩:=hrel
     by_cases Fm:i<k
     ·have hil1:(i:Int)<(k:Int):=o_
      have ii1:(0:Int)<=(i:Int):=o_
      have ii2:(i:Int)<(F:Int):=o_
      obtain⟨bi,hbi,C8,Gq⟩:=HT.out i o_;have Gb:=Gq k MR;obtain⟨bh,oh,rfl,hbh,hch1⟩:=HCH.out o_;have fa:=hch1 i Fm;have q0:=(HB.out.cell (p:=⟨b,0+i,none⟩) hTB).trans C8;have q1:=(HB.out.cell (p:=⟨bi,k,none⟩) hbi).trans Gb;have q2:=(HB.out.cell (p:=⟨bh,oh+i,none⟩) hbh).trans fa;rw[aaG] at q0;have HS:=h_ (Yd.out x i);clear C8 Gq Gb fa hch1;generalize adj i k=a at*;generalize hd.getD i 0=h at*;generalize okP adj hd k x i=o at*
      cases o
      ·go_wp2
       go_roundw
       case rel=>exact⟨i+1,by omega,by go_num,by rw[HS.out];rfl,by trivial⟩
       case measure=>simp[intOf];omega
      ·cases a
       ·go_wp2
        go_roundw
        case rel=>exact⟨i+1,by omega,by go_num,by rw[HS.out];rfl,by trivial⟩
        case measure=>simp[intOf];omega
       ·by_cases he:h=(x:Int)
        ·have e2:(h==(x:Int))=true:=beq_iff_eq.2 he
         rw[e2] at HS;clear he;go_wp2;go_roundw
         case rel=>exact⟨i+1,by omega,by go_num,by rw[HS.out];rfl,by trivial⟩
         case measure=>simp[intOf];omega
        ·have e2:(h==(x:Int))=false:=beq_eq_false_iff_ne.2 he
         rw[e2] at HS;clear he;go_wp2;go_roundw
         case rel=>exact⟨i+1,by omega,by go_num,by rw[HS.out];rfl,by trivial⟩
         case measure=>simp[intOf];omega
     ·have NF:i=k:=o_
      subst NF;rw[HOA.out];have HFO1:=h_ (Uu.out x);have HFG1:=h_ (HFG.out x (HWY.out x));generalize okC adj hd i (x:Int)=o at*
      cases o
      ·have HX:=h_ (HFO1.out rfl)
       have FN:=h_ (QC HP.out HX.out);go_wp2;go_roundw
       case rel=>exact⟨x+1,by omega,by go_num,FN,HB.out⟩
       case measure=>simp[intOf];omega
      ·have HX:=h_ (HFG1.out rfl)
       have Hg:Below wr.heap.size wr (wr.alloc (.cells #[] 3)):=bel_
       go_wp2_with (at_builtin;refine zM rfl _ _ _ rfl wr.heap.size 3 i0 (.int .i64 0) 1 8 Tryz.underlying31 hi iz0 iz1 iz2 rfl (by decide) (.slice (some ⟨wr.heap.size,0,none⟩) 0 0) (.slice Ah i ch) 0 hd.length [] (hd.map vI) rfl rfl (zG (aaa _) rfl) (RI.below HH.out (HB.out.trans (Hg.mono o_))) (yc hd) (by have:=HKK.out;omega) (by decide) (by simp) ?_)
       intro A2 c2 w4 gF GA _;have Hv:Below wr.heap.size wr w4:=Hg.grown GA (by simp) (fun q hq=>by cases hq;exact aaa _);have ho4':OwnI wr.heap.size w4 (.slice A2 hd.length c2) hd:=by unfold OwnI;simpa using gF
       have Bg:=Hv.size;clear gF GA Hg
       go_wp2_with (at_builtin;refine zR rfl _ _ rfl wr.heap.size (.slice A2 hd.length c2) hd (x:Int) rfl w4.heap.size rfl (qH rfl) (ho4'.alloc _) (by have:=HKK.out;omega) (by simp;omega) ?_)
       intro v5 w5 fQ bv _;have gf:Below wr.heap.size wr w5:=(Hv.alloc Bg (.cells #[.int .i64 x] 3)).grown bv (by simp;omega) (fun q hq=>by have:=(ho4'.lt q hq).1;omega);have Hx:=HB.out.trans (gf.mono HB.out.size);have HC:=h_ (HIH.out (hd++[(x:Int)]) v5 w5 (by have:=HLR.out;simp;omega) (HA.out.below Hx) fQ.reads);have cH:=h_ Hx;clear ho4' bv Hv fQ Hx gf
       go_wp2_with fail
       refine HC.out.mono ?_
       rw[<-HX.out];rintro e w6 ⟨v6,rfl,fD,gk⟩;have ri:=h_ (cH.out.trans (gk.mono cH.out.size));have b9:=h_ (OwnI.mono fD (cH.out.size));clear fD gk HC;obtain⟨oo,hoo⟩:∃o,srF adj (noW F) n r hd x=o:=⟨_,rfl⟩;rw[hoo] at b9⊢
       cases oo with
       |none=>
        have FN:=h_ (QC HP.out hoo);clear hoo;go_wp2;go_roundw
        case rel=>exact⟨x+1,by omega,by go_num,FN,ri.out⟩
        case measure=>simp[intOf];omega
       |some L=>
        have HR:=h_ (HHI.out x L Hd HP.out hoo);clear hoo;go_wp2;exact bodyPost_ret (v:= .tuple #[v6,.bool true]) (by simp[results,Tryz.results180,go_sem]) rfl ⟨_,by rw[HR.out];rfl,by rw[HR.out];exact b9.out,ri.out⟩
   ·have hxx:x=n:=o_
    subst hxx;have HR:=h_ (HMI.out HP.out);have HO:Hid (OwnI w.heap.size (wr.alloc (.cells #[] 3)) (.slice (some ⟨wr.heap.size,0,none⟩) 0 0) []):=h_ (OwnI.made rfl o_);have gm:=h_ (hB.alloc hB.size (.cells #[] 3));clear hB;go_wp2;exact bodyPost_ret (v:= .tuple #[.slice (some ⟨wr.heap.size,0,none⟩) 0 0,.bool false]) (by simp[results,Tryz.results180,go_sem]) rfl ⟨_,by rw[HR.out];rfl,by rw[HR.out];exact HO.out,gm.out⟩
end Go.Proofs.YtnjcpljhmhdhkaaGreat
