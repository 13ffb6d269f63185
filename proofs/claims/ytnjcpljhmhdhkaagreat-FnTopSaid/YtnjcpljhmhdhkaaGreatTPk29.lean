/- part 29 -/
import Derived.Test.YtnjcpljhmhdhkaaGreatTPk26
import Derived.Test.YtnjcpljhmhdhkaaGreatTPk28
set_option linter.unusedSimpArgs false
set_option linter.unusedVariables false
set_option maxRecDepth 100000
set_option maxHeartbeats 16000000
namespace Go.Proofs.YtnjcpljhmhdhkaaGreat
open Go.RowKit
noncomputable def chgB (S:St) (kd a b:Int):Bool:=ze S&&(decide (S.ds.length=0)&&(zS S.D kd a b&&decide (10<=S.fund)))
noncomputable def chgS (S:St) (kd a b:Int):St:=if chgB S kd a b=true then⟨qJ S.D kd a b,[],[],S.fund -10⟩ else S
theorem xG {S:St} {kd a b:Int} (h:ze S=false∨¬S.ds.length=0∨zS S.D kd a b=false∨S.fund<10):chgS S kd a b=S/\chgB S kd a b=false:=by
 have hb:chgB S kd a b=false:=by
  unfold chgB
  rcases h with h|h|h|h
  ·simp[h]
  ·simp[h]
  ·simp[h]
  ·have:¬(10:Int)<=S.fund:=o_
   simp[this]
 exact⟨by unfold chgS;rw[hb];rfl,hb⟩
theorem z56 {S:St} {kd a b:Int} (h1:ze S=true) (h2:S.ds.length=0) (h3:zS S.D kd a b=true) (h4:10<=S.fund):chgS S kd a b=⟨qJ S.D kd a b,[],[],S.fund -10⟩/\chgB S kd a b=true:=by
 have hb:chgB S kd a b=true:=by unfold chgB;rw[h1,h3];simp[h2,h4]
 exact⟨by unfold chgS;rw[aao hb],hb⟩
theorem Zx {S:St} (h:ze S=true):0<=S.fund/\S.fund<=1000000:=by
 unfold ze at h;simp only[aaG] at h
 exact zc.1 h.2.2.1
theorem z1S {S:St} (kd a b:Int) (h:ze S=true):ze ⟨qJ S.D kd a b,[],[],S.fund -10⟩=decide (10<=S.fund):=by
 have hf:=Zx h
 have hd:okD S.D=true:=by
  unfold ze at h;simp only[aaG] at h
  exact h.1
 have h1:=z7a hd kd a b;have h2:qn []=true:=by unfold qn;rfl
 have h3:inB (S.fund -10) 0 1000000=decide (10<=S.fund):=by
  rw[aaZ,zc,aa4];omega
 unfold ze
 show(okD (qJ S.D kd a b)&&(qn []&&(inB (S.fund -10) 0 1000000&&_)))=_
 rw[h1,h2,h3];simp
theorem yN (v0 v1 v2 v3 v4 v5 v6:Value) (S:St) (kd:Int) (ka:Int) (kb:Int) (w:World) (h:RSt w v0 v1 v2 v3 v4 v5 v6 S) (hle:StLe S):
  Calls Tryz.prog 37 #[.agg #[v0,v1,v2,v3,v4,v5,v6,.int .i64 S.fund],.int .i64 kd,.int .i64 ka,.int .i64 kb] w (ya (chgS S kd ka kb) (chgB S kd ka kb) w):=by
 obtain⟨r,hr⟩:∃r,ze S=r:=⟨_,rfl⟩;have HR:=h_ hr;have gf:=h_ hle;obtain⟨B6,d6,ev6,cO,cP,fI⟩:=h.ds.at_;subst ev6;unfold maxLen at cP;clear fI;obtain⟨E,hE⟩:∃E,chgS S kd ka kb=E:=⟨_,rfl⟩;obtain⟨bb,H4⟩:∃bb,chgB S kd ka kb=bb:=⟨_,rfl⟩;rw[hE,H4];have HE:=h_ hE;have H9:=h_ H4;have HH:=h_ h;clear hle hE H4 h
 go_enter Tryz.func37,Tryz.ntmps37
 go_wp2_with fail
 refine(qR _ _ _ _ _ _ _ S _ (HH.out.below bel_) gf.out).mono ?_
 rintro e w1 ⟨A0,a0,A1,a1,A2,a2,A3,a3,A4,a4,A5,a5,A6,a6,fs,rfl,Hj,Hb⟩;have gB:Blk w1 w.heap.size 34 #[v0,v1,v2,v3,v4,v5,.slice B6 S.ds.length d6,.int .i64 S.fund]:=Blk.below ((Blk.newAt rfl).alloc _) Hb sz_;have H6:Blk w1 (w.heap.size+1) 34 z8_:=Blk.below (Blk.newAt (by simp)) Hb sz_;have Ha:Below w.heap.size w w1:=bel_
 have Gt:OwnSt (w.heap.size+1+1) w1 (.slice A0 S.D.fn.length a0) (.slice A1 S.D.fl.length a1) (.slice A2 S.D.nn.length a2) (.slice A3 S.D.nl.length a3) (.slice A4 S.D.ss.length a4) (.slice A5 S.cs.length a5) (.slice A6 S.ds.length a6) S fs:=by simpa using Hj
 have gD:=h_ (OutSS.start Gt (aaa _) gB H6 Ha);obtain⟨x_0,x_1,x_2,x_3,x_4,x_5,x_6,x_7⟩:=gB.c8;have GR:=gB.lt;clear Hj Hb Gt
 go_wp2_with fail
 obtain⟨w2,gw⟩:∃w2,w2=w1.alloc (.cells #[.slice A0 S.D.fn.length a0,.slice A1 S.D.fl.length a1,.slice A2 S.D.nn.length a2,.slice A3 S.D.nl.length a3,.slice A4 S.D.ss.length a4,.slice A5 S.cs.length a5,.slice A6 S.ds.length a6,.int .i64 S.fund] 34):=⟨_,rfl⟩;rw[<-gw] at gD⊢;generalize w1.heap.size=Z at*;clear gw gB H6 Ha x_0 x_1 x_2 x_3 x_4 x_5 x_6 x_7 GR;refine(qA _ _ _ _ _ _ _ S r _ (HH.out.below gD.out.blw) HR).mono ?_
 rintro e w3 ⟨rfl,Hg⟩;have Ht:=h_ (gD.out.below Hg);clear Hg gD;have gS:=Ht.out.X;obtain⟨x_0,x_1,x_2,x_3,x_4,x_5,x_6,x_7⟩:=gS.c8
 cases r
 ·obtain⟨u1,u2⟩:=xG (S:=S) (kd:=kd) (a:=ka) (b:=kb) (.inl hr)
  have hu:S=E:=by rw[<-HE.out];exact u1.symm
  have hv:false=bb:=by rw[<-H9.out];exact u2.symm
  subst hu;subst hv;have HF:=Ht;clear Ht HE H9 u1 u2 hr gS;obtain⟨_,_,hR,hZ,Gb,_,_⟩:=HF.out;obtain⟨z_0,z_1,z_2,z_3,z_4,z_5,z_6,z_7⟩:=hZ.c8;obtain⟨r_0,r_1,r_2,r_3,r_4,r_5,r_6,r_7,r_f0,r_f1,r_f2,r_f3,r_f4,r_f5,r_f6,r_f7⟩:=hR.b8;have Hl:=hR.lt;have Hx:=h_ (HF.out.fin);clear hR hZ HF;go_wp2;exact bodyPost_ret (v:= .tuple #[.agg (s8_ A0 A1 A2 A3 A4 A5 A6 a0 a1 a2 a3 a4 a5 a6 S),.bool false]) (by simp[results,Tryz.results37,go_sem,r_0,r_1,r_2,r_3,r_4,r_5,r_6,r_7,Hl]) rfl ⟨_,_,_,_,_,_,_,_,_,_,_,_,_,_,fs,rfl,(Hx.out _ _ _ _ _ _ _ _).1,(Hx.out _ _ _ _ _ _ _ _).2⟩
 ·by_cases fX:S.ds.length=0
  ·have BP:((S.ds.length:Int)>0)=False:=by simp[fX]
   have Nw:=HH.out.dr.below Ht.out.blw;obtain⟨nY,mE⟩:=Zx hr;have Bm:IntKind.i64.wrap (S.fund -10)=S.fund -10:=aaP _ o_
   go_wp2_with fail
   refine(z3I _ _ _ _ _ S.D kd ka kb _ Nw gf.out.D).mono ?_
   obtain⟨D',m7⟩:∃x,qJ S.D kd ka kb=x:=⟨_,rfl⟩;obtain⟨b',gH⟩:∃x,zS S.D kd ka kb=x:=⟨_,rfl⟩;rw[m7,gH];have Bw:=h_ m7;have fE:=h_ gH;clear m7 gH;rintro e w4 ⟨N0,n0,N1,n1,N2,n2,N3,n3,N4,n4,gs,rfl,gz,H5⟩;have gx:=h_ (Ht.out.below H5);have G7:=gx.out.X;clear H5 gS x_0 x_1 x_2 x_3 x_4 x_5 x_6 x_7 Nw;obtain⟨x_0,x_1,x_2,x_3,x_4,x_5,x_6,x_7⟩:=G7.c8;have gj:w.heap.size+1+1<=w3.heap.size:=by have:=Ht.out.R.lt;omega
   have F6:=h_ gz;clear gz Ht
   cases b'
   ·obtain⟨w5,GE⟩:∃u,u=w4.alloc (.cells #[.slice N0 D'.fn.length n0,.slice N1 D'.fl.length n1,.slice N2 D'.nn.length n2,.slice N3 D'.nl.length n3,.slice N4 D'.ss.length n4] 30):=⟨_,rfl⟩
    have Gu:=h_ (gx.out.below (GE▸(aaj _ _).alloc (aaa _) _))
    go_upto_region 5 with (fail)
    rw[<-GE];clear GE gx G7 x_0 x_1 x_2 x_3 x_4 x_5 x_6 x_7;clear F6 gj Bm nY mE;obtain⟨u1,u2⟩:=xG (S:=S) (kd:=kd) (a:=ka) (b:=kb) (.inr (.inr (.inl fE.out)));have hu:S=E:=by rw[<-HE.out];exact u1.symm
    have hv:false=bb:=by rw[<-H9.out];exact u2.symm
    subst hu;subst hv;have HF:=Gu;clear Gu HE H9 u1 u2 hr fE Bw;obtain⟨_,_,hR,hZ,Gb,_,_⟩:=HF.out;obtain⟨z_0,z_1,z_2,z_3,z_4,z_5,z_6,z_7⟩:=hZ.c8;obtain⟨r_0,r_1,r_2,r_3,r_4,r_5,r_6,r_7,r_f0,r_f1,r_f2,r_f3,r_f4,r_f5,r_f6,r_f7⟩:=hR.b8;have Hl:=hR.lt;have Hx:=h_ (HF.out.fin);clear hR hZ HF;go_wp2;exact bodyPost_ret (v:= .tuple #[.agg (s8_ A0 A1 A2 A3 A4 A5 A6 a0 a1 a2 a3 a4 a5 a6 S),.bool false]) (by simp[results,Tryz.results37,go_sem,r_0,r_1,r_2,r_3,r_4,r_5,r_6,r_7,Hl,fX]) rfl ⟨_,_,_,_,_,_,_,_,_,_,_,_,_,_,fs,rfl,(Hx.out _ _ _ _ _ _ _ _).1,(Hx.out _ _ _ _ _ _ _ _).2⟩
   ·obtain⟨w5,GE⟩:∃u,u=w4.alloc (.cells #[.slice N0 D'.fn.length n0,.slice N1 D'.fl.length n1,.slice N2 D'.nn.length n2,.slice N3 D'.nl.length n3,.slice N4 D'.ss.length n4] 30):=⟨_,rfl⟩
    have Gu:=h_ (gx.out.below (GE▸(aaj _ _).alloc (aaa _) _));have Bv:Blk w5 w4.heap.size 30 #[.slice N0 D'.fn.length n0,.slice N1 D'.fl.length n1,.slice N2 D'.nn.length n2,.slice N3 D'.nl.length n3,.slice N4 D'.ss.length n4]:=GE▸Blk.newAt rfl;have gk:Below w4.heap.size w4 w5:=GE▸(aaj _ _).alloc (aaa _) _
    go_upto_region 5 with (fail)
    rw[<-GE];clear GE gx G7 x_0 x_1 x_2 x_3 x_4 x_5 x_6 x_7;have Ca:=Gu.out.X;obtain⟨x_0,x_1,x_2,x_3,x_4,x_5,x_6,x_7⟩:=Ca.c8;obtain⟨d_0,d_1,d_2,d_3,d_4⟩:=Bv.c5;have C7:=h_ (F6.out.kept gk);clear F6 gk Ca Bv;obtain⟨g,hg⟩:∃g,decide (10<=S.fund)=g:=⟨_,rfl⟩;have NX:Hid (ze ⟨D',[],[],S.fund -10⟩=g):=h_ (by rw[<-Bw.out,z1S kd ka kb hr];exact hg);have HG:=h_ hg;clear hg;obtain⟨w6,CV⟩:∃u,u=w5.alloc (.cells #[.slice N0 D'.fn.length n0,.slice N1 D'.fl.length n1,.slice N2 D'.nn.length n2,.slice N3 D'.nl.length n3,.slice N4 D'.ss.length n4,.slice none 0 0,.slice none 0 0,.int .i64 (S.fund -10)] 34):=⟨_,rfl⟩;have gJ:Below w5.heap.size w5 w6:=CV▸(aaj _ _).alloc (aaa _) _;have fS:=h_ (Gu.out.below gJ);have hM6:Blk w6 w5.heap.size 34 #[.slice N0 D'.fn.length n0,.slice N1 D'.fl.length n1,.slice N2 D'.nn.length n2,.slice N3 D'.nl.length n3,.slice N4 D'.ss.length n4,.slice none 0 0,.slice none 0 0,.int .i64 (S.fund -10)]:=CV▸Blk.newAt rfl;have Cm:=h_ (Q9 (S.fund -10) (C7.out.kept gJ));clear Gu C7
    go_upto_region 8 with (fail)
    rw[<-CV];clear CV x_0 x_1 x_2 x_3 x_4 x_5 x_6 x_7 d_0 d_1 d_2 d_3 d_4;obtain⟨y_0,y_1,y_2,y_3,y_4,y_5,y_6,y_7⟩:=hM6.c8;have Vu:=hM6.lt;have VX:=Cm.out.reads
    go_wp2_with fail
    refine(qA _ _ _ _ _ _ _ ⟨D',[],[],S.fund -10⟩ g _ VX NX).mono ?_
    rintro e w7 ⟨rfl,f9⟩;have my:=h_ (fS.out.below f9);have yF:=h_ (Cm.out.kept f9);have hM7:=hM6.below f9 Vu;clear fS Cm f9 gJ hM6 Vu y_0 y_1 y_2 y_3 y_4 y_5 y_6 y_7 VX NX
    cases g
    ·clear yF hM7 gj Bm
     obtain⟨u1,u2⟩:=xG (S:=S) (kd:=kd) (a:=ka) (b:=kb) (.inr (.inr (.inr (by have:=of_decide_eq_false HG.out;omega))));have hu:S=E:=by rw[<-HE.out];exact u1.symm
     have hv:false=bb:=by rw[<-H9.out];exact u2.symm
     subst hu;subst hv;have HF:=my;clear my HE H9 u1 u2 hr fE Bw HG;obtain⟨_,_,hR,hZ,Gb,_,_⟩:=HF.out;obtain⟨z_0,z_1,z_2,z_3,z_4,z_5,z_6,z_7⟩:=hZ.c8;obtain⟨r_0,r_1,r_2,r_3,r_4,r_5,r_6,r_7,r_f0,r_f1,r_f2,r_f3,r_f4,r_f5,r_f6,r_f7⟩:=hR.b8;have Hl:=hR.lt;have Hx:=h_ (HF.out.fin);clear hR hZ HF;go_wp2;exact bodyPost_ret (v:= .tuple #[.agg (s8_ A0 A1 A2 A3 A4 A5 A6 a0 a1 a2 a3 a4 a5 a6 S),.bool false]) (by simp[results,Tryz.results37,go_sem,r_0,r_1,r_2,r_3,r_4,r_5,r_6,r_7,Hl,fX]) rfl ⟨_,_,_,_,_,_,_,_,_,_,_,_,_,_,fs,rfl,(Hx.out _ _ _ _ _ _ _ _).1,(Hx.out _ _ _ _ _ _ _ _).2⟩
    ·obtain⟨u1,u2⟩:=z56 (kd:=kd) (a:=ka) (b:=kb) hr fX fE.out (of_decide_eq_true HG.out)
     rw[Bw.out] at u1;have hu:(⟨D',[],[],S.fund -10⟩:St)=E:=by rw[<-HE.out];exact u1.symm
     have hv:true=bb:=by rw[<-H9.out];exact u2.symm
     subst hu;subst hv;have C4:=my.out.R;obtain⟨r_0,r_1,r_2,r_3,r_4,r_5,r_6,r_7,r_f0,r_f1,r_f2,r_f3,r_f4,r_f5,r_f6,r_f7⟩:=C4.b8;have Hl:=C4.lt;have fY:=h_ my.out.blw;obtain⟨y_0,y_1,y_2,y_3,y_4,y_5,y_6,y_7⟩:=hM7.c8;clear HE H9 u1 u2 hr fE Bw HG my C4 hM7;go_wp2;refine bodyPost_ret (v:= .tuple #[.agg #[.slice N0 D'.fn.length n0,.slice N1 D'.fl.length n1,.slice N2 D'.nn.length n2,.slice N3 D'.nl.length n3,.slice N4 D'.ss.length n4,.slice none 0 0,.slice none 0 0,.int .i64 (S.fund -10)],.bool true]) (by simp[results,Tryz.results37,go_sem,r_0,r_1,r_2,r_3,r_4,r_5,r_6,r_7,Hl,fX]) rfl ?_
     have cV:=z1s (w:=w) yF.out gj fY.out;exact⟨N0,n0,N1,n1,N2,n2,N3,n3,N4,n4,none,0,none,0,gs,rfl,(cV _ _ _ _ _ _ _ _).1,(cV _ _ _ _ _ _ _ _).2⟩
  ·have bE:(0:Int)<(S.ds.length:Int):=o_
   obtain⟨u1,u2⟩:=xG (S:=S) (kd:=kd) (a:=ka) (b:=kb) (.inr (.inl fX));have hu:S=E:=by rw[<-HE.out];exact u1.symm
   have hv:false=bb:=by rw[<-H9.out];exact u2.symm
   subst hu;subst hv;have HF:=Ht;clear Ht HE H9 u1 u2 hr;obtain⟨_,_,hR,hZ,Gb,_,_⟩:=HF.out;obtain⟨z_0,z_1,z_2,z_3,z_4,z_5,z_6,z_7⟩:=hZ.c8;obtain⟨r_0,r_1,r_2,r_3,r_4,r_5,r_6,r_7,r_f0,r_f1,r_f2,r_f3,r_f4,r_f5,r_f6,r_f7⟩:=hR.b8;have Hl:=hR.lt;have Hx:=h_ (HF.out.fin);clear hR hZ HF;go_wp2;exact bodyPost_ret (v:= .tuple #[.agg (s8_ A0 A1 A2 A3 A4 A5 A6 a0 a1 a2 a3 a4 a5 a6 S),.bool false]) (by simp[results,Tryz.results37,go_sem,r_0,r_1,r_2,r_3,r_4,r_5,r_6,r_7,Hl,bE]) rfl ⟨_,_,_,_,_,_,_,_,_,_,_,_,_,_,fs,rfl,(Hx.out _ _ _ _ _ _ _ _).1,(Hx.out _ _ _ _ _ _ _ _).2⟩
theorem yL (v0 v1 v2 v3 v4 v5 v6:Value) (S:St) (kd:Int) (ka:Int) (kb:Int) (w:World) (h:RSt w v0 v1 v2 v3 v4 v5 v6 S) (hle:StLe S):
  Calls Tryz.prog 72 #[.agg #[v0,v1,v2,v3,v4,v5,v6,.int .i64 S.fund],.int .i64 kd,.int .i64 ka,.int .i64 kb] w (ya (chgS S kd ka kb) (chgB S kd ka kb) w):=by
 obtain⟨r,hr⟩:∃r,ze S=r:=⟨_,rfl⟩;have HR:=h_ hr;have gf:=h_ hle;obtain⟨B6,d6,ev6,cO,cP,fI⟩:=h.ds.at_;subst ev6;unfold maxLen at cP;clear fI;obtain⟨E,hE⟩:∃E,chgS S kd ka kb=E:=⟨_,rfl⟩;obtain⟨bb,H4⟩:∃bb,chgB S kd ka kb=bb:=⟨_,rfl⟩;rw[hE,H4];have HE:=h_ hE;have H9:=h_ H4;have HH:=h_ h;clear hle hE H4 h
 go_enter Tryz.func72,Tryz.ntmps72
 go_wp2_with fail
 refine(jV _ _ _ _ _ _ _ S _ (HH.out.below bel_) gf.out).mono ?_
 rintro e w1 ⟨A0,a0,A1,a1,A2,a2,A3,a3,A4,a4,A5,a5,A6,a6,fs,rfl,Hj,Hb⟩;have gB:Blk w1 w.heap.size 34 #[v0,v1,v2,v3,v4,v5,.slice B6 S.ds.length d6,.int .i64 S.fund]:=Blk.below ((Blk.newAt rfl).alloc _) Hb sz_;have H6:Blk w1 (w.heap.size+1) 34 z8_:=Blk.below (Blk.newAt (by simp)) Hb sz_;have Ha:Below w.heap.size w w1:=bel_
 have Gt:OwnSt (w.heap.size+1+1) w1 (.slice A0 S.D.fn.length a0) (.slice A1 S.D.fl.length a1) (.slice A2 S.D.nn.length a2) (.slice A3 S.D.nl.length a3) (.slice A4 S.D.ss.length a4) (.slice A5 S.cs.length a5) (.slice A6 S.ds.length a6) S fs:=by simpa using Hj
 have gD:=h_ (OutSS.start Gt (aaa _) gB H6 Ha);obtain⟨x_0,x_1,x_2,x_3,x_4,x_5,x_6,x_7⟩:=gB.c8;have GR:=gB.lt;clear Hj Hb Gt
 go_wp2_with fail
 obtain⟨w2,gw⟩:∃w2,w2=w1.alloc (.cells #[.slice A0 S.D.fn.length a0,.slice A1 S.D.fl.length a1,.slice A2 S.D.nn.length a2,.slice A3 S.D.nl.length a3,.slice A4 S.D.ss.length a4,.slice A5 S.cs.length a5,.slice A6 S.ds.length a6,.int .i64 S.fund] 34):=⟨_,rfl⟩;rw[<-gw] at gD⊢;generalize w1.heap.size=Z at*;clear gw gB H6 Ha x_0 x_1 x_2 x_3 x_4 x_5 x_6 x_7 GR;refine(jc _ _ _ _ _ _ _ S r _ (HH.out.below gD.out.blw) HR).mono ?_
 rintro e w3 ⟨rfl,Hg⟩;have Ht:=h_ (gD.out.below Hg);clear Hg gD;have gS:=Ht.out.X;obtain⟨x_0,x_1,x_2,x_3,x_4,x_5,x_6,x_7⟩:=gS.c8
 cases r
 ·obtain⟨u1,u2⟩:=xG (S:=S) (kd:=kd) (a:=ka) (b:=kb) (.inl hr)
  have hu:S=E:=by rw[<-HE.out];exact u1.symm
  have hv:false=bb:=by rw[<-H9.out];exact u2.symm
  subst hu;subst hv;have HF:=Ht;clear Ht HE H9 u1 u2 hr gS;obtain⟨_,_,hR,hZ,Gb,_,_⟩:=HF.out;obtain⟨z_0,z_1,z_2,z_3,z_4,z_5,z_6,z_7⟩:=hZ.c8;obtain⟨r_0,r_1,r_2,r_3,r_4,r_5,r_6,r_7,r_f0,r_f1,r_f2,r_f3,r_f4,r_f5,r_f6,r_f7⟩:=hR.b8;have Hl:=hR.lt;have Hx:=h_ (HF.out.fin);clear hR hZ HF;go_wp2;exact bodyPost_ret (v:= .tuple #[.agg (s8_ A0 A1 A2 A3 A4 A5 A6 a0 a1 a2 a3 a4 a5 a6 S),.bool false]) (by simp[results,Tryz.results72,go_sem,r_0,r_1,r_2,r_3,r_4,r_5,r_6,r_7,Hl]) rfl ⟨_,_,_,_,_,_,_,_,_,_,_,_,_,_,fs,rfl,(Hx.out _ _ _ _ _ _ _ _).1,(Hx.out _ _ _ _ _ _ _ _).2⟩
 ·by_cases fX:S.ds.length=0
  ·have BP:((S.ds.length:Int)>0)=False:=by simp[fX]
   have Nw:=HH.out.dr.below Ht.out.blw;obtain⟨nY,mE⟩:=Zx hr;have Bm:IntKind.i64.wrap (S.fund -10)=S.fund -10:=aaP _ o_
   go_wp2_with fail
   refine(JS _ _ _ _ _ S.D kd ka kb _ Nw gf.out.D).mono ?_
   obtain⟨D',m7⟩:∃x,qJ S.D kd ka kb=x:=⟨_,rfl⟩;obtain⟨b',gH⟩:∃x,zS S.D kd ka kb=x:=⟨_,rfl⟩;rw[m7,gH];have Bw:=h_ m7;have fE:=h_ gH;clear m7 gH;rintro e w4 ⟨N0,n0,N1,n1,N2,n2,N3,n3,N4,n4,gs,rfl,gz,H5⟩;have gx:=h_ (Ht.out.below H5);have G7:=gx.out.X;clear H5 gS x_0 x_1 x_2 x_3 x_4 x_5 x_6 x_7 Nw;obtain⟨x_0,x_1,x_2,x_3,x_4,x_5,x_6,x_7⟩:=G7.c8;have gj:w.heap.size+1+1<=w3.heap.size:=by have:=Ht.out.R.lt;omega
   have F6:=h_ gz;clear gz Ht
   cases b'
   ·obtain⟨w5,GE⟩:∃u,u=w4.alloc (.cells #[.slice N0 D'.fn.length n0,.slice N1 D'.fl.length n1,.slice N2 D'.nn.length n2,.slice N3 D'.nl.length n3,.slice N4 D'.ss.length n4] 30):=⟨_,rfl⟩
    have Gu:=h_ (gx.out.below (GE▸(aaj _ _).alloc (aaa _) _))
    go_upto_region 5 with (fail)
    rw[<-GE];clear GE gx G7 x_0 x_1 x_2 x_3 x_4 x_5 x_6 x_7;clear F6 gj Bm nY mE;obtain⟨u1,u2⟩:=xG (S:=S) (kd:=kd) (a:=ka) (b:=kb) (.inr (.inr (.inl fE.out)));have hu:S=E:=by rw[<-HE.out];exact u1.symm
    have hv:false=bb:=by rw[<-H9.out];exact u2.symm
    subst hu;subst hv;have HF:=Gu;clear Gu HE H9 u1 u2 hr fE Bw;obtain⟨_,_,hR,hZ,Gb,_,_⟩:=HF.out;obtain⟨z_0,z_1,z_2,z_3,z_4,z_5,z_6,z_7⟩:=hZ.c8;obtain⟨r_0,r_1,r_2,r_3,r_4,r_5,r_6,r_7,r_f0,r_f1,r_f2,r_f3,r_f4,r_f5,r_f6,r_f7⟩:=hR.b8;have Hl:=hR.lt;have Hx:=h_ (HF.out.fin);clear hR hZ HF;go_wp2;exact bodyPost_ret (v:= .tuple #[.agg (s8_ A0 A1 A2 A3 A4 A5 A6 a0 a1 a2 a3 a4 a5 a6 S),.bool false]) (by simp[results,Tryz.results72,go_sem,r_0,r_1,r_2,r_3,r_4,r_5,r_6,r_7,Hl,fX]) rfl ⟨_,_,_,_,_,_,_,_,_,_,_,_,_,_,fs,rfl,(Hx.out _ _ _ _ _ _ _ _).1,(Hx.out _ _ _ _ _ _ _ _).2⟩
   ·obtain⟨w5,GE⟩:∃u,u=w4.alloc (.cells #[.slice N0 D'.fn.length n0,.slice N1 D'.fl.length n1,.slice N2 D'.nn.length n2,.slice N3 D'.nl.length n3,.slice N4 D'.ss.length n4] 30):=⟨_,rfl⟩
    have Gu:=h_ (gx.out.below (GE▸(aaj _ _).alloc (aaa _) _));have Bv:Blk w5 w4.heap.size 30 #[.slice N0 D'.fn.length n0,.slice N1 D'.fl.length n1,.slice N2 D'.nn.length n2,.slice N3 D'.nl.length n3,.slice N4 D'.ss.length n4]:=GE▸Blk.newAt rfl;have gk:Below w4.heap.size w4 w5:=GE▸(aaj _ _).alloc (aaa _) _
    go_upto_region 5 with (fail)
    rw[<-GE];clear GE gx G7 x_0 x_1 x_2 x_3 x_4 x_5 x_6 x_7;have Ca:=Gu.out.X;obtain⟨x_0,x_1,x_2,x_3,x_4,x_5,x_6,x_7⟩:=Ca.c8;obtain⟨d_0,d_1,d_2,d_3,d_4⟩:=Bv.c5;have C7:=h_ (F6.out.kept gk);clear F6 gk Ca Bv
    by_cases hf:S.fund<10
    ·clear x_0 x_1 x_2 x_3 x_4 x_5 x_6 d_0 d_1 d_2 d_3 d_4 C7 gj Bm nY mE
     obtain⟨u1,u2⟩:=xG (S:=S) (kd:=kd) (a:=ka) (b:=kb) (.inr (.inr (.inr hf)));have hu:S=E:=by rw[<-HE.out];exact u1.symm
     have hv:false=bb:=by rw[<-H9.out];exact u2.symm
     subst hu;subst hv;have HF:=Gu;clear Gu HE H9 u1 u2 hr fE Bw;obtain⟨_,_,hR,hZ,Gb,_,_⟩:=HF.out;obtain⟨z_0,z_1,z_2,z_3,z_4,z_5,z_6,z_7⟩:=hZ.c8;obtain⟨r_0,r_1,r_2,r_3,r_4,r_5,r_6,r_7,r_f0,r_f1,r_f2,r_f3,r_f4,r_f5,r_f6,r_f7⟩:=hR.b8;have Hl:=hR.lt;have Hx:=h_ (HF.out.fin);clear hR hZ HF;go_wp2;exact bodyPost_ret (v:= .tuple #[.agg (s8_ A0 A1 A2 A3 A4 A5 A6 a0 a1 a2 a3 a4 a5 a6 S),.bool false]) (by simp[results,Tryz.results72,go_sem,r_0,r_1,r_2,r_3,r_4,r_5,r_6,r_7,Hl,fX,hf]) rfl ⟨_,_,_,_,_,_,_,_,_,_,_,_,_,_,fs,rfl,(Hx.out _ _ _ _ _ _ _ _).1,(Hx.out _ _ _ _ _ _ _ _).2⟩
    ·obtain⟨u1,u2⟩:=z56 (kd:=kd) (a:=ka) (b:=kb) hr fX fE.out o_
     rw[Bw.out] at u1;have hu:(⟨D',[],[],S.fund -10⟩:St)=E:=by rw[<-HE.out];exact u1.symm
     have hv:true=bb:=by rw[<-H9.out];exact u2.symm
     subst hu;subst hv;have fJ:=Gu.out.R;obtain⟨r_0,r_1,r_2,r_3,r_4,r_5,r_6,r_7,r_f0,r_f1,r_f2,r_f3,r_f4,r_f5,r_f6,r_f7⟩:=fJ.b8;have Hl:=fJ.lt;have fY:=h_ Gu.out.blw;clear HE H9 u1 u2 hr fE Bw Gu fJ;go_wp2;refine bodyPost_ret (v:= .tuple #[.agg #[.slice N0 D'.fn.length n0,.slice N1 D'.fl.length n1,.slice N2 D'.nn.length n2,.slice N3 D'.nl.length n3,.slice N4 D'.ss.length n4,.slice none 0 0,.slice none 0 0,.int .i64 (S.fund -10)],.bool true]) (by simp[results,Tryz.results72,go_sem,r_0,r_1,r_2,r_3,r_4,r_5,r_6,r_7,Hl,fX]) rfl ?_
     have cV:=z1s (w:=w) (Q9 (S.fund -10) C7.out) gj fY.out;exact⟨N0,n0,N1,n1,N2,n2,N3,n3,N4,n4,none,0,none,0,gs,rfl,(cV _ _ _ _ _ _ _ _).1,(cV _ _ _ _ _ _ _ _).2⟩
  ·have bE:(0:Int)<(S.ds.length:Int):=o_
   obtain⟨u1,u2⟩:=xG (S:=S) (kd:=kd) (a:=ka) (b:=kb) (.inr (.inl fX));have hu:S=E:=by rw[<-HE.out];exact u1.symm
   have hv:false=bb:=by rw[<-H9.out];exact u2.symm
   subst hu;subst hv;have HF:=Ht;clear Ht HE H9 u1 u2 hr;obtain⟨_,_,hR,hZ,Gb,_,_⟩:=HF.out;obtain⟨z_0,z_1,z_2,z_3,z_4,z_5,z_6,z_7⟩:=hZ.c8;obtain⟨r_0,r_1,r_2,r_3,r_4,r_5,r_6,r_7,r_f0,r_f1,r_f2,r_f3,r_f4,r_f5,r_f6,r_f7⟩:=hR.b8;have Hl:=hR.lt;have Hx:=h_ (HF.out.fin);clear hR hZ HF;go_wp2;exact bodyPost_ret (v:= .tuple #[.agg (s8_ A0 A1 A2 A3 A4 A5 A6 a0 a1 a2 a3 a4 a5 a6 S),.bool false]) (by simp[results,Tryz.results72,go_sem,r_0,r_1,r_2,r_3,r_4,r_5,r_6,r_7,Hl,bE]) rfl ⟨_,_,_,_,_,_,_,_,_,_,_,_,_,_,fs,rfl,(Hx.out _ _ _ _ _ _ _ _).1,(Hx.out _ _ _ _ _ _ _ _).2⟩
end Go.Proofs.YtnjcpljhmhdhkaaGreat
