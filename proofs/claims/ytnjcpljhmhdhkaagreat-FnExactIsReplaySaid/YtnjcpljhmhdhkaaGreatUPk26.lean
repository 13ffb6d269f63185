/- part 26 -/
import Derived.Test.YtnjcpljhmhdhkaaGreatUPk23
import Derived.Test.YtnjcpljhmhdhkaaGreatUPk25
set_option linter.unusedSimpArgs false
set_option linter.unusedVariables false
set_option maxRecDepth 100000
set_option maxHeartbeats 16000000
namespace Go.Proofs.YtnjcpljhmhdhkaaGreat
open Go.RowKit
noncomputable def js (S:St):Bool:=ze S&&(decide (S.ds.length=0)&&qQ S.D)
noncomputable def jM (S:St):St:=if js S=true then⟨j6 S.D,[],[],S.fund⟩ else S
theorem vK {S:St} (h:ze S=false∨¬S.ds.length=0∨qQ S.D=false):jM S=S/\js S=false:=by
 have hb:js S=false:=by
  unfold js
  rcases h with h|h|h<;>simp[h]
 exact⟨by unfold jM;rw[hb];rfl,hb⟩
theorem VR {S:St} (h1:ze S=true) (h2:S.ds.length=0) (h3:qQ S.D=true):jM S=⟨j6 S.D,[],[],S.fund⟩/\js S=true:=by
 have hb:js S=true:=by unfold js;rw[h1,h3];simp[h2]
 exact⟨by unfold jM;rw[aao hb],hb⟩
theorem kv (S:St) (h:StLe S):yi (jM S)<=30000000:=by
 unfold jM
 split
 ·have:=Qo S.D h.D
  show cntD (j6 S.D)+0+3*0<=_
  omega
 ·exact h.cnt
theorem QG {base:Nat} {w:World} {a b c d e:Value} {D:Dr} {fs:List SF} (m:Int) (h:OwnD base w a b c d e D fs):OwnSt base w a b c d e (.slice none 0 0) (.slice none 0 0) ⟨D,[],[],m⟩ fs:=by
 have hz:∀k:Nat,¬(Value.slice none 0 0).ownBlock =some k:=fun k h=>by simp[Value.ownBlock] at h
 exact⟨h,OwnI.nil _ _,zk.nil _ _,fun k _ h=>hz k h,fun k _ h=>hz k h,fun k h=>absurd h (hz k)⟩
theorem XG (v0 v1 v2 v3 v4 v5 v6:Value) (S:St) (w:World) (h:RSt w v0 v1 v2 v3 v4 v5 v6 S) (hle:StLe S):
  Calls Tryz.prog 44 #[.agg #[v0,v1,v2,v3,v4,v5,v6,.int .i64 S.fund]] w (yk (jM S) (js S) w):=by
 obtain⟨r,hr⟩:∃r,ze S=r:=⟨_,rfl⟩;have HR:=h_ hr;have gi:=h_ hle;obtain⟨B6,d6,ev6,CE,cJ,Gy⟩:=h.ds.at_;subst ev6;unfold maxLen at cJ;clear Gy;obtain⟨E,hE⟩:∃E,jM S=E:=⟨_,rfl⟩;obtain⟨bb,gc⟩:∃bb,js S=bb:=⟨_,rfl⟩;rw[hE,gc];have HE:=h_ hE;have gm:=h_ gc;have HH:=h_ h;clear hle hE gc h
 go_enter Tryz.func44,Tryz.ntmps44
 go_wp2_with fail
 refine(qw _ _ _ _ _ _ _ S _ (HH.out.below bel_) gi.out).mono ?_
 rintro e w1 ⟨A0,a0,A1,a1,A2,a2,A3,a3,A4,a4,A5,a5,A6,a6,fs,rfl,Hj,h9⟩;have gh:Blk w1 w.heap.size 34 #[v0,v1,v2,v3,v4,v5,.slice B6 S.ds.length d6,.int .i64 S.fund]:=Blk.below ((Blk.newAt rfl).alloc _) h9 sz_;have gu:Blk w1 (w.heap.size+1) 34 z8_:=Blk.below (Blk.newAt (by simp)) h9 sz_;have h8:Below w.heap.size w w1:=bel_
 have Gi:OwnSt (w.heap.size+1+1) w1 (.slice A0 S.D.fn.length a0) (.slice A1 S.D.fl.length a1) (.slice A2 S.D.nn.length a2) (.slice A3 S.D.nl.length a3) (.slice A4 S.D.ss.length a4) (.slice A5 S.cs.length a5) (.slice A6 S.ds.length a6) S fs:=by simpa using Hj
 have gB:=h_ (OutSS.start Gi (aaa _) gh gu h8);obtain⟨x_0,x_1,x_2,x_3,x_4,x_5,x_6,x_7⟩:=gh.c8;have fi:=gh.lt;clear Hj h9 Gi
 go_wp2_with fail
 obtain⟨w2,gS⟩:∃w2,w2=w1.alloc (.cells #[.slice A0 S.D.fn.length a0,.slice A1 S.D.fl.length a1,.slice A2 S.D.nn.length a2,.slice A3 S.D.nl.length a3,.slice A4 S.D.ss.length a4,.slice A5 S.cs.length a5,.slice A6 S.ds.length a6,.int .i64 S.fund] 34):=⟨_,rfl⟩;rw[<-gS] at gB⊢;generalize w1.heap.size=Z at*;clear gS gh gu h8 x_0 x_1 x_2 x_3 x_4 x_5 x_6 x_7 fi;refine(qM _ _ _ _ _ _ _ S r _ (HH.out.below gB.out.blw) HR).mono ?_
 rintro e w3 ⟨rfl,Hf⟩;have gd:=h_ (gB.out.below Hf);clear Hf gB;have gU:=gd.out.X;obtain⟨x_0,x_1,x_2,x_3,x_4,x_5,x_6,x_7⟩:=gU.c8
 cases r
 ·obtain⟨u1,u2⟩:=vK (S:=S) (.inl hr)
  have hu:S=E:=by rw[<-HE.out];exact u1.symm
  have hv:false=bb:=by rw[<-gm.out];exact u2.symm
  subst hu;subst hv;have HF:=gd;clear gd HE gm u1 u2 hr gU;obtain⟨_,_,hR,hZ,Ga,_,_⟩:=HF.out;obtain⟨z_0,z_1,z_2,z_3,z_4,z_5,z_6,z_7⟩:=hZ.c8;obtain⟨r_0,r_1,r_2,r_3,r_4,r_5,r_6,r_7,r_f0,r_f1,r_f2,r_f3,r_f4,r_f5,r_f6,r_f7⟩:=hR.b8;have Hl:=hR.lt;have Hy:=h_ (HF.out.fin);clear hR hZ HF;go_wp2;exact bodyPost_ret (v:= .tuple #[.agg (s8_ A0 A1 A2 A3 A4 A5 A6 a0 a1 a2 a3 a4 a5 a6 S),.bool false]) (by simp[results,Tryz.results44,go_sem,r_0,r_1,r_2,r_3,r_4,r_5,r_6,r_7,Hl]) rfl ⟨_,_,_,_,_,_,_,_,_,_,_,_,_,_,fs,rfl,(Hy.out _ _ _ _ _ _ _ _).1,(Hy.out _ _ _ _ _ _ _ _).2⟩
 ·by_cases fH:S.ds.length=0
  ·have Ma:((S.ds.length:Int)>0)=False:=by simp[fH]
   have bz:=HH.out.dr.below gd.out.blw
   go_wp2_with fail
   refine(z1J _ _ _ _ _ S.D _ bz gi.out.D).mono ?_
   obtain⟨D',Me⟩:∃x,j6 S.D=x:=⟨_,rfl⟩;obtain⟨b',gw⟩:∃x,qQ S.D=x:=⟨_,rfl⟩;rw[Me,gw];have BA:=h_ Me;have fR:=h_ gw;clear Me gw;rintro e w4 ⟨N0,n0,N1,n1,N2,n2,N3,n3,N4,n4,gs,rfl,gF,Hv⟩;have gZ:=h_ (gd.out.below Hv);have G8:=gZ.out.X;clear Hv gU x_0 x_1 x_2 x_3 x_4 x_5 x_6 x_7 bz;obtain⟨x_0,x_1,x_2,x_3,x_4,x_5,x_6,x_7⟩:=G8.c8;have Fj:=G8.lt;have gp:w.heap.size+1+1<=w3.heap.size:=by have:=gd.out.R.lt;omega
   have F3:=h_ gF;clear gF gd
   cases b'
   ·obtain⟨w5,GH⟩:∃u,u=w4.alloc (.cells #[.slice N0 D'.fn.length n0,.slice N1 D'.fl.length n1,.slice N2 D'.nn.length n2,.slice N3 D'.nl.length n3,.slice N4 D'.ss.length n4] 30):=⟨_,rfl⟩
    have fj:=h_ (gZ.out.below (GH▸(aaj _ _).alloc (aaa _) _))
    go_upto_region 5 with (fail)
    rw[<-GH];clear GH gZ G8 Fj x_0 x_1 x_2 x_3 x_4 x_5 x_6 x_7 F3 gp;obtain⟨u1,u2⟩:=vK (S:=S) (.inr (.inr fR.out));have hu:S=E:=by rw[<-HE.out];exact u1.symm
    have hv:false=bb:=by rw[<-gm.out];exact u2.symm
    subst hu;subst hv;have HF:=fj;clear fj HE gm u1 u2 hr fR BA;obtain⟨_,_,hR,hZ,Ga,_,_⟩:=HF.out;obtain⟨z_0,z_1,z_2,z_3,z_4,z_5,z_6,z_7⟩:=hZ.c8;obtain⟨r_0,r_1,r_2,r_3,r_4,r_5,r_6,r_7,r_f0,r_f1,r_f2,r_f3,r_f4,r_f5,r_f6,r_f7⟩:=hR.b8;have Hl:=hR.lt;have Hy:=h_ (HF.out.fin);clear hR hZ HF;go_wp2;exact bodyPost_ret (v:= .tuple #[.agg (s8_ A0 A1 A2 A3 A4 A5 A6 a0 a1 a2 a3 a4 a5 a6 S),.bool false]) (by simp[results,Tryz.results44,go_sem,r_0,r_1,r_2,r_3,r_4,r_5,r_6,r_7,Hl,fH]) rfl ⟨_,_,_,_,_,_,_,_,_,_,_,_,_,_,fs,rfl,(Hy.out _ _ _ _ _ _ _ _).1,(Hy.out _ _ _ _ _ _ _ _).2⟩
   ·obtain⟨u1,u2⟩:=VR hr fH fR.out
    rw[BA.out] at u1;have hu:(⟨D',[],[],S.fund⟩:St)=E:=by rw[<-HE.out];exact u1.symm
    have hv:true=bb:=by rw[<-gm.out];exact u2.symm
    subst hu;subst hv;have fd:=gZ.out.R;obtain⟨r_0,r_1,r_2,r_3,r_4,r_5,r_6,r_7,r_f0,r_f1,r_f2,r_f3,r_f4,r_f5,r_f6,r_f7⟩:=fd.b8;have Hl:=fd.lt;have cH:=h_ gZ.out.blw;clear HE gm u1 u2 hr fR BA gZ G8 fd;go_wp2;refine bodyPost_ret (v:= .tuple #[.agg #[.slice N0 D'.fn.length n0,.slice N1 D'.fl.length n1,.slice N2 D'.nn.length n2,.slice N3 D'.nl.length n3,.slice N4 D'.ss.length n4,.slice none 0 0,.slice none 0 0,.int .i64 S.fund],.bool true]) (by simp[results,Tryz.results44,go_sem,r_0,r_1,r_2,r_3,r_4,r_5,r_6,r_7,Hl,fH]) rfl ?_
    have cM:=z28 (w:=w) (QG S.fund F3.out) gp cH.out;exact⟨N0,n0,N1,n1,N2,n2,N3,n3,N4,n4,none,0,none,0,gs,rfl,(cM _ _ _ _ _ _ _ _).1.alloc _,(cM _ _ _ _ _ _ _ _).2.alloc (cM _ _ _ _ _ _ _ _).2.size _⟩
  ·have CK:(0:Int)<(S.ds.length:Int):=o_
   obtain⟨u1,u2⟩:=vK (S:=S) (.inr (.inl fH));have hu:S=E:=by rw[<-HE.out];exact u1.symm
   have hv:false=bb:=by rw[<-gm.out];exact u2.symm
   subst hu;subst hv;have HF:=gd;clear gd HE gm u1 u2 hr;obtain⟨_,_,hR,hZ,Ga,_,_⟩:=HF.out;obtain⟨z_0,z_1,z_2,z_3,z_4,z_5,z_6,z_7⟩:=hZ.c8;obtain⟨r_0,r_1,r_2,r_3,r_4,r_5,r_6,r_7,r_f0,r_f1,r_f2,r_f3,r_f4,r_f5,r_f6,r_f7⟩:=hR.b8;have Hl:=hR.lt;have Hy:=h_ (HF.out.fin);clear hR hZ HF;go_wp2;exact bodyPost_ret (v:= .tuple #[.agg (s8_ A0 A1 A2 A3 A4 A5 A6 a0 a1 a2 a3 a4 a5 a6 S),.bool false]) (by simp[results,Tryz.results44,go_sem,r_0,r_1,r_2,r_3,r_4,r_5,r_6,r_7,Hl,CK]) rfl ⟨_,_,_,_,_,_,_,_,_,_,_,_,_,_,fs,rfl,(Hy.out _ _ _ _ _ _ _ _).1,(Hy.out _ _ _ _ _ _ _ _).2⟩
theorem XN (v0 v1 v2 v3 v4 v5 v6:Value) (S:St) (w:World) (h:RSt w v0 v1 v2 v3 v4 v5 v6 S) (hle:StLe S):
  Calls Tryz.prog 73 #[.agg #[v0,v1,v2,v3,v4,v5,v6,.int .i64 S.fund]] w (yk (jM S) (js S) w):=by
 obtain⟨r,hr⟩:∃r,ze S=r:=⟨_,rfl⟩;have HR:=h_ hr;have gi:=h_ hle;obtain⟨B6,d6,ev6,CE,cJ,Gy⟩:=h.ds.at_;subst ev6;unfold maxLen at cJ;clear Gy;obtain⟨E,hE⟩:∃E,jM S=E:=⟨_,rfl⟩;obtain⟨bb,gc⟩:∃bb,js S=bb:=⟨_,rfl⟩;rw[hE,gc];have HE:=h_ hE;have gm:=h_ gc;have HH:=h_ h;clear hle hE gc h
 go_enter Tryz.func73,Tryz.ntmps73
 go_wp2_with fail
 refine(jm _ _ _ _ _ _ _ S _ (HH.out.below bel_) gi.out).mono ?_
 rintro e w1 ⟨A0,a0,A1,a1,A2,a2,A3,a3,A4,a4,A5,a5,A6,a6,fs,rfl,Hj,h9⟩;have gh:Blk w1 w.heap.size 34 #[v0,v1,v2,v3,v4,v5,.slice B6 S.ds.length d6,.int .i64 S.fund]:=Blk.below ((Blk.newAt rfl).alloc _) h9 sz_;have gu:Blk w1 (w.heap.size+1) 34 z8_:=Blk.below (Blk.newAt (by simp)) h9 sz_;have h8:Below w.heap.size w w1:=bel_
 have Gi:OwnSt (w.heap.size+1+1) w1 (.slice A0 S.D.fn.length a0) (.slice A1 S.D.fl.length a1) (.slice A2 S.D.nn.length a2) (.slice A3 S.D.nl.length a3) (.slice A4 S.D.ss.length a4) (.slice A5 S.cs.length a5) (.slice A6 S.ds.length a6) S fs:=by simpa using Hj
 have gB:=h_ (OutSS.start Gi (aaa _) gh gu h8);obtain⟨x_0,x_1,x_2,x_3,x_4,x_5,x_6,x_7⟩:=gh.c8;have fi:=gh.lt;clear Hj h9 Gi
 go_wp2_with fail
 obtain⟨w2,gS⟩:∃w2,w2=w1.alloc (.cells #[.slice A0 S.D.fn.length a0,.slice A1 S.D.fl.length a1,.slice A2 S.D.nn.length a2,.slice A3 S.D.nl.length a3,.slice A4 S.D.ss.length a4,.slice A5 S.cs.length a5,.slice A6 S.ds.length a6,.int .i64 S.fund] 34):=⟨_,rfl⟩;rw[<-gS] at gB⊢;generalize w1.heap.size=Z at*;clear gS gh gu h8 x_0 x_1 x_2 x_3 x_4 x_5 x_6 x_7 fi;refine(j8 _ _ _ _ _ _ _ S r _ (HH.out.below gB.out.blw) HR).mono ?_
 rintro e w3 ⟨rfl,Hf⟩;have gd:=h_ (gB.out.below Hf);clear Hf gB;have gU:=gd.out.X;obtain⟨x_0,x_1,x_2,x_3,x_4,x_5,x_6,x_7⟩:=gU.c8
 cases r
 ·obtain⟨u1,u2⟩:=vK (S:=S) (.inl hr)
  have hu:S=E:=by rw[<-HE.out];exact u1.symm
  have hv:false=bb:=by rw[<-gm.out];exact u2.symm
  subst hu;subst hv;have HF:=gd;clear gd HE gm u1 u2 hr gU;obtain⟨_,_,hR,hZ,Ga,_,_⟩:=HF.out;obtain⟨z_0,z_1,z_2,z_3,z_4,z_5,z_6,z_7⟩:=hZ.c8;obtain⟨r_0,r_1,r_2,r_3,r_4,r_5,r_6,r_7,r_f0,r_f1,r_f2,r_f3,r_f4,r_f5,r_f6,r_f7⟩:=hR.b8;have Hl:=hR.lt;have Hy:=h_ (HF.out.fin);clear hR hZ HF;go_wp2;exact bodyPost_ret (v:= .tuple #[.agg (s8_ A0 A1 A2 A3 A4 A5 A6 a0 a1 a2 a3 a4 a5 a6 S),.bool false]) (by simp[results,Tryz.results73,go_sem,r_0,r_1,r_2,r_3,r_4,r_5,r_6,r_7,Hl]) rfl ⟨_,_,_,_,_,_,_,_,_,_,_,_,_,_,fs,rfl,(Hy.out _ _ _ _ _ _ _ _).1,(Hy.out _ _ _ _ _ _ _ _).2⟩
 ·by_cases fH:S.ds.length=0
  ·have Ma:((S.ds.length:Int)>0)=False:=by simp[fH]
   have bz:=HH.out.dr.below gd.out.blw
   go_wp2_with fail
   refine(z1v _ _ _ _ _ S.D _ bz gi.out.D).mono ?_
   obtain⟨D',Me⟩:∃x,j6 S.D=x:=⟨_,rfl⟩;obtain⟨b',gw⟩:∃x,qQ S.D=x:=⟨_,rfl⟩;rw[Me,gw];have BA:=h_ Me;have fR:=h_ gw;clear Me gw;rintro e w4 ⟨N0,n0,N1,n1,N2,n2,N3,n3,N4,n4,gs,rfl,gF,Hv⟩;have gZ:=h_ (gd.out.below Hv);have G8:=gZ.out.X;clear Hv gU x_0 x_1 x_2 x_3 x_4 x_5 x_6 x_7 bz;obtain⟨x_0,x_1,x_2,x_3,x_4,x_5,x_6,x_7⟩:=G8.c8;have Fj:=G8.lt;have gp:w.heap.size+1+1<=w3.heap.size:=by have:=gd.out.R.lt;omega
   have F3:=h_ gF;clear gF gd
   cases b'
   ·obtain⟨w5,GH⟩:∃u,u=w4.alloc (.cells #[.slice N0 D'.fn.length n0,.slice N1 D'.fl.length n1,.slice N2 D'.nn.length n2,.slice N3 D'.nl.length n3,.slice N4 D'.ss.length n4] 30):=⟨_,rfl⟩
    have fj:=h_ (gZ.out.below (GH▸(aaj _ _).alloc (aaa _) _))
    go_upto_region 5 with (fail)
    rw[<-GH];clear GH gZ G8 Fj x_0 x_1 x_2 x_3 x_4 x_5 x_6 x_7 F3 gp;obtain⟨u1,u2⟩:=vK (S:=S) (.inr (.inr fR.out));have hu:S=E:=by rw[<-HE.out];exact u1.symm
    have hv:false=bb:=by rw[<-gm.out];exact u2.symm
    subst hu;subst hv;have HF:=fj;clear fj HE gm u1 u2 hr fR BA;obtain⟨_,_,hR,hZ,Ga,_,_⟩:=HF.out;obtain⟨z_0,z_1,z_2,z_3,z_4,z_5,z_6,z_7⟩:=hZ.c8;obtain⟨r_0,r_1,r_2,r_3,r_4,r_5,r_6,r_7,r_f0,r_f1,r_f2,r_f3,r_f4,r_f5,r_f6,r_f7⟩:=hR.b8;have Hl:=hR.lt;have Hy:=h_ (HF.out.fin);clear hR hZ HF;go_wp2;exact bodyPost_ret (v:= .tuple #[.agg (s8_ A0 A1 A2 A3 A4 A5 A6 a0 a1 a2 a3 a4 a5 a6 S),.bool false]) (by simp[results,Tryz.results73,go_sem,r_0,r_1,r_2,r_3,r_4,r_5,r_6,r_7,Hl,fH]) rfl ⟨_,_,_,_,_,_,_,_,_,_,_,_,_,_,fs,rfl,(Hy.out _ _ _ _ _ _ _ _).1,(Hy.out _ _ _ _ _ _ _ _).2⟩
   ·obtain⟨u1,u2⟩:=VR hr fH fR.out
    rw[BA.out] at u1;have hu:(⟨D',[],[],S.fund⟩:St)=E:=by rw[<-HE.out];exact u1.symm
    have hv:true=bb:=by rw[<-gm.out];exact u2.symm
    subst hu;subst hv;have fd:=gZ.out.R;obtain⟨r_0,r_1,r_2,r_3,r_4,r_5,r_6,r_7,r_f0,r_f1,r_f2,r_f3,r_f4,r_f5,r_f6,r_f7⟩:=fd.b8;have Hl:=fd.lt;have cH:=h_ gZ.out.blw;clear HE gm u1 u2 hr fR BA gZ G8 fd;go_wp2;refine bodyPost_ret (v:= .tuple #[.agg #[.slice N0 D'.fn.length n0,.slice N1 D'.fl.length n1,.slice N2 D'.nn.length n2,.slice N3 D'.nl.length n3,.slice N4 D'.ss.length n4,.slice none 0 0,.slice none 0 0,.int .i64 S.fund],.bool true]) (by simp[results,Tryz.results73,go_sem,r_0,r_1,r_2,r_3,r_4,r_5,r_6,r_7,Hl,fH]) rfl ?_
    have cM:=z28 (w:=w) (QG S.fund F3.out) gp cH.out;exact⟨N0,n0,N1,n1,N2,n2,N3,n3,N4,n4,none,0,none,0,gs,rfl,(cM _ _ _ _ _ _ _ _).1.alloc _,(cM _ _ _ _ _ _ _ _).2.alloc (cM _ _ _ _ _ _ _ _).2.size _⟩
  ·have CK:(0:Int)<(S.ds.length:Int):=o_
   obtain⟨u1,u2⟩:=vK (S:=S) (.inr (.inl fH));have hu:S=E:=by rw[<-HE.out];exact u1.symm
   have hv:false=bb:=by rw[<-gm.out];exact u2.symm
   subst hu;subst hv;have HF:=gd;clear gd HE gm u1 u2 hr;obtain⟨_,_,hR,hZ,Ga,_,_⟩:=HF.out;obtain⟨z_0,z_1,z_2,z_3,z_4,z_5,z_6,z_7⟩:=hZ.c8;obtain⟨r_0,r_1,r_2,r_3,r_4,r_5,r_6,r_7,r_f0,r_f1,r_f2,r_f3,r_f4,r_f5,r_f6,r_f7⟩:=hR.b8;have Hl:=hR.lt;have Hy:=h_ (HF.out.fin);clear hR hZ HF;go_wp2;exact bodyPost_ret (v:= .tuple #[.agg (s8_ A0 A1 A2 A3 A4 A5 A6 a0 a1 a2 a3 a4 a5 a6 S),.bool false]) (by simp[results,Tryz.results73,go_sem,r_0,r_1,r_2,r_3,r_4,r_5,r_6,r_7,Hl,CK]) rfl ⟨_,_,_,_,_,_,_,_,_,_,_,_,_,_,fs,rfl,(Hy.out _ _ _ _ _ _ _ _).1,(Hy.out _ _ _ _ _ _ _ _).2⟩
noncomputable def chgB (S:St) (kd a b:Int):Bool:=ze S&&(decide (S.ds.length=0)&&(zS S.D kd a b&&decide (10<=S.fund)))
noncomputable def chgS (S:St) (kd a b:Int):St:=if chgB S kd a b=true then⟨ju S.D kd a b,[],[],S.fund -10⟩ else S
theorem xK {S:St} {kd a b:Int} (h:ze S=false∨¬S.ds.length=0∨zS S.D kd a b=false∨S.fund<10):chgS S kd a b=S/\chgB S kd a b=false:=by
 have hb:chgB S kd a b=false:=by
  unfold chgB
  rcases h with h|h|h|h
  ·simp[h]
  ·simp[h]
  ·simp[h]
  ·have:¬(10:Int)<=S.fund:=o_
   simp[this]
 exact⟨by unfold chgS;rw[hb];rfl,hb⟩
theorem z5U {S:St} {kd a b:Int} (h1:ze S=true) (h2:S.ds.length=0) (h3:zS S.D kd a b=true) (h4:10<=S.fund):chgS S kd a b=⟨ju S.D kd a b,[],[],S.fund -10⟩/\chgB S kd a b=true:=by
 have hb:chgB S kd a b=true:=by unfold chgB;rw[h1,h3];simp[h2,h4]
 exact⟨by unfold chgS;rw[aao hb],hb⟩
theorem vN (S:St) (kd a b:Int) (h:StLe S):yi (chgS S kd a b)<=30000000:=by
 unfold chgS
 split
 ·have:=ZU S.D kd a b h.D
  show cntD (ju S.D kd a b)+0+3*0<=_
  omega
 ·exact h.cnt
theorem Jc {S:St} (h:ze S=true):0<=S.fund/\S.fund<=1000000:=by
 unfold ze at h;simp only[aaH] at h
 exact zd.1 h.2.2.1
theorem z3Q {S:St} (kd a b:Int) (h:ze S=true):ze ⟨ju S.D kd a b,[],[],S.fund -10⟩=decide (10<=S.fund):=by
 have hf:=Jc h
 have hd:okD S.D=true:=by
  unfold ze at h;simp only[aaH] at h
  exact h.1
 have h1:=zaK hd kd a b;have h2:qm []=true:=by unfold qm;rfl
 have h3:inB (S.fund -10) 0 1000000=decide (10<=S.fund):=by
  rw[aa0,zd,aa5];omega
 unfold ze
 show(okD (ju S.D kd a b)&&(qm []&&(inB (S.fund -10) 0 1000000&&_)))=_
 rw[h1,h2,h3];simp
theorem yQ (v0 v1 v2 v3 v4 v5 v6:Value) (S:St) (kd:Int) (ka:Int) (kb:Int) (w:World) (h:RSt w v0 v1 v2 v3 v4 v5 v6 S) (hle:StLe S):
  Calls Tryz.prog 37 #[.agg #[v0,v1,v2,v3,v4,v5,v6,.int .i64 S.fund],.int .i64 kd,.int .i64 ka,.int .i64 kb] w (yk (chgS S kd ka kb) (chgB S kd ka kb) w):=by
 obtain⟨r,hr⟩:∃r,ze S=r:=⟨_,rfl⟩;have HR:=h_ hr;have gi:=h_ hle;obtain⟨B6,d6,ev6,CE,cJ,Gy⟩:=h.ds.at_;subst ev6;unfold maxLen at cJ;clear Gy;obtain⟨E,hE⟩:∃E,chgS S kd ka kb=E:=⟨_,rfl⟩;obtain⟨bb,gc⟩:∃bb,chgB S kd ka kb=bb:=⟨_,rfl⟩;rw[hE,gc];have HE:=h_ hE;have gm:=h_ gc;have HH:=h_ h;clear hle hE gc h
 go_enter Tryz.func37,Tryz.ntmps37
 go_wp2_with fail
 refine(qw _ _ _ _ _ _ _ S _ (HH.out.below bel_) gi.out).mono ?_
 rintro e w1 ⟨A0,a0,A1,a1,A2,a2,A3,a3,A4,a4,A5,a5,A6,a6,fs,rfl,Hj,h9⟩;have gh:Blk w1 w.heap.size 34 #[v0,v1,v2,v3,v4,v5,.slice B6 S.ds.length d6,.int .i64 S.fund]:=Blk.below ((Blk.newAt rfl).alloc _) h9 sz_;have gu:Blk w1 (w.heap.size+1) 34 z8_:=Blk.below (Blk.newAt (by simp)) h9 sz_;have h8:Below w.heap.size w w1:=bel_
 have Gi:OwnSt (w.heap.size+1+1) w1 (.slice A0 S.D.fn.length a0) (.slice A1 S.D.fl.length a1) (.slice A2 S.D.nn.length a2) (.slice A3 S.D.nl.length a3) (.slice A4 S.D.ss.length a4) (.slice A5 S.cs.length a5) (.slice A6 S.ds.length a6) S fs:=by simpa using Hj
 have gB:=h_ (OutSS.start Gi (aaa _) gh gu h8);obtain⟨x_0,x_1,x_2,x_3,x_4,x_5,x_6,x_7⟩:=gh.c8;have fi:=gh.lt;clear Hj h9 Gi
 go_wp2_with fail
 obtain⟨w2,gS⟩:∃w2,w2=w1.alloc (.cells #[.slice A0 S.D.fn.length a0,.slice A1 S.D.fl.length a1,.slice A2 S.D.nn.length a2,.slice A3 S.D.nl.length a3,.slice A4 S.D.ss.length a4,.slice A5 S.cs.length a5,.slice A6 S.ds.length a6,.int .i64 S.fund] 34):=⟨_,rfl⟩;rw[<-gS] at gB⊢;generalize w1.heap.size=Z at*;clear gS gh gu h8 x_0 x_1 x_2 x_3 x_4 x_5 x_6 x_7 fi;refine(qM _ _ _ _ _ _ _ S r _ (HH.out.below gB.out.blw) HR).mono ?_
 rintro e w3 ⟨rfl,Hf⟩;have gd:=h_ (gB.out.below Hf);clear Hf gB;have gU:=gd.out.X;obtain⟨x_0,x_1,x_2,x_3,x_4,x_5,x_6,x_7⟩:=gU.c8
 cases r
 ·obtain⟨u1,u2⟩:=xK (S:=S) (kd:=kd) (a:=ka) (b:=kb) (.inl hr)
  have hu:S=E:=by rw[<-HE.out];exact u1.symm
  have hv:false=bb:=by rw[<-gm.out];exact u2.symm
  subst hu;subst hv;have HF:=gd;clear gd HE gm u1 u2 hr gU;obtain⟨_,_,hR,hZ,Ga,_,_⟩:=HF.out;obtain⟨z_0,z_1,z_2,z_3,z_4,z_5,z_6,z_7⟩:=hZ.c8;obtain⟨r_0,r_1,r_2,r_3,r_4,r_5,r_6,r_7,r_f0,r_f1,r_f2,r_f3,r_f4,r_f5,r_f6,r_f7⟩:=hR.b8;have Hl:=hR.lt;have Hy:=h_ (HF.out.fin);clear hR hZ HF;go_wp2;exact bodyPost_ret (v:= .tuple #[.agg (s8_ A0 A1 A2 A3 A4 A5 A6 a0 a1 a2 a3 a4 a5 a6 S),.bool false]) (by simp[results,Tryz.results37,go_sem,r_0,r_1,r_2,r_3,r_4,r_5,r_6,r_7,Hl]) rfl ⟨_,_,_,_,_,_,_,_,_,_,_,_,_,_,fs,rfl,(Hy.out _ _ _ _ _ _ _ _).1,(Hy.out _ _ _ _ _ _ _ _).2⟩
 ·by_cases fH:S.ds.length=0
  ·have Ma:((S.ds.length:Int)>0)=False:=by simp[fH]
   have bz:=HH.out.dr.below gd.out.blw;obtain⟨NJ,BD⟩:=Jc hr;have NA:IntKind.i64.wrap (S.fund -10)=S.fund -10:=aaQ _ o_
   go_wp2_with fail
   refine(z5B _ _ _ _ _ S.D kd ka kb _ bz gi.out.D).mono ?_
   obtain⟨D',Me⟩:∃x,ju S.D kd ka kb=x:=⟨_,rfl⟩;obtain⟨b',gw⟩:∃x,zS S.D kd ka kb=x:=⟨_,rfl⟩;rw[Me,gw];have BA:=h_ Me;have fR:=h_ gw;clear Me gw;rintro e w4 ⟨N0,n0,N1,n1,N2,n2,N3,n3,N4,n4,gs,rfl,gF,Hv⟩;have gZ:=h_ (gd.out.below Hv);have G8:=gZ.out.X;clear Hv gU x_0 x_1 x_2 x_3 x_4 x_5 x_6 x_7 bz;obtain⟨x_0,x_1,x_2,x_3,x_4,x_5,x_6,x_7⟩:=G8.c8;have gp:w.heap.size+1+1<=w3.heap.size:=by have:=gd.out.R.lt;omega
   have F3:=h_ gF;clear gF gd
   cases b'
   ·obtain⟨w5,GH⟩:∃u,u=w4.alloc (.cells #[.slice N0 D'.fn.length n0,.slice N1 D'.fl.length n1,.slice N2 D'.nn.length n2,.slice N3 D'.nl.length n3,.slice N4 D'.ss.length n4] 30):=⟨_,rfl⟩
    have fj:=h_ (gZ.out.below (GH▸(aaj _ _).alloc (aaa _) _))
    go_upto_region 5 with (fail)
    rw[<-GH];clear GH gZ G8 x_0 x_1 x_2 x_3 x_4 x_5 x_6 x_7;clear F3 gp NA NJ BD;obtain⟨u1,u2⟩:=xK (S:=S) (kd:=kd) (a:=ka) (b:=kb) (.inr (.inr (.inl fR.out)));have hu:S=E:=by rw[<-HE.out];exact u1.symm
    have hv:false=bb:=by rw[<-gm.out];exact u2.symm
    subst hu;subst hv;have HF:=fj;clear fj HE gm u1 u2 hr fR BA;obtain⟨_,_,hR,hZ,Ga,_,_⟩:=HF.out;obtain⟨z_0,z_1,z_2,z_3,z_4,z_5,z_6,z_7⟩:=hZ.c8;obtain⟨r_0,r_1,r_2,r_3,r_4,r_5,r_6,r_7,r_f0,r_f1,r_f2,r_f3,r_f4,r_f5,r_f6,r_f7⟩:=hR.b8;have Hl:=hR.lt;have Hy:=h_ (HF.out.fin);clear hR hZ HF;go_wp2;exact bodyPost_ret (v:= .tuple #[.agg (s8_ A0 A1 A2 A3 A4 A5 A6 a0 a1 a2 a3 a4 a5 a6 S),.bool false]) (by simp[results,Tryz.results37,go_sem,r_0,r_1,r_2,r_3,r_4,r_5,r_6,r_7,Hl,fH]) rfl ⟨_,_,_,_,_,_,_,_,_,_,_,_,_,_,fs,rfl,(Hy.out _ _ _ _ _ _ _ _).1,(Hy.out _ _ _ _ _ _ _ _).2⟩
   ·obtain⟨w5,GH⟩:∃u,u=w4.alloc (.cells #[.slice N0 D'.fn.length n0,.slice N1 D'.fl.length n1,.slice N2 D'.nn.length n2,.slice N3 D'.nl.length n3,.slice N4 D'.ss.length n4] 30):=⟨_,rfl⟩
    have fj:=h_ (gZ.out.below (GH▸(aaj _ _).alloc (aaa _) _));have Bz:Blk w5 w4.heap.size 30 #[.slice N0 D'.fn.length n0,.slice N1 D'.fl.length n1,.slice N2 D'.nn.length n2,.slice N3 D'.nl.length n3,.slice N4 D'.ss.length n4]:=GH▸Blk.newAt rfl;have gf:Below w4.heap.size w4 w5:=GH▸(aaj _ _).alloc (aaa _) _
    go_upto_region 5 with (fail)
    rw[<-GH];clear GH gZ G8 x_0 x_1 x_2 x_3 x_4 x_5 x_6 x_7;have Cn:=fj.out.X;obtain⟨x_0,x_1,x_2,x_3,x_4,x_5,x_6,x_7⟩:=Cn.c8;obtain⟨d_0,d_1,d_2,d_3,d_4⟩:=Bz.c5;have BR:=h_ (F3.out.kept gf);clear F3 gf Cn Bz;obtain⟨g,hg⟩:∃g,decide (10<=S.fund)=g:=⟨_,rfl⟩;have uz:Hid (ze ⟨D',[],[],S.fund -10⟩=g):=h_ (by rw[<-BA.out,z3Q kd ka kb hr];exact hg);have HG:=h_ hg;clear hg;obtain⟨w6,Cf⟩:∃u,u=w5.alloc (.cells #[.slice N0 D'.fn.length n0,.slice N1 D'.fl.length n1,.slice N2 D'.nn.length n2,.slice N3 D'.nl.length n3,.slice N4 D'.ss.length n4,.slice none 0 0,.slice none 0 0,.int .i64 (S.fund -10)] 34):=⟨_,rfl⟩;have gk:Below w5.heap.size w5 w6:=Cf▸(aaj _ _).alloc (aaa _) _;have MQ:=h_ (fj.out.below gk);have hM6:Blk w6 w5.heap.size 34 #[.slice N0 D'.fn.length n0,.slice N1 D'.fl.length n1,.slice N2 D'.nn.length n2,.slice N3 D'.nl.length n3,.slice N4 D'.ss.length n4,.slice none 0 0,.slice none 0 0,.int .i64 (S.fund -10)]:=Cf▸Blk.newAt rfl;have b9:=h_ (QG (S.fund -10) (BR.out.kept gk));clear fj BR
    go_upto_region 8 with (fail)
    rw[<-Cf];clear Cf x_0 x_1 x_2 x_3 x_4 x_5 x_6 x_7 d_0 d_1 d_2 d_3 d_4;obtain⟨y_0,y_1,y_2,y_3,y_4,y_5,y_6,y_7⟩:=hM6.c8;have hM6l:=hM6.lt;have hRST:=b9.out.reads
    go_wp2_with fail
    refine(qM _ _ _ _ _ _ _ ⟨D',[],[],S.fund -10⟩ g _ hRST uz).mono ?_
    rintro e w7 ⟨rfl,GT⟩;have HS7:=h_ (MQ.out.below GT);have HO7:=h_ (b9.out.kept GT);have hM7:=hM6.below GT hM6l;clear MQ b9 GT gk hM6 hM6l y_0 y_1 y_2 y_3 y_4 y_5 y_6 y_7 hRST uz
    cases g
    ·clear HO7 hM7 gp NA
     obtain⟨u1,u2⟩:=xK (S:=S) (kd:=kd) (a:=ka) (b:=kb) (.inr (.inr (.inr (by have:=of_decide_eq_false HG.out;omega))));have hu:S=E:=by rw[<-HE.out];exact u1.symm
     have hv:false=bb:=by rw[<-gm.out];exact u2.symm
     subst hu;subst hv;have HF:=HS7;clear HS7 HE gm u1 u2 hr fR BA HG;obtain⟨_,_,hR,hZ,Ga,_,_⟩:=HF.out;obtain⟨z_0,z_1,z_2,z_3,z_4,z_5,z_6,z_7⟩:=hZ.c8;obtain⟨r_0,r_1,r_2,r_3,r_4,r_5,r_6,r_7,r_f0,r_f1,r_f2,r_f3,r_f4,r_f5,r_f6,r_f7⟩:=hR.b8;have Hl:=hR.lt;have Hy:=h_ (HF.out.fin);clear hR hZ HF;go_wp2;exact bodyPost_ret (v:= .tuple #[.agg (s8_ A0 A1 A2 A3 A4 A5 A6 a0 a1 a2 a3 a4 a5 a6 S),.bool false]) (by simp[results,Tryz.results37,go_sem,r_0,r_1,r_2,r_3,r_4,r_5,r_6,r_7,Hl,fH]) rfl ⟨_,_,_,_,_,_,_,_,_,_,_,_,_,_,fs,rfl,(Hy.out _ _ _ _ _ _ _ _).1,(Hy.out _ _ _ _ _ _ _ _).2⟩
    ·obtain⟨u1,u2⟩:=z5U (kd:=kd) (a:=ka) (b:=kb) hr fH fR.out (of_decide_eq_true HG.out)
     rw[BA.out] at u1;have hu:(⟨D',[],[],S.fund -10⟩:St)=E:=by rw[<-HE.out];exact u1.symm
     have hv:true=bb:=by rw[<-gm.out];exact u2.symm
     subst hu;subst hv;have CV:=HS7.out.R;obtain⟨r_0,r_1,r_2,r_3,r_4,r_5,r_6,r_7,r_f0,r_f1,r_f2,r_f3,r_f4,r_f5,r_f6,r_f7⟩:=CV.b8;have Hl:=CV.lt;have cH:=h_ HS7.out.blw;obtain⟨y_0,y_1,y_2,y_3,y_4,y_5,y_6,y_7⟩:=hM7.c8;clear HE gm u1 u2 hr fR BA HG HS7 CV hM7;go_wp2;refine bodyPost_ret (v:= .tuple #[.agg #[.slice N0 D'.fn.length n0,.slice N1 D'.fl.length n1,.slice N2 D'.nn.length n2,.slice N3 D'.nl.length n3,.slice N4 D'.ss.length n4,.slice none 0 0,.slice none 0 0,.int .i64 (S.fund -10)],.bool true]) (by simp[results,Tryz.results37,go_sem,r_0,r_1,r_2,r_3,r_4,r_5,r_6,r_7,Hl,fH]) rfl ?_
     have cM:=z28 (w:=w) HO7.out gp cH.out;exact⟨N0,n0,N1,n1,N2,n2,N3,n3,N4,n4,none,0,none,0,gs,rfl,(cM _ _ _ _ _ _ _ _).1,(cM _ _ _ _ _ _ _ _).2⟩
  ·have CK:(0:Int)<(S.ds.length:Int):=o_
   obtain⟨u1,u2⟩:=xK (S:=S) (kd:=kd) (a:=ka) (b:=kb) (.inr (.inl fH));have hu:S=E:=by rw[<-HE.out];exact u1.symm
   have hv:false=bb:=by rw[<-gm.out];exact u2.symm
   subst hu;subst hv;have HF:=gd;clear gd HE gm u1 u2 hr;obtain⟨_,_,hR,hZ,Ga,_,_⟩:=HF.out;obtain⟨z_0,z_1,z_2,z_3,z_4,z_5,z_6,z_7⟩:=hZ.c8;obtain⟨r_0,r_1,r_2,r_3,r_4,r_5,r_6,r_7,r_f0,r_f1,r_f2,r_f3,r_f4,r_f5,r_f6,r_f7⟩:=hR.b8;have Hl:=hR.lt;have Hy:=h_ (HF.out.fin);clear hR hZ HF;go_wp2;exact bodyPost_ret (v:= .tuple #[.agg (s8_ A0 A1 A2 A3 A4 A5 A6 a0 a1 a2 a3 a4 a5 a6 S),.bool false]) (by simp[results,Tryz.results37,go_sem,r_0,r_1,r_2,r_3,r_4,r_5,r_6,r_7,Hl,CK]) rfl ⟨_,_,_,_,_,_,_,_,_,_,_,_,_,_,fs,rfl,(Hy.out _ _ _ _ _ _ _ _).1,(Hy.out _ _ _ _ _ _ _ _).2⟩
theorem yO (v0 v1 v2 v3 v4 v5 v6:Value) (S:St) (kd:Int) (ka:Int) (kb:Int) (w:World) (h:RSt w v0 v1 v2 v3 v4 v5 v6 S) (hle:StLe S):
  Calls Tryz.prog 72 #[.agg #[v0,v1,v2,v3,v4,v5,v6,.int .i64 S.fund],.int .i64 kd,.int .i64 ka,.int .i64 kb] w (yk (chgS S kd ka kb) (chgB S kd ka kb) w):=by
 obtain⟨r,hr⟩:∃r,ze S=r:=⟨_,rfl⟩;have HR:=h_ hr;have gi:=h_ hle;obtain⟨B6,d6,ev6,CE,cJ,Gy⟩:=h.ds.at_;subst ev6;unfold maxLen at cJ;clear Gy;obtain⟨E,hE⟩:∃E,chgS S kd ka kb=E:=⟨_,rfl⟩;obtain⟨bb,gc⟩:∃bb,chgB S kd ka kb=bb:=⟨_,rfl⟩;rw[hE,gc];have HE:=h_ hE;have gm:=h_ gc;have HH:=h_ h;clear hle hE gc h
 go_enter Tryz.func72,Tryz.ntmps72
 go_wp2_with fail
 refine(jm _ _ _ _ _ _ _ S _ (HH.out.below bel_) gi.out).mono ?_
 rintro e w1 ⟨A0,a0,A1,a1,A2,a2,A3,a3,A4,a4,A5,a5,A6,a6,fs,rfl,Hj,h9⟩;have gh:Blk w1 w.heap.size 34 #[v0,v1,v2,v3,v4,v5,.slice B6 S.ds.length d6,.int .i64 S.fund]:=Blk.below ((Blk.newAt rfl).alloc _) h9 sz_;have gu:Blk w1 (w.heap.size+1) 34 z8_:=Blk.below (Blk.newAt (by simp)) h9 sz_;have h8:Below w.heap.size w w1:=bel_
 have Gi:OwnSt (w.heap.size+1+1) w1 (.slice A0 S.D.fn.length a0) (.slice A1 S.D.fl.length a1) (.slice A2 S.D.nn.length a2) (.slice A3 S.D.nl.length a3) (.slice A4 S.D.ss.length a4) (.slice A5 S.cs.length a5) (.slice A6 S.ds.length a6) S fs:=by simpa using Hj
 have gB:=h_ (OutSS.start Gi (aaa _) gh gu h8);obtain⟨x_0,x_1,x_2,x_3,x_4,x_5,x_6,x_7⟩:=gh.c8;have fi:=gh.lt;clear Hj h9 Gi
 go_wp2_with fail
 obtain⟨w2,gS⟩:∃w2,w2=w1.alloc (.cells #[.slice A0 S.D.fn.length a0,.slice A1 S.D.fl.length a1,.slice A2 S.D.nn.length a2,.slice A3 S.D.nl.length a3,.slice A4 S.D.ss.length a4,.slice A5 S.cs.length a5,.slice A6 S.ds.length a6,.int .i64 S.fund] 34):=⟨_,rfl⟩;rw[<-gS] at gB⊢;generalize w1.heap.size=Z at*;clear gS gh gu h8 x_0 x_1 x_2 x_3 x_4 x_5 x_6 x_7 fi;refine(j8 _ _ _ _ _ _ _ S r _ (HH.out.below gB.out.blw) HR).mono ?_
 rintro e w3 ⟨rfl,Hf⟩;have gd:=h_ (gB.out.below Hf);clear Hf gB;have gU:=gd.out.X;obtain⟨x_0,x_1,x_2,x_3,x_4,x_5,x_6,x_7⟩:=gU.c8
 cases r
 ·obtain⟨u1,u2⟩:=xK (S:=S) (kd:=kd) (a:=ka) (b:=kb) (.inl hr)
  have hu:S=E:=by rw[<-HE.out];exact u1.symm
  have hv:false=bb:=by rw[<-gm.out];exact u2.symm
  subst hu;subst hv;have HF:=gd;clear gd HE gm u1 u2 hr gU;obtain⟨_,_,hR,hZ,Ga,_,_⟩:=HF.out;obtain⟨z_0,z_1,z_2,z_3,z_4,z_5,z_6,z_7⟩:=hZ.c8;obtain⟨r_0,r_1,r_2,r_3,r_4,r_5,r_6,r_7,r_f0,r_f1,r_f2,r_f3,r_f4,r_f5,r_f6,r_f7⟩:=hR.b8;have Hl:=hR.lt;have Hy:=h_ (HF.out.fin);clear hR hZ HF;go_wp2;exact bodyPost_ret (v:= .tuple #[.agg (s8_ A0 A1 A2 A3 A4 A5 A6 a0 a1 a2 a3 a4 a5 a6 S),.bool false]) (by simp[results,Tryz.results72,go_sem,r_0,r_1,r_2,r_3,r_4,r_5,r_6,r_7,Hl]) rfl ⟨_,_,_,_,_,_,_,_,_,_,_,_,_,_,fs,rfl,(Hy.out _ _ _ _ _ _ _ _).1,(Hy.out _ _ _ _ _ _ _ _).2⟩
 ·by_cases fH:S.ds.length=0
  ·have Ma:((S.ds.length:Int)>0)=False:=by simp[fH]
   have bz:=HH.out.dr.below gd.out.blw;obtain⟨NJ,BD⟩:=Jc hr;have NA:IntKind.i64.wrap (S.fund -10)=S.fund -10:=aaQ _ o_
   go_wp2_with fail
   refine(z5f _ _ _ _ _ S.D kd ka kb _ bz gi.out.D).mono ?_
   obtain⟨D',Me⟩:∃x,ju S.D kd ka kb=x:=⟨_,rfl⟩;obtain⟨b',gw⟩:∃x,zS S.D kd ka kb=x:=⟨_,rfl⟩;rw[Me,gw];have BA:=h_ Me;have fR:=h_ gw;clear Me gw;rintro e w4 ⟨N0,n0,N1,n1,N2,n2,N3,n3,N4,n4,gs,rfl,gF,Hv⟩;have gZ:=h_ (gd.out.below Hv);have G8:=gZ.out.X;clear Hv gU x_0 x_1 x_2 x_3 x_4 x_5 x_6 x_7 bz;obtain⟨x_0,x_1,x_2,x_3,x_4,x_5,x_6,x_7⟩:=G8.c8;have gp:w.heap.size+1+1<=w3.heap.size:=by have:=gd.out.R.lt;omega
   have F3:=h_ gF;clear gF gd
   cases b'
   ·obtain⟨w5,GH⟩:∃u,u=w4.alloc (.cells #[.slice N0 D'.fn.length n0,.slice N1 D'.fl.length n1,.slice N2 D'.nn.length n2,.slice N3 D'.nl.length n3,.slice N4 D'.ss.length n4] 30):=⟨_,rfl⟩
    have fj:=h_ (gZ.out.below (GH▸(aaj _ _).alloc (aaa _) _))
    go_upto_region 5 with (fail)
    rw[<-GH];clear GH gZ G8 x_0 x_1 x_2 x_3 x_4 x_5 x_6 x_7;clear F3 gp NA NJ BD;obtain⟨u1,u2⟩:=xK (S:=S) (kd:=kd) (a:=ka) (b:=kb) (.inr (.inr (.inl fR.out)));have hu:S=E:=by rw[<-HE.out];exact u1.symm
    have hv:false=bb:=by rw[<-gm.out];exact u2.symm
    subst hu;subst hv;have HF:=fj;clear fj HE gm u1 u2 hr fR BA;obtain⟨_,_,hR,hZ,Ga,_,_⟩:=HF.out;obtain⟨z_0,z_1,z_2,z_3,z_4,z_5,z_6,z_7⟩:=hZ.c8;obtain⟨r_0,r_1,r_2,r_3,r_4,r_5,r_6,r_7,r_f0,r_f1,r_f2,r_f3,r_f4,r_f5,r_f6,r_f7⟩:=hR.b8;have Hl:=hR.lt;have Hy:=h_ (HF.out.fin);clear hR hZ HF;go_wp2;exact bodyPost_ret (v:= .tuple #[.agg (s8_ A0 A1 A2 A3 A4 A5 A6 a0 a1 a2 a3 a4 a5 a6 S),.bool false]) (by simp[results,Tryz.results72,go_sem,r_0,r_1,r_2,r_3,r_4,r_5,r_6,r_7,Hl,fH]) rfl ⟨_,_,_,_,_,_,_,_,_,_,_,_,_,_,fs,rfl,(Hy.out _ _ _ _ _ _ _ _).1,(Hy.out _ _ _ _ _ _ _ _).2⟩
   ·obtain⟨w5,GH⟩:∃u,u=w4.alloc (.cells #[.slice N0 D'.fn.length n0,.slice N1 D'.fl.length n1,.slice N2 D'.nn.length n2,.slice N3 D'.nl.length n3,.slice N4 D'.ss.length n4] 30):=⟨_,rfl⟩
    have fj:=h_ (gZ.out.below (GH▸(aaj _ _).alloc (aaa _) _));have Bz:Blk w5 w4.heap.size 30 #[.slice N0 D'.fn.length n0,.slice N1 D'.fl.length n1,.slice N2 D'.nn.length n2,.slice N3 D'.nl.length n3,.slice N4 D'.ss.length n4]:=GH▸Blk.newAt rfl;have gf:Below w4.heap.size w4 w5:=GH▸(aaj _ _).alloc (aaa _) _
    go_upto_region 5 with (fail)
    rw[<-GH];clear GH gZ G8 x_0 x_1 x_2 x_3 x_4 x_5 x_6 x_7;have Cn:=fj.out.X;obtain⟨x_0,x_1,x_2,x_3,x_4,x_5,x_6,x_7⟩:=Cn.c8;obtain⟨d_0,d_1,d_2,d_3,d_4⟩:=Bz.c5;have BR:=h_ (F3.out.kept gf);clear F3 gf Cn Bz
    by_cases hf:S.fund<10
    ·clear x_0 x_1 x_2 x_3 x_4 x_5 x_6 d_0 d_1 d_2 d_3 d_4 BR gp NA NJ BD
     obtain⟨u1,u2⟩:=xK (S:=S) (kd:=kd) (a:=ka) (b:=kb) (.inr (.inr (.inr hf)));have hu:S=E:=by rw[<-HE.out];exact u1.symm
     have hv:false=bb:=by rw[<-gm.out];exact u2.symm
     subst hu;subst hv;have HF:=fj;clear fj HE gm u1 u2 hr fR BA;obtain⟨_,_,hR,hZ,Ga,_,_⟩:=HF.out;obtain⟨z_0,z_1,z_2,z_3,z_4,z_5,z_6,z_7⟩:=hZ.c8;obtain⟨r_0,r_1,r_2,r_3,r_4,r_5,r_6,r_7,r_f0,r_f1,r_f2,r_f3,r_f4,r_f5,r_f6,r_f7⟩:=hR.b8;have Hl:=hR.lt;have Hy:=h_ (HF.out.fin);clear hR hZ HF;go_wp2;exact bodyPost_ret (v:= .tuple #[.agg (s8_ A0 A1 A2 A3 A4 A5 A6 a0 a1 a2 a3 a4 a5 a6 S),.bool false]) (by simp[results,Tryz.results72,go_sem,r_0,r_1,r_2,r_3,r_4,r_5,r_6,r_7,Hl,fH,hf]) rfl ⟨_,_,_,_,_,_,_,_,_,_,_,_,_,_,fs,rfl,(Hy.out _ _ _ _ _ _ _ _).1,(Hy.out _ _ _ _ _ _ _ _).2⟩
    ·obtain⟨u1,u2⟩:=z5U (kd:=kd) (a:=ka) (b:=kb) hr fH fR.out o_
     rw[BA.out] at u1;have hu:(⟨D',[],[],S.fund -10⟩:St)=E:=by rw[<-HE.out];exact u1.symm
     have hv:true=bb:=by rw[<-gm.out];exact u2.symm
     subst hu;subst hv;have f9:=fj.out.R;obtain⟨r_0,r_1,r_2,r_3,r_4,r_5,r_6,r_7,r_f0,r_f1,r_f2,r_f3,r_f4,r_f5,r_f6,r_f7⟩:=f9.b8;have Hl:=f9.lt;have cH:=h_ fj.out.blw;clear HE gm u1 u2 hr fR BA fj f9;go_wp2;refine bodyPost_ret (v:= .tuple #[.agg #[.slice N0 D'.fn.length n0,.slice N1 D'.fl.length n1,.slice N2 D'.nn.length n2,.slice N3 D'.nl.length n3,.slice N4 D'.ss.length n4,.slice none 0 0,.slice none 0 0,.int .i64 (S.fund -10)],.bool true]) (by simp[results,Tryz.results72,go_sem,r_0,r_1,r_2,r_3,r_4,r_5,r_6,r_7,Hl,fH]) rfl ?_
     have cM:=z28 (w:=w) (QG (S.fund -10) BR.out) gp cH.out;exact⟨N0,n0,N1,n1,N2,n2,N3,n3,N4,n4,none,0,none,0,gs,rfl,(cM _ _ _ _ _ _ _ _).1,(cM _ _ _ _ _ _ _ _).2⟩
  ·have CK:(0:Int)<(S.ds.length:Int):=o_
   obtain⟨u1,u2⟩:=xK (S:=S) (kd:=kd) (a:=ka) (b:=kb) (.inr (.inl fH));have hu:S=E:=by rw[<-HE.out];exact u1.symm
   have hv:false=bb:=by rw[<-gm.out];exact u2.symm
   subst hu;subst hv;have HF:=gd;clear gd HE gm u1 u2 hr;obtain⟨_,_,hR,hZ,Ga,_,_⟩:=HF.out;obtain⟨z_0,z_1,z_2,z_3,z_4,z_5,z_6,z_7⟩:=hZ.c8;obtain⟨r_0,r_1,r_2,r_3,r_4,r_5,r_6,r_7,r_f0,r_f1,r_f2,r_f3,r_f4,r_f5,r_f6,r_f7⟩:=hR.b8;have Hl:=hR.lt;have Hy:=h_ (HF.out.fin);clear hR hZ HF;go_wp2;exact bodyPost_ret (v:= .tuple #[.agg (s8_ A0 A1 A2 A3 A4 A5 A6 a0 a1 a2 a3 a4 a5 a6 S),.bool false]) (by simp[results,Tryz.results72,go_sem,r_0,r_1,r_2,r_3,r_4,r_5,r_6,r_7,Hl,CK]) rfl ⟨_,_,_,_,_,_,_,_,_,_,_,_,_,_,fs,rfl,(Hy.out _ _ _ _ _ _ _ _).1,(Hy.out _ _ _ _ _ _ _ _).2⟩
end Go.Proofs.YtnjcpljhmhdhkaaGreat
