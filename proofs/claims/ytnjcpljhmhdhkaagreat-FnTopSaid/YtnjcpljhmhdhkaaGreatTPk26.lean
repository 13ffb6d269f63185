/- part 26 -/
import Derived.Test.YtnjcpljhmhdhkaaGreatTPk25
set_option linter.unusedSimpArgs false
set_option linter.unusedVariables false
set_option maxRecDepth 100000
set_option maxHeartbeats 16000000
namespace Go.Proofs.YtnjcpljhmhdhkaaGreat
open Go.RowKit
noncomputable def jy (S:St):Bool:=ze S&&(decide (S.ds.length=0)&&qV S.D)
noncomputable def jk (S:St):St:=if jy S=true then⟨qw S.D,[],[],S.fund⟩ else S
theorem vH {S:St} (h:ze S=false∨¬S.ds.length=0∨qV S.D=false):jk S=S/\jy S=false:=by
 have hb:jy S=false:=by
  unfold jy
  rcases h with h|h|h<;>simp[h]
 exact⟨by unfold jk;rw[hb];rfl,hb⟩
theorem VM {S:St} (h1:ze S=true) (h2:S.ds.length=0) (h3:qV S.D=true):jk S=⟨qw S.D,[],[],S.fund⟩/\jy S=true:=by
 have hb:jy S=true:=by unfold jy;rw[h1,h3];simp[h2]
 exact⟨by unfold jk;rw[aao hb],hb⟩
theorem Q9 {base:Nat} {w:World} {a b c d e:Value} {D:Dr} {fs:List SF} (m:Int) (h:OwnD base w a b c d e D fs):OwnSt base w a b c d e (.slice none 0 0) (.slice none 0 0) ⟨D,[],[],m⟩ fs:=by
 have hz:∀k:Nat,¬(Value.slice none 0 0).ownBlock =some k:=fun k h=>by simp[Value.ownBlock] at h
 exact⟨h,OwnI.nil _ _,zx.nil _ _,fun k _ h=>hz k h,fun k _ h=>hz k h,fun k h=>absurd h (hz k)⟩
theorem VU (v0 v1 v2 v3 v4 v5 v6:Value) (S:St) (w:World) (h:RSt w v0 v1 v2 v3 v4 v5 v6 S) (hle:StLe S):
  Calls Tryz.prog 44 #[.agg #[v0,v1,v2,v3,v4,v5,v6,.int .i64 S.fund]] w (ya (jk S) (jy S) w):=by
 obtain⟨r,hr⟩:∃r,ze S=r:=⟨_,rfl⟩;have HR:=h_ hr;have gf:=h_ hle;obtain⟨B6,d6,ev6,cO,cP,fI⟩:=h.ds.at_;subst ev6;unfold maxLen at cP;clear fI;obtain⟨E,hE⟩:∃E,jk S=E:=⟨_,rfl⟩;obtain⟨bb,H4⟩:∃bb,jy S=bb:=⟨_,rfl⟩;rw[hE,H4];have HE:=h_ hE;have H9:=h_ H4;have HH:=h_ h;clear hle hE H4 h
 go_enter Tryz.func44,Tryz.ntmps44
 go_wp2_with fail
 refine(qR _ _ _ _ _ _ _ S _ (HH.out.below bel_) gf.out).mono ?_
 rintro e w1 ⟨A0,a0,A1,a1,A2,a2,A3,a3,A4,a4,A5,a5,A6,a6,fs,rfl,Hj,Hb⟩;have gB:Blk w1 w.heap.size 34 #[v0,v1,v2,v3,v4,v5,.slice B6 S.ds.length d6,.int .i64 S.fund]:=Blk.below ((Blk.newAt rfl).alloc _) Hb sz_;have H6:Blk w1 (w.heap.size+1) 34 z8_:=Blk.below (Blk.newAt (by simp)) Hb sz_;have Ha:Below w.heap.size w w1:=bel_
 have Gt:OwnSt (w.heap.size+1+1) w1 (.slice A0 S.D.fn.length a0) (.slice A1 S.D.fl.length a1) (.slice A2 S.D.nn.length a2) (.slice A3 S.D.nl.length a3) (.slice A4 S.D.ss.length a4) (.slice A5 S.cs.length a5) (.slice A6 S.ds.length a6) S fs:=by simpa using Hj
 have gD:=h_ (OutSS.start Gt (aaa _) gB H6 Ha);obtain⟨x_0,x_1,x_2,x_3,x_4,x_5,x_6,x_7⟩:=gB.c8;have GR:=gB.lt;clear Hj Hb Gt
 go_wp2_with fail
 obtain⟨w2,gw⟩:∃w2,w2=w1.alloc (.cells #[.slice A0 S.D.fn.length a0,.slice A1 S.D.fl.length a1,.slice A2 S.D.nn.length a2,.slice A3 S.D.nl.length a3,.slice A4 S.D.ss.length a4,.slice A5 S.cs.length a5,.slice A6 S.ds.length a6,.int .i64 S.fund] 34):=⟨_,rfl⟩;rw[<-gw] at gD⊢;generalize w1.heap.size=Z at*;clear gw gB H6 Ha x_0 x_1 x_2 x_3 x_4 x_5 x_6 x_7 GR;refine(qA _ _ _ _ _ _ _ S r _ (HH.out.below gD.out.blw) HR).mono ?_
 rintro e w3 ⟨rfl,Hg⟩;have Ht:=h_ (gD.out.below Hg);clear Hg gD;have gS:=Ht.out.X;obtain⟨x_0,x_1,x_2,x_3,x_4,x_5,x_6,x_7⟩:=gS.c8
 cases r
 ·obtain⟨u1,u2⟩:=vH (S:=S) (.inl hr)
  have hu:S=E:=by rw[<-HE.out];exact u1.symm
  have hv:false=bb:=by rw[<-H9.out];exact u2.symm
  subst hu;subst hv;have HF:=Ht;clear Ht HE H9 u1 u2 hr gS;obtain⟨_,_,hR,hZ,Gb,_,_⟩:=HF.out;obtain⟨z_0,z_1,z_2,z_3,z_4,z_5,z_6,z_7⟩:=hZ.c8;obtain⟨r_0,r_1,r_2,r_3,r_4,r_5,r_6,r_7,r_f0,r_f1,r_f2,r_f3,r_f4,r_f5,r_f6,r_f7⟩:=hR.b8;have Hl:=hR.lt;have Hx:=h_ (HF.out.fin);clear hR hZ HF;go_wp2;exact bodyPost_ret (v:= .tuple #[.agg (s8_ A0 A1 A2 A3 A4 A5 A6 a0 a1 a2 a3 a4 a5 a6 S),.bool false]) (by simp[results,Tryz.results44,go_sem,r_0,r_1,r_2,r_3,r_4,r_5,r_6,r_7,Hl]) rfl ⟨_,_,_,_,_,_,_,_,_,_,_,_,_,_,fs,rfl,(Hx.out _ _ _ _ _ _ _ _).1,(Hx.out _ _ _ _ _ _ _ _).2⟩
 ·by_cases fX:S.ds.length=0
  ·have BP:((S.ds.length:Int)>0)=False:=by simp[fX]
   have Nw:=HH.out.dr.below Ht.out.blw
   go_wp2_with fail
   refine(z1f _ _ _ _ _ S.D _ Nw gf.out.D).mono ?_
   obtain⟨D',m7⟩:∃x,qw S.D=x:=⟨_,rfl⟩;obtain⟨b',gH⟩:∃x,qV S.D=x:=⟨_,rfl⟩;rw[m7,gH];have Bw:=h_ m7;have fE:=h_ gH;clear m7 gH;rintro e w4 ⟨N0,n0,N1,n1,N2,n2,N3,n3,N4,n4,gs,rfl,gz,H5⟩;have gx:=h_ (Ht.out.below H5);have G7:=gx.out.X;clear H5 gS x_0 x_1 x_2 x_3 x_4 x_5 x_6 x_7 Nw;obtain⟨x_0,x_1,x_2,x_3,x_4,x_5,x_6,x_7⟩:=G7.c8;have Fe:=G7.lt;have gj:w.heap.size+1+1<=w3.heap.size:=by have:=Ht.out.R.lt;omega
   have F6:=h_ gz;clear gz Ht
   cases b'
   ·obtain⟨w5,GE⟩:∃u,u=w4.alloc (.cells #[.slice N0 D'.fn.length n0,.slice N1 D'.fl.length n1,.slice N2 D'.nn.length n2,.slice N3 D'.nl.length n3,.slice N4 D'.ss.length n4] 30):=⟨_,rfl⟩
    have Gu:=h_ (gx.out.below (GE▸(aaj _ _).alloc (aaa _) _))
    go_upto_region 5 with (fail)
    rw[<-GE];clear GE gx G7 Fe x_0 x_1 x_2 x_3 x_4 x_5 x_6 x_7 F6 gj;obtain⟨u1,u2⟩:=vH (S:=S) (.inr (.inr fE.out));have hu:S=E:=by rw[<-HE.out];exact u1.symm
    have hv:false=bb:=by rw[<-H9.out];exact u2.symm
    subst hu;subst hv;have HF:=Gu;clear Gu HE H9 u1 u2 hr fE Bw;obtain⟨_,_,hR,hZ,Gb,_,_⟩:=HF.out;obtain⟨z_0,z_1,z_2,z_3,z_4,z_5,z_6,z_7⟩:=hZ.c8;obtain⟨r_0,r_1,r_2,r_3,r_4,r_5,r_6,r_7,r_f0,r_f1,r_f2,r_f3,r_f4,r_f5,r_f6,r_f7⟩:=hR.b8;have Hl:=hR.lt;have Hx:=h_ (HF.out.fin);clear hR hZ HF;go_wp2;exact bodyPost_ret (v:= .tuple #[.agg (s8_ A0 A1 A2 A3 A4 A5 A6 a0 a1 a2 a3 a4 a5 a6 S),.bool false]) (by simp[results,Tryz.results44,go_sem,r_0,r_1,r_2,r_3,r_4,r_5,r_6,r_7,Hl,fX]) rfl ⟨_,_,_,_,_,_,_,_,_,_,_,_,_,_,fs,rfl,(Hx.out _ _ _ _ _ _ _ _).1,(Hx.out _ _ _ _ _ _ _ _).2⟩
   ·obtain⟨u1,u2⟩:=VM hr fX fE.out
    rw[Bw.out] at u1;have hu:(⟨D',[],[],S.fund⟩:St)=E:=by rw[<-HE.out];exact u1.symm
    have hv:true=bb:=by rw[<-H9.out];exact u2.symm
    subst hu;subst hv;have GY:=gx.out.R;obtain⟨r_0,r_1,r_2,r_3,r_4,r_5,r_6,r_7,r_f0,r_f1,r_f2,r_f3,r_f4,r_f5,r_f6,r_f7⟩:=GY.b8;have Hl:=GY.lt;have fY:=h_ gx.out.blw;clear HE H9 u1 u2 hr fE Bw gx G7 GY;go_wp2;refine bodyPost_ret (v:= .tuple #[.agg #[.slice N0 D'.fn.length n0,.slice N1 D'.fl.length n1,.slice N2 D'.nn.length n2,.slice N3 D'.nl.length n3,.slice N4 D'.ss.length n4,.slice none 0 0,.slice none 0 0,.int .i64 S.fund],.bool true]) (by simp[results,Tryz.results44,go_sem,r_0,r_1,r_2,r_3,r_4,r_5,r_6,r_7,Hl,fX]) rfl ?_
    have cV:=z1s (w:=w) (Q9 S.fund F6.out) gj fY.out;exact⟨N0,n0,N1,n1,N2,n2,N3,n3,N4,n4,none,0,none,0,gs,rfl,(cV _ _ _ _ _ _ _ _).1.alloc _,(cV _ _ _ _ _ _ _ _).2.alloc (cV _ _ _ _ _ _ _ _).2.size _⟩
  ·have bE:(0:Int)<(S.ds.length:Int):=o_
   obtain⟨u1,u2⟩:=vH (S:=S) (.inr (.inl fX));have hu:S=E:=by rw[<-HE.out];exact u1.symm
   have hv:false=bb:=by rw[<-H9.out];exact u2.symm
   subst hu;subst hv;have HF:=Ht;clear Ht HE H9 u1 u2 hr;obtain⟨_,_,hR,hZ,Gb,_,_⟩:=HF.out;obtain⟨z_0,z_1,z_2,z_3,z_4,z_5,z_6,z_7⟩:=hZ.c8;obtain⟨r_0,r_1,r_2,r_3,r_4,r_5,r_6,r_7,r_f0,r_f1,r_f2,r_f3,r_f4,r_f5,r_f6,r_f7⟩:=hR.b8;have Hl:=hR.lt;have Hx:=h_ (HF.out.fin);clear hR hZ HF;go_wp2;exact bodyPost_ret (v:= .tuple #[.agg (s8_ A0 A1 A2 A3 A4 A5 A6 a0 a1 a2 a3 a4 a5 a6 S),.bool false]) (by simp[results,Tryz.results44,go_sem,r_0,r_1,r_2,r_3,r_4,r_5,r_6,r_7,Hl,bE]) rfl ⟨_,_,_,_,_,_,_,_,_,_,_,_,_,_,fs,rfl,(Hx.out _ _ _ _ _ _ _ _).1,(Hx.out _ _ _ _ _ _ _ _).2⟩
theorem Vz (v0 v1 v2 v3 v4 v5 v6:Value) (S:St) (w:World) (h:RSt w v0 v1 v2 v3 v4 v5 v6 S) (hle:StLe S):
  Calls Tryz.prog 73 #[.agg #[v0,v1,v2,v3,v4,v5,v6,.int .i64 S.fund]] w (ya (jk S) (jy S) w):=by
 obtain⟨r,hr⟩:∃r,ze S=r:=⟨_,rfl⟩;have HR:=h_ hr;have gf:=h_ hle;obtain⟨B6,d6,ev6,cO,cP,fI⟩:=h.ds.at_;subst ev6;unfold maxLen at cP;clear fI;obtain⟨E,hE⟩:∃E,jk S=E:=⟨_,rfl⟩;obtain⟨bb,H4⟩:∃bb,jy S=bb:=⟨_,rfl⟩;rw[hE,H4];have HE:=h_ hE;have H9:=h_ H4;have HH:=h_ h;clear hle hE H4 h
 go_enter Tryz.func73,Tryz.ntmps73
 go_wp2_with fail
 refine(jV _ _ _ _ _ _ _ S _ (HH.out.below bel_) gf.out).mono ?_
 rintro e w1 ⟨A0,a0,A1,a1,A2,a2,A3,a3,A4,a4,A5,a5,A6,a6,fs,rfl,Hj,Hb⟩;have gB:Blk w1 w.heap.size 34 #[v0,v1,v2,v3,v4,v5,.slice B6 S.ds.length d6,.int .i64 S.fund]:=Blk.below ((Blk.newAt rfl).alloc _) Hb sz_;have H6:Blk w1 (w.heap.size+1) 34 z8_:=Blk.below (Blk.newAt (by simp)) Hb sz_;have Ha:Below w.heap.size w w1:=bel_
 have Gt:OwnSt (w.heap.size+1+1) w1 (.slice A0 S.D.fn.length a0) (.slice A1 S.D.fl.length a1) (.slice A2 S.D.nn.length a2) (.slice A3 S.D.nl.length a3) (.slice A4 S.D.ss.length a4) (.slice A5 S.cs.length a5) (.slice A6 S.ds.length a6) S fs:=by simpa using Hj
 have gD:=h_ (OutSS.start Gt (aaa _) gB H6 Ha);obtain⟨x_0,x_1,x_2,x_3,x_4,x_5,x_6,x_7⟩:=gB.c8;have GR:=gB.lt;clear Hj Hb Gt
 go_wp2_with fail
 obtain⟨w2,gw⟩:∃w2,w2=w1.alloc (.cells #[.slice A0 S.D.fn.length a0,.slice A1 S.D.fl.length a1,.slice A2 S.D.nn.length a2,.slice A3 S.D.nl.length a3,.slice A4 S.D.ss.length a4,.slice A5 S.cs.length a5,.slice A6 S.ds.length a6,.int .i64 S.fund] 34):=⟨_,rfl⟩;rw[<-gw] at gD⊢;generalize w1.heap.size=Z at*;clear gw gB H6 Ha x_0 x_1 x_2 x_3 x_4 x_5 x_6 x_7 GR;refine(jc _ _ _ _ _ _ _ S r _ (HH.out.below gD.out.blw) HR).mono ?_
 rintro e w3 ⟨rfl,Hg⟩;have Ht:=h_ (gD.out.below Hg);clear Hg gD;have gS:=Ht.out.X;obtain⟨x_0,x_1,x_2,x_3,x_4,x_5,x_6,x_7⟩:=gS.c8
 cases r
 ·obtain⟨u1,u2⟩:=vH (S:=S) (.inl hr)
  have hu:S=E:=by rw[<-HE.out];exact u1.symm
  have hv:false=bb:=by rw[<-H9.out];exact u2.symm
  subst hu;subst hv;have HF:=Ht;clear Ht HE H9 u1 u2 hr gS;obtain⟨_,_,hR,hZ,Gb,_,_⟩:=HF.out;obtain⟨z_0,z_1,z_2,z_3,z_4,z_5,z_6,z_7⟩:=hZ.c8;obtain⟨r_0,r_1,r_2,r_3,r_4,r_5,r_6,r_7,r_f0,r_f1,r_f2,r_f3,r_f4,r_f5,r_f6,r_f7⟩:=hR.b8;have Hl:=hR.lt;have Hx:=h_ (HF.out.fin);clear hR hZ HF;go_wp2;exact bodyPost_ret (v:= .tuple #[.agg (s8_ A0 A1 A2 A3 A4 A5 A6 a0 a1 a2 a3 a4 a5 a6 S),.bool false]) (by simp[results,Tryz.results73,go_sem,r_0,r_1,r_2,r_3,r_4,r_5,r_6,r_7,Hl]) rfl ⟨_,_,_,_,_,_,_,_,_,_,_,_,_,_,fs,rfl,(Hx.out _ _ _ _ _ _ _ _).1,(Hx.out _ _ _ _ _ _ _ _).2⟩
 ·by_cases fX:S.ds.length=0
  ·have BP:((S.ds.length:Int)>0)=False:=by simp[fX]
   have Nw:=HH.out.dr.below Ht.out.blw
   go_wp2_with fail
   refine(z19 _ _ _ _ _ S.D _ Nw gf.out.D).mono ?_
   obtain⟨D',m7⟩:∃x,qw S.D=x:=⟨_,rfl⟩;obtain⟨b',gH⟩:∃x,qV S.D=x:=⟨_,rfl⟩;rw[m7,gH];have Bw:=h_ m7;have fE:=h_ gH;clear m7 gH;rintro e w4 ⟨N0,n0,N1,n1,N2,n2,N3,n3,N4,n4,gs,rfl,gz,H5⟩;have gx:=h_ (Ht.out.below H5);have G7:=gx.out.X;clear H5 gS x_0 x_1 x_2 x_3 x_4 x_5 x_6 x_7 Nw;obtain⟨x_0,x_1,x_2,x_3,x_4,x_5,x_6,x_7⟩:=G7.c8;have Fe:=G7.lt;have gj:w.heap.size+1+1<=w3.heap.size:=by have:=Ht.out.R.lt;omega
   have F6:=h_ gz;clear gz Ht
   cases b'
   ·obtain⟨w5,GE⟩:∃u,u=w4.alloc (.cells #[.slice N0 D'.fn.length n0,.slice N1 D'.fl.length n1,.slice N2 D'.nn.length n2,.slice N3 D'.nl.length n3,.slice N4 D'.ss.length n4] 30):=⟨_,rfl⟩
    have Gu:=h_ (gx.out.below (GE▸(aaj _ _).alloc (aaa _) _))
    go_upto_region 5 with (fail)
    rw[<-GE];clear GE gx G7 Fe x_0 x_1 x_2 x_3 x_4 x_5 x_6 x_7 F6 gj;obtain⟨u1,u2⟩:=vH (S:=S) (.inr (.inr fE.out));have hu:S=E:=by rw[<-HE.out];exact u1.symm
    have hv:false=bb:=by rw[<-H9.out];exact u2.symm
    subst hu;subst hv;have HF:=Gu;clear Gu HE H9 u1 u2 hr fE Bw;obtain⟨_,_,hR,hZ,Gb,_,_⟩:=HF.out;obtain⟨z_0,z_1,z_2,z_3,z_4,z_5,z_6,z_7⟩:=hZ.c8;obtain⟨r_0,r_1,r_2,r_3,r_4,r_5,r_6,r_7,r_f0,r_f1,r_f2,r_f3,r_f4,r_f5,r_f6,r_f7⟩:=hR.b8;have Hl:=hR.lt;have Hx:=h_ (HF.out.fin);clear hR hZ HF;go_wp2;exact bodyPost_ret (v:= .tuple #[.agg (s8_ A0 A1 A2 A3 A4 A5 A6 a0 a1 a2 a3 a4 a5 a6 S),.bool false]) (by simp[results,Tryz.results73,go_sem,r_0,r_1,r_2,r_3,r_4,r_5,r_6,r_7,Hl,fX]) rfl ⟨_,_,_,_,_,_,_,_,_,_,_,_,_,_,fs,rfl,(Hx.out _ _ _ _ _ _ _ _).1,(Hx.out _ _ _ _ _ _ _ _).2⟩
   ·obtain⟨u1,u2⟩:=VM hr fX fE.out
    rw[Bw.out] at u1;have hu:(⟨D',[],[],S.fund⟩:St)=E:=by rw[<-HE.out];exact u1.symm
    have hv:true=bb:=by rw[<-H9.out];exact u2.symm
    subst hu;subst hv;have GY:=gx.out.R;obtain⟨r_0,r_1,r_2,r_3,r_4,r_5,r_6,r_7,r_f0,r_f1,r_f2,r_f3,r_f4,r_f5,r_f6,r_f7⟩:=GY.b8;have Hl:=GY.lt;have fY:=h_ gx.out.blw;clear HE H9 u1 u2 hr fE Bw gx G7 GY;go_wp2;refine bodyPost_ret (v:= .tuple #[.agg #[.slice N0 D'.fn.length n0,.slice N1 D'.fl.length n1,.slice N2 D'.nn.length n2,.slice N3 D'.nl.length n3,.slice N4 D'.ss.length n4,.slice none 0 0,.slice none 0 0,.int .i64 S.fund],.bool true]) (by simp[results,Tryz.results73,go_sem,r_0,r_1,r_2,r_3,r_4,r_5,r_6,r_7,Hl,fX]) rfl ?_
    have cV:=z1s (w:=w) (Q9 S.fund F6.out) gj fY.out;exact⟨N0,n0,N1,n1,N2,n2,N3,n3,N4,n4,none,0,none,0,gs,rfl,(cV _ _ _ _ _ _ _ _).1.alloc _,(cV _ _ _ _ _ _ _ _).2.alloc (cV _ _ _ _ _ _ _ _).2.size _⟩
  ·have bE:(0:Int)<(S.ds.length:Int):=o_
   obtain⟨u1,u2⟩:=vH (S:=S) (.inr (.inl fX));have hu:S=E:=by rw[<-HE.out];exact u1.symm
   have hv:false=bb:=by rw[<-H9.out];exact u2.symm
   subst hu;subst hv;have HF:=Ht;clear Ht HE H9 u1 u2 hr;obtain⟨_,_,hR,hZ,Gb,_,_⟩:=HF.out;obtain⟨z_0,z_1,z_2,z_3,z_4,z_5,z_6,z_7⟩:=hZ.c8;obtain⟨r_0,r_1,r_2,r_3,r_4,r_5,r_6,r_7,r_f0,r_f1,r_f2,r_f3,r_f4,r_f5,r_f6,r_f7⟩:=hR.b8;have Hl:=hR.lt;have Hx:=h_ (HF.out.fin);clear hR hZ HF;go_wp2;exact bodyPost_ret (v:= .tuple #[.agg (s8_ A0 A1 A2 A3 A4 A5 A6 a0 a1 a2 a3 a4 a5 a6 S),.bool false]) (by simp[results,Tryz.results73,go_sem,r_0,r_1,r_2,r_3,r_4,r_5,r_6,r_7,Hl,bE]) rfl ⟨_,_,_,_,_,_,_,_,_,_,_,_,_,_,fs,rfl,(Hx.out _ _ _ _ _ _ _ _).1,(Hx.out _ _ _ _ _ _ _ _).2⟩
end Go.Proofs.YtnjcpljhmhdhkaaGreat
