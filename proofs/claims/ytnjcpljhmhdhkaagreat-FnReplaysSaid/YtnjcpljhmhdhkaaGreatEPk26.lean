/- part 26 -/
import Derived.Test.YtnjcpljhmhdhkaaGreatEPk24
import Derived.Test.YtnjcpljhmhdhkaaGreatEPk25
set_option linter.unusedSimpArgs false
set_option linter.unusedVariables false
set_option maxRecDepth 100000
set_option maxHeartbeats 16000000
namespace Go.Proofs.YtnjcpljhmhdhkaaGreat
open Go.RowKit
noncomputable def yd (S:St):Bool:=zd S&&(decide (S.ds.length=0)&&jB S.D)
noncomputable def yu (S:St):St:=if yd S=true then⟨jR S.D,[],[],S.fund⟩ else S
theorem QY {S:St} (h:zd S=false∨¬S.ds.length=0∨jB S.D=false):yu S=S/\yd S=false:=by
 have hb:yd S=false:=by
  unfold yd
  rcases h with h|h|h<;>simp[h]
 exact⟨by unfold yu;rw[hb];rfl,hb⟩
theorem z3i {S:St} (h1:zd S=true) (h2:S.ds.length=0) (h3:jB S.D=true):yu S=⟨jR S.D,[],[],S.fund⟩/\yd S=true:=by
 have hb:yd S=true:=by unfold yd;rw[h1,h3];simp[h2]
 exact⟨by unfold yu;rw[aao hb],hb⟩
theorem Xo {base:Nat} {w:World} {a b c d e:Value} {D:Dr} {fs:List SF} (m:Int) (h:OwnD base w a b c d e D fs):OwnSt base w a b c d e (.slice none 0 0) (.slice none 0 0) ⟨D,[],[],m⟩ fs:=by
 have hz:∀k:Nat,¬(Value.slice none 0 0).ownBlock =some k:=fun k h=>by simp[Value.ownBlock] at h
 exact⟨h,OwnI.nil _ _,zK.nil _ _,fun k _ h=>hz k h,fun k _ h=>hz k h,fun k h=>absurd h (hz k)⟩
theorem Va (v0 v1 v2 v3 v4 v5 v6:Value) (S:St) (w:World) (h:RSt w v0 v1 v2 v3 v4 v5 v6 S) (hle:StLe S):
  Calls Tryz.prog 44 #[.agg #[v0,v1,v2,v3,v4,v5,v6,.int .i64 S.fund]] w (yM (yu S) (yd S) w):=by
 obtain⟨r,hr⟩:∃r,zd S=r:=⟨_,rfl⟩;have HR:=h_ hr;have gf:=h_ hle;obtain⟨B6,d6,ev6,cK,CR,fr⟩:=h.ds.at_;subst ev6;unfold maxLen at CR;clear fr;obtain⟨E,hE⟩:∃E,yu S=E:=⟨_,rfl⟩;obtain⟨bb,gj⟩:∃bb,yd S=bb:=⟨_,rfl⟩;rw[hE,gj];have HE:=h_ hE;have gw:=h_ gj;have HH:=h_ h;clear hle hE gj h
 go_enter Tryz.func44,Tryz.ntmps44
 go_wp2_with fail
 refine(qw _ _ _ _ _ _ _ S _ (HH.out.below bel_) gf.out).mono ?_
 rintro e w1 ⟨A0,a0,A1,a1,A2,a2,A3,a3,A4,a4,A5,a5,A6,a6,fs,rfl,Hi,h9⟩;have Ga:Blk w1 w.heap.size 34 #[v0,v1,v2,v3,v4,v5,.slice B6 S.ds.length d6,.int .i64 S.fund]:=Blk.below ((Blk.newAt rfl).alloc _) h9 sz_;have Hx:Blk w1 (w.heap.size+1) 34 z8_:=Blk.below (Blk.newAt (by simp)) h9 sz_;have h8:Below w.heap.size w w1:=bel_
 have GQ:OwnSt (w.heap.size+1+1) w1 (.slice A0 S.D.fn.length a0) (.slice A1 S.D.fl.length a1) (.slice A2 S.D.nn.length a2) (.slice A3 S.D.nl.length a3) (.slice A4 S.D.ss.length a4) (.slice A5 S.cs.length a5) (.slice A6 S.ds.length a6) S fs:=by simpa using Hi
 have gU:=h_ (OutSS.start GQ (aaa _) Ga Hx h8);obtain⟨x_0,x_1,x_2,x_3,x_4,x_5,x_6,x_7⟩:=Ga.c8;have fS:=Ga.lt;clear Hi h9 GQ
 go_wp2_with fail
 obtain⟨w2,gR⟩:∃w2,w2=w1.alloc (.cells #[.slice A0 S.D.fn.length a0,.slice A1 S.D.fl.length a1,.slice A2 S.D.nn.length a2,.slice A3 S.D.nl.length a3,.slice A4 S.D.ss.length a4,.slice A5 S.cs.length a5,.slice A6 S.ds.length a6,.int .i64 S.fund] 34):=⟨_,rfl⟩;rw[<-gR] at gU⊢;generalize w1.heap.size=Z at*;clear gR Ga Hx h8 x_0 x_1 x_2 x_3 x_4 x_5 x_6 x_7 fS;refine(qb _ _ _ _ _ _ _ S r _ (HH.out.below gU.out.blw) HR).mono ?_
 rintro e w3 ⟨rfl,He⟩;have gk:=h_ (gU.out.below He);clear He gU;have Gr:=gk.out.X;obtain⟨x_0,x_1,x_2,x_3,x_4,x_5,x_6,x_7⟩:=Gr.c8
 cases r
 ·obtain⟨u1,u2⟩:=QY (S:=S) (.inl hr)
  have hu:S=E:=by rw[<-HE.out];exact u1.symm
  have hv:false=bb:=by rw[<-gw.out];exact u2.symm
  subst hu;subst hv;have HF:=gk;clear gk HE gw u1 u2 hr Gr;obtain⟨_,_,hR,hZ,Gu,_,_⟩:=HF.out;obtain⟨z_0,z_1,z_2,z_3,z_4,z_5,z_6,z_7⟩:=hZ.c8;obtain⟨r_0,r_1,r_2,r_3,r_4,r_5,r_6,r_7,r_f0,r_f1,r_f2,r_f3,r_f4,r_f5,r_f6,r_f7⟩:=hR.b8;have Hr:=hR.lt;have gl:=h_ (HF.out.fin);clear hR hZ HF;go_wp2;exact bodyPost_ret (v:= .tuple #[.agg #[.slice A0 S.D.fn.length a0,.slice A1 S.D.fl.length a1,.slice A2 S.D.nn.length a2,.slice A3 S.D.nl.length a3,.slice A4 S.D.ss.length a4,.slice A5 S.cs.length a5,.slice A6 S.ds.length a6,.int .i64 S.fund],.bool false]) (by simp[results,Tryz.results44,go_sem,r_0,r_1,r_2,r_3,r_4,r_5,r_6,r_7,Hr]) rfl ⟨_,_,_,_,_,_,_,_,_,_,_,_,_,_,fs,rfl,(gl.out _ _ _ _ _ _ _ _).1,(gl.out _ _ _ _ _ _ _ _).2⟩
 ·by_cases Fn:S.ds.length=0
  ·have BW:((S.ds.length:Int)>0)=False:=by simp[Fn]
   have Wx:=HH.out.dr.below gk.out.blw
   go_wp2_with fail
   refine(z15 _ _ _ _ _ S.D _ Wx gf.out.D).mono ?_
   obtain⟨D',uS⟩:∃x,jR S.D=x:=⟨_,rfl⟩;obtain⟨b',gS⟩:∃x,jB S.D=x:=⟨_,rfl⟩;rw[uS,gS];have NU:=h_ uS;have FF:=h_ gS;clear uS gS;rintro e w4 ⟨N0,n0,N1,n1,N2,n2,N3,n3,N4,n4,gs,rfl,gH,Hw⟩;have Gg:=h_ (gk.out.below Hw);have Fh:=Gg.out.X;clear Hw Gr x_0 x_1 x_2 x_3 x_4 x_5 x_6 x_7 Wx;obtain⟨x_0,x_1,x_2,x_3,x_4,x_5,x_6,x_7⟩:=Fh.c8;have fT:=Fh.lt;have go:w.heap.size+1+1<=w3.heap.size:=by have:=gk.out.R.lt;omega
   have cY:=h_ gH;clear gH gk
   cases b'
   ·obtain⟨w5,fe⟩:∃u,u=w4.alloc (.cells #[.slice N0 D'.fn.length n0,.slice N1 D'.fl.length n1,.slice N2 D'.nn.length n2,.slice N3 D'.nl.length n3,.slice N4 D'.ss.length n4] 30):=⟨_,rfl⟩
    have GI:=h_ (Gg.out.below (fe▸(aaj _ _).alloc (aaa _) _))
    go_upto_region 5 with (fail)
    rw[<-fe];clear fe Gg Fh fT x_0 x_1 x_2 x_3 x_4 x_5 x_6 x_7 cY go;obtain⟨u1,u2⟩:=QY (S:=S) (.inr (.inr FF.out));have hu:S=E:=by rw[<-HE.out];exact u1.symm
    have hv:false=bb:=by rw[<-gw.out];exact u2.symm
    subst hu;subst hv;have HF:=GI;clear GI HE gw u1 u2 hr FF NU;obtain⟨_,_,hR,hZ,Gu,_,_⟩:=HF.out;obtain⟨z_0,z_1,z_2,z_3,z_4,z_5,z_6,z_7⟩:=hZ.c8;obtain⟨r_0,r_1,r_2,r_3,r_4,r_5,r_6,r_7,r_f0,r_f1,r_f2,r_f3,r_f4,r_f5,r_f6,r_f7⟩:=hR.b8;have Hr:=hR.lt;have gl:=h_ (HF.out.fin);clear hR hZ HF;go_wp2;exact bodyPost_ret (v:= .tuple #[.agg #[.slice A0 S.D.fn.length a0,.slice A1 S.D.fl.length a1,.slice A2 S.D.nn.length a2,.slice A3 S.D.nl.length a3,.slice A4 S.D.ss.length a4,.slice A5 S.cs.length a5,.slice A6 S.ds.length a6,.int .i64 S.fund],.bool false]) (by simp[results,Tryz.results44,go_sem,r_0,r_1,r_2,r_3,r_4,r_5,r_6,r_7,Hr,Fn]) rfl ⟨_,_,_,_,_,_,_,_,_,_,_,_,_,_,fs,rfl,(gl.out _ _ _ _ _ _ _ _).1,(gl.out _ _ _ _ _ _ _ _).2⟩
   ·obtain⟨u1,u2⟩:=z3i hr Fn FF.out
    rw[NU.out] at u1;have hu:(⟨D',[],[],S.fund⟩:St)=E:=by rw[<-HE.out];exact u1.symm
    have hv:true=bb:=by rw[<-gw.out];exact u2.symm
    subst hu;subst hv;have fF:=Gg.out.R;obtain⟨r_0,r_1,r_2,r_3,r_4,r_5,r_6,r_7,r_f0,r_f1,r_f2,r_f3,r_f4,r_f5,r_f6,r_f7⟩:=fF.b8;have Hr:=fF.lt;have fH:=h_ Gg.out.blw;clear HE gw u1 u2 hr FF NU Gg Fh fF;go_wp2;refine bodyPost_ret (v:= .tuple #[.agg #[.slice N0 D'.fn.length n0,.slice N1 D'.fl.length n1,.slice N2 D'.nn.length n2,.slice N3 D'.nl.length n3,.slice N4 D'.ss.length n4,.slice none 0 0,.slice none 0 0,.int .i64 S.fund],.bool true]) (by simp[results,Tryz.results44,go_sem,r_0,r_1,r_2,r_3,r_4,r_5,r_6,r_7,Hr,Fn]) rfl ?_
    have mT:=z6c (w:=w) (Xo S.fund cY.out) go fH.out;exact⟨N0,n0,N1,n1,N2,n2,N3,n3,N4,n4,none,0,none,0,gs,rfl,(mT _ _ _ _ _ _ _ _).1.alloc _,(mT _ _ _ _ _ _ _ _).2.alloc (mT _ _ _ _ _ _ _ _).2.size _⟩
  ·have CT:(0:Int)<(S.ds.length:Int):=o_
   obtain⟨u1,u2⟩:=QY (S:=S) (.inr (.inl Fn));have hu:S=E:=by rw[<-HE.out];exact u1.symm
   have hv:false=bb:=by rw[<-gw.out];exact u2.symm
   subst hu;subst hv;have HF:=gk;clear gk HE gw u1 u2 hr;obtain⟨_,_,hR,hZ,Gu,_,_⟩:=HF.out;obtain⟨z_0,z_1,z_2,z_3,z_4,z_5,z_6,z_7⟩:=hZ.c8;obtain⟨r_0,r_1,r_2,r_3,r_4,r_5,r_6,r_7,r_f0,r_f1,r_f2,r_f3,r_f4,r_f5,r_f6,r_f7⟩:=hR.b8;have Hr:=hR.lt;have gl:=h_ (HF.out.fin);clear hR hZ HF;go_wp2;exact bodyPost_ret (v:= .tuple #[.agg #[.slice A0 S.D.fn.length a0,.slice A1 S.D.fl.length a1,.slice A2 S.D.nn.length a2,.slice A3 S.D.nl.length a3,.slice A4 S.D.ss.length a4,.slice A5 S.cs.length a5,.slice A6 S.ds.length a6,.int .i64 S.fund],.bool false]) (by simp[results,Tryz.results44,go_sem,r_0,r_1,r_2,r_3,r_4,r_5,r_6,r_7,Hr,CT]) rfl ⟨_,_,_,_,_,_,_,_,_,_,_,_,_,_,fs,rfl,(gl.out _ _ _ _ _ _ _ _).1,(gl.out _ _ _ _ _ _ _ _).2⟩
noncomputable def chgB (S:St) (kd a b:Int):Bool:=zd S&&(decide (S.ds.length=0)&&(zV S.D kd a b&&decide (10<=S.fund)))
noncomputable def chgS (S:St) (kd a b:Int):St:=if chgB S kd a b=true then⟨ji S.D kd a b,[],[],S.fund -10⟩ else S
theorem z0k {S:St} {kd a b:Int} (h:zd S=false∨¬S.ds.length=0∨zV S.D kd a b=false∨S.fund<10):chgS S kd a b=S/\chgB S kd a b=false:=by
 have hb:chgB S kd a b=false:=by
  unfold chgB
  rcases h with h|h|h|h
  ·simp[h]
  ·simp[h]
  ·simp[h]
  ·have:¬(10:Int)<=S.fund:=o_
   simp[this]
 exact⟨by unfold chgS;rw[hb];rfl,hb⟩
theorem z86 {S:St} {kd a b:Int} (h1:zd S=true) (h2:S.ds.length=0) (h3:zV S.D kd a b=true) (h4:10<=S.fund):chgS S kd a b=⟨ji S.D kd a b,[],[],S.fund -10⟩/\chgB S kd a b=true:=by
 have hb:chgB S kd a b=true:=by unfold chgB;rw[h1,h3];simp[h2,h4]
 exact⟨by unfold chgS;rw[aao hb],hb⟩
theorem XB {S:St} (h:zd S=true):0<=S.fund/\S.fund<=1000000:=by
 unfold zd at h;simp only[aaG] at h
 exact zf.1 h.2.2.1
theorem z1g {S:St} (kd a b:Int) (h:zd S=true):zd ⟨ji S.D kd a b,[],[],S.fund -10⟩=decide (10<=S.fund):=by
 have hf:=XB h
 have hd:okD S.D=true:=by
  unfold zd at h;simp only[aaG] at h
  exact h.1
 have h1:=z6W hd kd a b;have h2:qB []=true:=by unfold qB;rfl
 have h3:inB (S.fund -10) 0 1000000=decide (10<=S.fund):=by
  rw[aaZ,zf,aa4];omega
 unfold zd
 show(okD (ji S.D kd a b)&&(qB []&&(inB (S.fund -10) 0 1000000&&_)))=_
 rw[h1,h2,h3];simp
theorem yB (v0 v1 v2 v3 v4 v5 v6:Value) (S:St) (kd:Int) (ka:Int) (kb:Int) (w:World) (h:RSt w v0 v1 v2 v3 v4 v5 v6 S) (hle:StLe S):
  Calls Tryz.prog 37 #[.agg #[v0,v1,v2,v3,v4,v5,v6,.int .i64 S.fund],.int .i64 kd,.int .i64 ka,.int .i64 kb] w (yM (chgS S kd ka kb) (chgB S kd ka kb) w):=by
 obtain⟨r,hr⟩:∃r,zd S=r:=⟨_,rfl⟩;have HR:=h_ hr;have gf:=h_ hle;obtain⟨B6,d6,ev6,cK,CR,fr⟩:=h.ds.at_;subst ev6;unfold maxLen at CR;clear fr;obtain⟨E,hE⟩:∃E,chgS S kd ka kb=E:=⟨_,rfl⟩;obtain⟨bb,gj⟩:∃bb,chgB S kd ka kb=bb:=⟨_,rfl⟩;rw[hE,gj];have HE:=h_ hE;have gw:=h_ gj;have HH:=h_ h;clear hle hE gj h
 go_enter Tryz.func37,Tryz.ntmps37
 go_wp2_with fail
 refine(qw _ _ _ _ _ _ _ S _ (HH.out.below bel_) gf.out).mono ?_
 rintro e w1 ⟨A0,a0,A1,a1,A2,a2,A3,a3,A4,a4,A5,a5,A6,a6,fs,rfl,Hi,h9⟩;have Ga:Blk w1 w.heap.size 34 #[v0,v1,v2,v3,v4,v5,.slice B6 S.ds.length d6,.int .i64 S.fund]:=Blk.below ((Blk.newAt rfl).alloc _) h9 sz_;have Hx:Blk w1 (w.heap.size+1) 34 z8_:=Blk.below (Blk.newAt (by simp)) h9 sz_;have h8:Below w.heap.size w w1:=bel_
 have GQ:OwnSt (w.heap.size+1+1) w1 (.slice A0 S.D.fn.length a0) (.slice A1 S.D.fl.length a1) (.slice A2 S.D.nn.length a2) (.slice A3 S.D.nl.length a3) (.slice A4 S.D.ss.length a4) (.slice A5 S.cs.length a5) (.slice A6 S.ds.length a6) S fs:=by simpa using Hi
 have gU:=h_ (OutSS.start GQ (aaa _) Ga Hx h8);obtain⟨x_0,x_1,x_2,x_3,x_4,x_5,x_6,x_7⟩:=Ga.c8;have fS:=Ga.lt;clear Hi h9 GQ
 go_wp2_with fail
 obtain⟨w2,gR⟩:∃w2,w2=w1.alloc (.cells #[.slice A0 S.D.fn.length a0,.slice A1 S.D.fl.length a1,.slice A2 S.D.nn.length a2,.slice A3 S.D.nl.length a3,.slice A4 S.D.ss.length a4,.slice A5 S.cs.length a5,.slice A6 S.ds.length a6,.int .i64 S.fund] 34):=⟨_,rfl⟩;rw[<-gR] at gU⊢;generalize w1.heap.size=Z at*;clear gR Ga Hx h8 x_0 x_1 x_2 x_3 x_4 x_5 x_6 x_7 fS;refine(qb _ _ _ _ _ _ _ S r _ (HH.out.below gU.out.blw) HR).mono ?_
 rintro e w3 ⟨rfl,He⟩;have gk:=h_ (gU.out.below He);clear He gU;have Gr:=gk.out.X;obtain⟨x_0,x_1,x_2,x_3,x_4,x_5,x_6,x_7⟩:=Gr.c8
 cases r
 ·obtain⟨u1,u2⟩:=z0k (S:=S) (kd:=kd) (a:=ka) (b:=kb) (.inl hr)
  have hu:S=E:=by rw[<-HE.out];exact u1.symm
  have hv:false=bb:=by rw[<-gw.out];exact u2.symm
  subst hu;subst hv;have HF:=gk;clear gk HE gw u1 u2 hr Gr;obtain⟨_,_,hR,hZ,Gu,_,_⟩:=HF.out;obtain⟨z_0,z_1,z_2,z_3,z_4,z_5,z_6,z_7⟩:=hZ.c8;obtain⟨r_0,r_1,r_2,r_3,r_4,r_5,r_6,r_7,r_f0,r_f1,r_f2,r_f3,r_f4,r_f5,r_f6,r_f7⟩:=hR.b8;have Hr:=hR.lt;have gl:=h_ (HF.out.fin);clear hR hZ HF;go_wp2;exact bodyPost_ret (v:= .tuple #[.agg #[.slice A0 S.D.fn.length a0,.slice A1 S.D.fl.length a1,.slice A2 S.D.nn.length a2,.slice A3 S.D.nl.length a3,.slice A4 S.D.ss.length a4,.slice A5 S.cs.length a5,.slice A6 S.ds.length a6,.int .i64 S.fund],.bool false]) (by simp[results,Tryz.results37,go_sem,r_0,r_1,r_2,r_3,r_4,r_5,r_6,r_7,Hr]) rfl ⟨_,_,_,_,_,_,_,_,_,_,_,_,_,_,fs,rfl,(gl.out _ _ _ _ _ _ _ _).1,(gl.out _ _ _ _ _ _ _ _).2⟩
 ·by_cases Fn:S.ds.length=0
  ·have BW:((S.ds.length:Int)>0)=False:=by simp[Fn]
   have Wx:=HH.out.dr.below gk.out.blw;obtain⟨rx,Bk⟩:=XB hr;have BJ:IntKind.i64.wrap (S.fund -10)=S.fund -10:=aaP _ o_
   go_wp2_with fail
   refine(z3y _ _ _ _ _ S.D kd ka kb _ Wx gf.out.D).mono ?_
   obtain⟨D',uS⟩:∃x,ji S.D kd ka kb=x:=⟨_,rfl⟩;obtain⟨b',gS⟩:∃x,zV S.D kd ka kb=x:=⟨_,rfl⟩;rw[uS,gS];have NU:=h_ uS;have FF:=h_ gS;clear uS gS;rintro e w4 ⟨N0,n0,N1,n1,N2,n2,N3,n3,N4,n4,gs,rfl,gH,Hw⟩;have Gg:=h_ (gk.out.below Hw);have Fh:=Gg.out.X;clear Hw Gr x_0 x_1 x_2 x_3 x_4 x_5 x_6 x_7 Wx;obtain⟨x_0,x_1,x_2,x_3,x_4,x_5,x_6,x_7⟩:=Fh.c8;have go:w.heap.size+1+1<=w3.heap.size:=by have:=gk.out.R.lt;omega
   have cY:=h_ gH;clear gH gk
   cases b'
   ·obtain⟨w5,fe⟩:∃u,u=w4.alloc (.cells #[.slice N0 D'.fn.length n0,.slice N1 D'.fl.length n1,.slice N2 D'.nn.length n2,.slice N3 D'.nl.length n3,.slice N4 D'.ss.length n4] 30):=⟨_,rfl⟩
    have GI:=h_ (Gg.out.below (fe▸(aaj _ _).alloc (aaa _) _))
    go_upto_region 5 with (fail)
    rw[<-fe];clear fe Gg Fh x_0 x_1 x_2 x_3 x_4 x_5 x_6 x_7;clear cY go BJ rx Bk;obtain⟨u1,u2⟩:=z0k (S:=S) (kd:=kd) (a:=ka) (b:=kb) (.inr (.inr (.inl FF.out)));have hu:S=E:=by rw[<-HE.out];exact u1.symm
    have hv:false=bb:=by rw[<-gw.out];exact u2.symm
    subst hu;subst hv;have HF:=GI;clear GI HE gw u1 u2 hr FF NU;obtain⟨_,_,hR,hZ,Gu,_,_⟩:=HF.out;obtain⟨z_0,z_1,z_2,z_3,z_4,z_5,z_6,z_7⟩:=hZ.c8;obtain⟨r_0,r_1,r_2,r_3,r_4,r_5,r_6,r_7,r_f0,r_f1,r_f2,r_f3,r_f4,r_f5,r_f6,r_f7⟩:=hR.b8;have Hr:=hR.lt;have gl:=h_ (HF.out.fin);clear hR hZ HF;go_wp2;exact bodyPost_ret (v:= .tuple #[.agg #[.slice A0 S.D.fn.length a0,.slice A1 S.D.fl.length a1,.slice A2 S.D.nn.length a2,.slice A3 S.D.nl.length a3,.slice A4 S.D.ss.length a4,.slice A5 S.cs.length a5,.slice A6 S.ds.length a6,.int .i64 S.fund],.bool false]) (by simp[results,Tryz.results37,go_sem,r_0,r_1,r_2,r_3,r_4,r_5,r_6,r_7,Hr,Fn]) rfl ⟨_,_,_,_,_,_,_,_,_,_,_,_,_,_,fs,rfl,(gl.out _ _ _ _ _ _ _ _).1,(gl.out _ _ _ _ _ _ _ _).2⟩
   ·obtain⟨w5,fe⟩:∃u,u=w4.alloc (.cells #[.slice N0 D'.fn.length n0,.slice N1 D'.fl.length n1,.slice N2 D'.nn.length n2,.slice N3 D'.nl.length n3,.slice N4 D'.ss.length n4] 30):=⟨_,rfl⟩
    have GI:=h_ (Gg.out.below (fe▸(aaj _ _).alloc (aaa _) _));have ma:Blk w5 w4.heap.size 30 #[.slice N0 D'.fn.length n0,.slice N1 D'.fl.length n1,.slice N2 D'.nn.length n2,.slice N3 D'.nl.length n3,.slice N4 D'.ss.length n4]:=fe▸Blk.newAt rfl;have H0:Below w4.heap.size w4 w5:=fe▸(aaj _ _).alloc (aaa _) _
    go_upto_region 5 with (fail)
    rw[<-fe];clear fe Gg Fh x_0 x_1 x_2 x_3 x_4 x_5 x_6 x_7;have CN:=GI.out.X;obtain⟨x_0,x_1,x_2,x_3,x_4,x_5,x_6,x_7⟩:=CN.c8;obtain⟨d_0,d_1,d_2,d_3,d_4⟩:=ma.c5;have Cl:=h_ (cY.out.kept H0);clear cY H0 CN ma;obtain⟨g,hg⟩:∃g,decide (10<=S.fund)=g:=⟨_,rfl⟩;have nQ:Hid (zd ⟨D',[],[],S.fund -10⟩=g):=h_ (by rw[<-NU.out,z1g kd ka kb hr];exact hg);have HG:=h_ hg;clear hg;obtain⟨w6,F4⟩:∃u,u=w5.alloc (.cells #[.slice N0 D'.fn.length n0,.slice N1 D'.fl.length n1,.slice N2 D'.nn.length n2,.slice N3 D'.nl.length n3,.slice N4 D'.ss.length n4,.slice none 0 0,.slice none 0 0,.int .i64 (S.fund -10)] 34):=⟨_,rfl⟩;have gz:Below w5.heap.size w5 w6:=F4▸(aaj _ _).alloc (aaa _) _;have fh:=h_ (GI.out.below gz);have YZ:Blk w6 w5.heap.size 34 #[.slice N0 D'.fn.length n0,.slice N1 D'.fl.length n1,.slice N2 D'.nn.length n2,.slice N3 D'.nl.length n3,.slice N4 D'.ss.length n4,.slice none 0 0,.slice none 0 0,.int .i64 (S.fund -10)]:=F4▸Blk.newAt rfl;have Cd:=h_ (Xo (S.fund -10) (Cl.out.kept gz));clear GI Cl
    go_upto_region 8 with (fail)
    rw[<-F4];clear F4 x_0 x_1 x_2 x_3 x_4 x_5 x_6 x_7 d_0 d_1 d_2 d_3 d_4;obtain⟨y_0,y_1,y_2,y_3,y_4,y_5,y_6,y_7⟩:=YZ.c8;have Wy:=YZ.lt;have Wz:=Cd.out.reads
    go_wp2_with fail
    refine(qb _ _ _ _ _ _ _ ⟨D',[],[],S.fund -10⟩ g _ Wz nQ).mono ?_
    rintro e w7 ⟨rfl,fQ⟩;have By:=h_ (fh.out.below fQ);have WA:=h_ (Cd.out.kept fQ);have hM7:=YZ.below fQ Wy;clear fh Cd fQ gz YZ Wy y_0 y_1 y_2 y_3 y_4 y_5 y_6 y_7 Wz nQ
    cases g
    ·clear WA hM7 go BJ
     obtain⟨u1,u2⟩:=z0k (S:=S) (kd:=kd) (a:=ka) (b:=kb) (.inr (.inr (.inr (by have:=of_decide_eq_false HG.out;omega))));have hu:S=E:=by rw[<-HE.out];exact u1.symm
     have hv:false=bb:=by rw[<-gw.out];exact u2.symm
     subst hu;subst hv;have HF:=By;clear By HE gw u1 u2 hr FF NU HG;obtain⟨_,_,hR,hZ,Gu,_,_⟩:=HF.out;obtain⟨z_0,z_1,z_2,z_3,z_4,z_5,z_6,z_7⟩:=hZ.c8;obtain⟨r_0,r_1,r_2,r_3,r_4,r_5,r_6,r_7,r_f0,r_f1,r_f2,r_f3,r_f4,r_f5,r_f6,r_f7⟩:=hR.b8;have Hr:=hR.lt;have gl:=h_ (HF.out.fin);clear hR hZ HF;go_wp2;exact bodyPost_ret (v:= .tuple #[.agg #[.slice A0 S.D.fn.length a0,.slice A1 S.D.fl.length a1,.slice A2 S.D.nn.length a2,.slice A3 S.D.nl.length a3,.slice A4 S.D.ss.length a4,.slice A5 S.cs.length a5,.slice A6 S.ds.length a6,.int .i64 S.fund],.bool false]) (by simp[results,Tryz.results37,go_sem,r_0,r_1,r_2,r_3,r_4,r_5,r_6,r_7,Hr,Fn]) rfl ⟨_,_,_,_,_,_,_,_,_,_,_,_,_,_,fs,rfl,(gl.out _ _ _ _ _ _ _ _).1,(gl.out _ _ _ _ _ _ _ _).2⟩
    ·obtain⟨u1,u2⟩:=z86 (kd:=kd) (a:=ka) (b:=kb) hr Fn FF.out (of_decide_eq_true HG.out)
     rw[NU.out] at u1;have hu:(⟨D',[],[],S.fund -10⟩:St)=E:=by rw[<-HE.out];exact u1.symm
     have hv:true=bb:=by rw[<-gw.out];exact u2.symm
     subst hu;subst hv;have Ch:=By.out.R;obtain⟨r_0,r_1,r_2,r_3,r_4,r_5,r_6,r_7,r_f0,r_f1,r_f2,r_f3,r_f4,r_f5,r_f6,r_f7⟩:=Ch.b8;have Hr:=Ch.lt;have fH:=h_ By.out.blw;obtain⟨y_0,y_1,y_2,y_3,y_4,y_5,y_6,y_7⟩:=hM7.c8;clear HE gw u1 u2 hr FF NU HG By Ch hM7;go_wp2;refine bodyPost_ret (v:= .tuple #[.agg #[.slice N0 D'.fn.length n0,.slice N1 D'.fl.length n1,.slice N2 D'.nn.length n2,.slice N3 D'.nl.length n3,.slice N4 D'.ss.length n4,.slice none 0 0,.slice none 0 0,.int .i64 (S.fund -10)],.bool true]) (by simp[results,Tryz.results37,go_sem,r_0,r_1,r_2,r_3,r_4,r_5,r_6,r_7,Hr,Fn]) rfl ?_
     have mT:=z6c (w:=w) WA.out go fH.out;exact⟨N0,n0,N1,n1,N2,n2,N3,n3,N4,n4,none,0,none,0,gs,rfl,(mT _ _ _ _ _ _ _ _).1,(mT _ _ _ _ _ _ _ _).2⟩
  ·have CT:(0:Int)<(S.ds.length:Int):=o_
   obtain⟨u1,u2⟩:=z0k (S:=S) (kd:=kd) (a:=ka) (b:=kb) (.inr (.inl Fn));have hu:S=E:=by rw[<-HE.out];exact u1.symm
   have hv:false=bb:=by rw[<-gw.out];exact u2.symm
   subst hu;subst hv;have HF:=gk;clear gk HE gw u1 u2 hr;obtain⟨_,_,hR,hZ,Gu,_,_⟩:=HF.out;obtain⟨z_0,z_1,z_2,z_3,z_4,z_5,z_6,z_7⟩:=hZ.c8;obtain⟨r_0,r_1,r_2,r_3,r_4,r_5,r_6,r_7,r_f0,r_f1,r_f2,r_f3,r_f4,r_f5,r_f6,r_f7⟩:=hR.b8;have Hr:=hR.lt;have gl:=h_ (HF.out.fin);clear hR hZ HF;go_wp2;exact bodyPost_ret (v:= .tuple #[.agg #[.slice A0 S.D.fn.length a0,.slice A1 S.D.fl.length a1,.slice A2 S.D.nn.length a2,.slice A3 S.D.nl.length a3,.slice A4 S.D.ss.length a4,.slice A5 S.cs.length a5,.slice A6 S.ds.length a6,.int .i64 S.fund],.bool false]) (by simp[results,Tryz.results37,go_sem,r_0,r_1,r_2,r_3,r_4,r_5,r_6,r_7,Hr,CT]) rfl ⟨_,_,_,_,_,_,_,_,_,_,_,_,_,_,fs,rfl,(gl.out _ _ _ _ _ _ _ _).1,(gl.out _ _ _ _ _ _ _ _).2⟩
end Go.Proofs.YtnjcpljhmhdhkaaGreat
