/- part 34 -/
import Derived.Test.YtnjcpljhmhdhkaaGreatUPk31
import Derived.Test.YtnjcpljhmhdhkaaGreatUPk33
set_option linter.unusedSimpArgs false
set_option linter.unusedVariables false
set_option maxRecDepth 100000
set_option maxHeartbeats 16000000
namespace Go.Proofs.YtnjcpljhmhdhkaaGreat
open Go.RowKit
theorem z2m {S:St} {f c:Int} (h:ze S=false∨yf S.D.nn S.D.nl f=false):stoS S f c=S/\stoB S f c=false:=by
 have hb:stoB S f c=false:=by
  unfold stoB
  rcases h with h|h<;>simp[h]
 exact⟨by unfold stoS;rw[hb];rfl,hb⟩
theorem z2a {S:St} {k:Nat} {c y u:Int} {d:Dp} (h1:ze S=true) (h2:yf S.D.nn S.D.nl k=true) (hy:dayN S.ds=y) (hu:numN S.D.nn S.D.nl k=u) (hd:(⟨u,c,y⟩:Dp)=d):stoS S k c=⟨S.D,S.cs,adpL S.ds d,S.fund⟩/\stoB S k c=adpB S.ds d:=by
 have hn:z8Q S k c=d:=by rw[<-hd,<-hy,<-hu];rfl
 have hb:stoB S k c=adpB S.ds d:=by unfold stoB;rw[h1,h2,hn];rfl
 refine⟨?_,hb⟩
 unfold stoS;rw[hb,hn];unfold adpL
 cases h:adpB S.ds d
 ·rfl
 ·rfl
theorem z8W {S:St} {k:Nat} {c y u:Int} {d:Dp} (h1:ze S=true) (h2:yf S.D.nn S.D.nl k=true) (hy:dayN S.ds=y) (hu:numN S.D.nn S.D.nl k=u) (hd:(⟨u,c,y⟩:Dp)=d) (h3:adpB S.ds d=false):stoS S k c=S/\stoB S k c=false:=by
 obtain⟨u1,u2⟩:=z2a h1 h2 hy hu hd;refine⟨?_,u2.trans h3⟩
 rw[u1];unfold adpL;rw[h3];rfl
theorem z5V {S:St} (h:ze S=true) {m:Nat} (hm:S.ds.length=m+1):0<=(dpI S.ds m).b /\(dpI S.ds m).b <=9999/\S.ds.length<=40/\dayN S.ds=(dpI S.ds m).b +1:=by
 obtain⟨h1,h2⟩:=yt.1 (k5.1 h).2.1;have h3:=h2 m o_;unfold depB at h3;simp only[aaH] at h3
 have h4:=zd.1 h3.2.2.1;refine⟨h4.1,h4.2,h1,?_⟩
 unfold dayN;rw[aaq o_,hm];rfl
theorem z0e (v0 v1 v2 v3 v4 v5 v6:Value) (S:St) (pl:Int) (pm:Int) (w:World) (h:RSt w v0 v1 v2 v3 v4 v5 v6 S) (hle:StLe S):
  Calls Tryz.prog 39 #[.agg #[v0,v1,v2,v3,v4,v5,v6,.int .i64 S.fund],.int .i64 pl,.int .i64 pm] w (yk (stoS S pl pm) (stoB S pl pm) w):=by
 obtain⟨r,hr⟩:∃r,ze S=r:=⟨_,rfl⟩;have HR:=h_ hr;have gi:=h_ hle;obtain⟨B6,d6,ev6,CE,cJ,Gy⟩:=h.ds.at_;subst ev6;unfold maxLen at cJ;have Ft:=h_ Gy;clear Gy;obtain⟨E,hE⟩:∃E,stoS S pl pm=E:=⟨_,rfl⟩;obtain⟨bb,gc⟩:∃bb,stoB S pl pm=bb:=⟨_,rfl⟩;rw[hE,gc];have HE:=h_ hE;have gm:=h_ gc;have HH:=h_ h;clear hle hE gc h
 go_enter Tryz.func39,Tryz.ntmps39
 go_wp2_with fail
 refine(qw _ _ _ _ _ _ _ S _ (HH.out.below bel_) gi.out).mono ?_
 rintro e w1 ⟨A0,a0,A1,a1,A2,a2,A3,a3,A4,a4,A5,a5,A6,a6,fs,rfl,Hj,h9⟩;have gh:Blk w1 w.heap.size 34 #[v0,v1,v2,v3,v4,v5,.slice B6 S.ds.length d6,.int .i64 S.fund]:=Blk.below ((Blk.newAt rfl).alloc _) h9 sz_;have gu:Blk w1 (w.heap.size+1) 34 z8_:=Blk.below (Blk.newAt (by simp)) h9 sz_;have h8:Below w.heap.size w w1:=bel_
 have Gi:OwnSt (w.heap.size+1+1) w1 (.slice A0 S.D.fn.length a0) (.slice A1 S.D.fl.length a1) (.slice A2 S.D.nn.length a2) (.slice A3 S.D.nl.length a3) (.slice A4 S.D.ss.length a4) (.slice A5 S.cs.length a5) (.slice A6 S.ds.length a6) S fs:=by simpa using Hj
 have gB:=h_ (OutSS.start Gi (aaa _) gh gu h8);obtain⟨x_0,x_1,x_2,x_3,x_4,x_5,x_6,x_7⟩:=gh.c8;have fi:=gh.lt;clear Hj h9 Gi
 go_wp2_with fail
 obtain⟨w2,gS⟩:∃w2,w2=w1.alloc (.cells #[.slice A0 S.D.fn.length a0,.slice A1 S.D.fl.length a1,.slice A2 S.D.nn.length a2,.slice A3 S.D.nl.length a3,.slice A4 S.D.ss.length a4,.slice A5 S.cs.length a5,.slice A6 S.ds.length a6,.int .i64 S.fund] 34):=⟨_,rfl⟩;rw[<-gS] at gB⊢;generalize w1.heap.size=Z at*;clear gS gh gu h8 x_0 x_1 x_2 x_3 x_4 x_5 x_6 x_7 fi;refine(qM _ _ _ _ _ _ _ S r _ (HH.out.below gB.out.blw) HR).mono ?_
 rintro e w3 ⟨rfl,Hf⟩;have gd:=h_ (gB.out.below Hf);clear Hf gB;have gU:=gd.out.X;obtain⟨x_0,x_1,x_2,x_3,x_4,x_5,x_6,x_7⟩:=gU.c8
 cases r
 ·obtain⟨u1,u2⟩:=z2m (S:=S) (f:=pl) (c:=pm) (.inl hr)
  have hu:S=E:=by rw[<-HE.out];exact u1.symm
  have hv:false=bb:=by rw[<-gm.out];exact u2.symm
  subst hu;subst hv;have HF:=gd;clear gd HE gm u1 u2 hr gU;obtain⟨_,_,hR,hZ,Ga,_,_⟩:=HF.out;obtain⟨z_0,z_1,z_2,z_3,z_4,z_5,z_6,z_7⟩:=hZ.c8;obtain⟨r_0,r_1,r_2,r_3,r_4,r_5,r_6,r_7,r_f0,r_f1,r_f2,r_f3,r_f4,r_f5,r_f6,r_f7⟩:=hR.b8;have Hl:=hR.lt;have Hy:=h_ (HF.out.fin);clear hR hZ HF;go_wp2;exact bodyPost_ret (v:= .tuple #[.agg (s8_ A0 A1 A2 A3 A4 A5 A6 a0 a1 a2 a3 a4 a5 a6 S),.bool false]) (by simp[results,Tryz.results39,go_sem,r_0,r_1,r_2,r_3,r_4,r_5,r_6,r_7,Hl]) rfl ⟨_,_,_,_,_,_,_,_,_,_,_,_,_,_,fs,rfl,(Hy.out _ _ _ _ _ _ _ _).1,(Hy.out _ _ _ _ _ _ _ _).2⟩
 ·have HN:=h_ (HH.out.dr.nn.below gd.out.blw)
  have HL:=h_ (HH.out.dr.nl.below gd.out.blw);obtain⟨q,hq⟩:∃q,yf S.D.nn S.D.nl pl=q:=⟨_,rfl⟩;have HQ:=h_ hq
  go_wp2_with fail
  refine(z3W _ _ S.D.nn S.D.nl pl _ HN.out HL.out).mono ?_
  rw[hq];clear hq;rintro e w4 ⟨rfl,Hv⟩;have gZ:=h_ (gd.out.below Hv);clear gd gU x_0 x_1 x_2 x_3 x_4 x_5 x_6 x_7 Hv HN HL
  cases q
  ·obtain⟨u1,u2⟩:=z2m (S:=S) (f:=pl) (c:=pm) (.inr HQ.out)
   have hu:S=E:=by rw[<-HE.out];exact u1.symm
   have hv:false=bb:=by rw[<-gm.out];exact u2.symm
   subst hu;subst hv;have HF:=gZ;clear gZ HE gm u1 u2 hr HQ;obtain⟨_,_,hR,hZ,Ga,_,_⟩:=HF.out;obtain⟨z_0,z_1,z_2,z_3,z_4,z_5,z_6,z_7⟩:=hZ.c8;obtain⟨r_0,r_1,r_2,r_3,r_4,r_5,r_6,r_7,r_f0,r_f1,r_f2,r_f3,r_f4,r_f5,r_f6,r_f7⟩:=hR.b8;have Hl:=hR.lt;have Hy:=h_ (HF.out.fin);clear hR hZ HF;go_wp2;exact bodyPost_ret (v:= .tuple #[.agg (s8_ A0 A1 A2 A3 A4 A5 A6 a0 a1 a2 a3 a4 a5 a6 S),.bool false]) (by simp[results,Tryz.results39,go_sem,r_0,r_1,r_2,r_3,r_4,r_5,r_6,r_7,Hl]) rfl ⟨_,_,_,_,_,_,_,_,_,_,_,_,_,_,fs,rfl,(Hy.out _ _ _ _ _ _ _ _).1,(Hy.out _ _ _ _ _ _ _ _).2⟩
  ·obtain⟨_,k,rfl,hk,_⟩:=z2h HQ.out
   have G8:=gZ.out.X;obtain⟨x_0,x_1,x_2,x_3,x_4,x_5,x_6,x_7⟩:=G8.c8;have Fj:=G8.lt;have hlen6:=gi.out.ds;obtain⟨y,hy⟩:∃z,dayN S.ds=z:=⟨_,rfl⟩;have ml:=h_ hy;clear hy
   go_upto_if 31 with (fail)
   go_cut [9] (fun s9 wx=>s9= .int .i64 y/\wx=w4)
   case first=>
    rcases abw S.ds.length with nw|nw
    ·have me:Hid ((0:Int)=y):=h_ (by rw[<-ml.out];unfold dayN;rw[aao nw])
     have GD:¬(0:Int)<(S.ds.length:Int):=o_
     clear nw;go_wp2;go_meet
     exact⟨by rw[me.out],rfl⟩
    ·obtain⟨m,hm⟩:∃m,S.ds.length=m+1:=⟨S.ds.length -1,by omega⟩
     obtain⟨mD,hd1,hd2,Uj⟩:=z5V hr hm;rw[ml.out] at Uj;have me:=h_ Uj.symm;obtain⟨b6,off6,rfl,rz⟩:=Ft.out nw;have Gy:=rz.below gZ.out.blw;obtain⟨_,_,hq2⟩:=Gy.2 m o_;generalize (dpI S.ds m).b =db at*;have GD:(0:Int)<(S.ds.length:Int):=o_
     have cF:(S.ds.length:Int) -1=(m:Int):=o_
     have FY:IntKind.i64.wrap ((S.ds.length:Int) -1)=(m:Int):=by rw[cF];exact aaQ _ o_
     have ik1:(0:Int)<=(m:Int):=o_
     have ik2:(m:Int)<(S.ds.length:Int):=o_
     have gS:IntKind.i64.wrap (db+1)=db+1:=aaQ _ o_;clear Uj Gy rz nw hm cF;go_wp2;go_meet
     exact⟨by rw[me.out],rfl⟩
   case rest=>
    obtain⟨rfl,hwc⟩:=hcut;have hwc2:=hwc.symm;clear hwc;subst hwc2;obtain⟨nu,hnu⟩:∃z,numN S.D.nn S.D.nl k=z:=⟨_,rfl⟩;have UD:=h_ hnu;have Mh:=fun (v:World) (hb:Below w.heap.size w v)=>z8j v2 v3 S.D.nn S.D.nl k v (HH.out.dr.nn.below hb) (HH.out.dr.nl.below hb)
    rw[hnu] at Mh;have HNU:=h_ Mh;clear hnu Mh;obtain⟨dd,CU⟩:∃d:Dp,(⟨nu,pm,y⟩:Dp)=d:=⟨_,rfl⟩;have Vt:=h_ CU;obtain⟨l',Gc⟩:∃l,adpL S.ds dd=l:=⟨_,rfl⟩;obtain⟨b',gw⟩:∃b,adpB S.ds dd=b:=⟨_,rfl⟩;have BC:=h_ Gc;have fR:=h_ gw;have ru:=h_ (fun (v:World) (hb:Below w.heap.size w v)=>z2L (.slice B6 S.ds.length d6) S.ds dd v (HH.out.ds.below hb) gi.out.ds);rw[Gc,gw] at ru;rw[<-CU] at ru;clear Gc gw CU;have Nm:=gZ.out.blw;have fE:Below w4.heap.size w4 w4.drew:=(aaj _ _).drew;have Mi:=Nm.trans (fE.mono Nm.size)
    go_upto_region 8 with (fail)
    refine vo (n:=14) (S:=fun w'=>w'.cell? ⟨w.heap.size,2,none⟩=some v2/\w'.cell? ⟨w.heap.size,3,none⟩=some v3/\w'.cell? ⟨w.heap.size,6,none⟩=some (.slice B6 S.ds.length d6)) k_ ⟨x_2,x_3,x_6⟩ (fun hS=>?_)
    refine tE_ 0 rfl rfl ?_;(try simp only[lp_])
    refine tE_ 1 rfl rfl ?_;(try simp only[lp_])
    refine tE_ 2 rfl rfl ?_;(try simp only[lp_])
    refine tE_ 3 rfl rfl ?_;(try simp only[lp_])
    refine tE_ 4 rfl rfl ?_;(try simp only[lp_])
    refine tE_ 5 rfl rfl ?_;(try simp only[lp_])
    refine tE_ 7 rfl rfl ?_;(try simp only[lp_])
    refine tE_ 8 rfl rfl ?_;(try simp only[lp_])
    (refine qg (i:=6) rfl k_ (fun K hK=>?_));(rw[aao (by rfl)])
    go_simp
    go_at_call 23
    refine(HNU.out _ Mi).mono ?_
    rintro e w5 ⟨rfl,gf⟩;have gL:Below w4.heap.size w4 w5:=fE.trans (gf.mono fE.size);have rA:=Nm.trans (gL.mono Nm.size);clear gf
    go_wp2_with fail
    refine hK _ _ (fun _=>⟨(gL.cell (p:=⟨w.heap.size,2,none⟩) Fj).trans x_2,(gL.cell (p:=⟨w.heap.size,3,none⟩) Fj).trans x_3,(gL.cell (p:=⟨w.heap.size,6,none⟩) Fj).trans x_6⟩) (fun gl=>?_)
    have hS:=gl k_;clear hK K gl
    (try simp only[lp_])
    refine tE_ 9 rfl rfl ?_;(try simp only[lp_])
    (refine qg (i:=10) rfl k_ (fun K hK=>?_));(rw[aao (by rfl)])
    go_simp
    go_at_call 112
    refine(ru.out _ rA).mono ?_
    rintro e w6 ⟨vt,rfl,fD,gk⟩;obtain⟨T6,t6,rfl⟩:=zk.form fD;have gE:=gL.trans (gk.mono gL.size);have HF:=h_ (OutSS.newDs gZ.out gE (zk.mono fD gL.size));have MQ:=h_ (gZ.out.below gE);clear gk fD
    go_wp2_with fail
    refine hK _ _ (fun _=>⟨(gE.cell (p:=⟨w.heap.size,2,none⟩) Fj).trans x_2,(gE.cell (p:=⟨w.heap.size,3,none⟩) Fj).trans x_3,(gE.cell (p:=⟨w.heap.size,6,none⟩) Fj).trans x_6⟩) (fun gl=>?_)
    have hS:=gl k_;clear hK K gl
    (try simp only[lp_])
    refine tE_ 11 rfl rfl ?_;(try simp only[lp_])
    refine tE_ 12 rfl rfl ?_;(try simp only[lp_])
    refine tF_ 13 rfl ?_;(try simp only[lp_])
    (refine qg (i:=14) rfl k_ (fun K hK=>?_));(rw[aao (by rfl)])
    go_simp;refine hK _ _ (fun h=>by cases h) (fun _=>?_)
    clear hK K
    (try simp only[lp_])
    (refine qg (i:=15) rfl k_ (fun K hK=>?_));(rw[aao (by rfl)])
    go_simp;refine hK _ _ (fun h=>by cases h) (fun _=>?_)
    clear hK K
    (try simp only[lp_])
    refine ky k_ ?_ _
    clear gZ gE gL Nm Mi rA fE hS G8 Fj x_0 x_1 x_2 x_3 x_4 x_5 x_6 x_7 ru HNU;obtain⟨u1,u2⟩:=z2a hr HQ.out ml.out UD.out Vt.out;rw[BC.out] at u1;rw[fR.out] at u2;have hu:(⟨S.D,S.cs,l',S.fund⟩:St)=E:=by rw[<-HE.out];exact u1.symm
    have hv:b'=bb:=by rw[<-gm.out];exact u2.symm
    subst hu;subst hv;obtain⟨_,_,hR,hZ,Ga,_,_⟩:=MQ.out;obtain⟨z_0,z_1,z_2,z_3,z_4,z_5,z_6,z_7,z_f0,z_f1,z_f2,z_f3,z_f4,z_f5,z_f6,z_f7⟩:=hZ.b8;obtain⟨r_0,r_1,r_2,r_3,r_4,r_5,r_6,r_7,r_f0,r_f1,r_f2,r_f3,r_f4,r_f5,r_f6,r_f7⟩:=hR.b8;have Hl:=hR.lt;have Fr:=hZ.lt;have Hy:=h_ (HF.out.fin);clear hR hZ HF MQ HE gm u1 u2 hr BC fR;have FK:¬Z=w.heap.size+1:=o_
    have Gv:¬w.heap.size+1=Z:=o_
    go_wp2;exact bodyPost_ret (v:= .tuple #[.agg #[.slice A0 S.D.fn.length a0,.slice A1 S.D.fl.length a1,.slice A2 S.D.nn.length a2,.slice A3 S.D.nl.length a3,.slice A4 S.D.ss.length a4,.slice A5 S.cs.length a5,.slice T6 l'.length t6,.int .i64 S.fund],.bool b']) (by simp[results,Tryz.results39,go_sem,r_0,r_1,r_2,r_3,r_4,r_5,r_6,r_7,z_0,z_1,z_2,z_3,z_4,z_5,z_6,z_7,Hl,Fr,FK,Gv]) rfl ⟨_,_,_,_,_,_,_,_,_,_,_,_,_,_,fs,rfl,(Hy.out _ _ _ _ _ _ _ _).1,(Hy.out _ _ _ _ _ _ _ _).2⟩
theorem z0d (v0 v1 v2 v3 v4 v5 v6:Value) (S:St) (pl:Int) (pm:Int) (w:World) (h:RSt w v0 v1 v2 v3 v4 v5 v6 S) (hle:StLe S):
  Calls Tryz.prog 48 #[.agg #[v0,v1,v2,v3,v4,v5,v6,.int .i64 S.fund],.int .i64 pl,.int .i64 pm] w (yk (stoS S pl pm) (stoB S pl pm) w):=by
 obtain⟨r,hr⟩:∃r,ze S=r:=⟨_,rfl⟩;have HR:=h_ hr;have gi:=h_ hle;obtain⟨B6,d6,ev6,CE,cJ,Gy⟩:=h.ds.at_;subst ev6;unfold maxLen at cJ;have Ft:=h_ Gy;clear Gy;obtain⟨E,hE⟩:∃E,stoS S pl pm=E:=⟨_,rfl⟩;obtain⟨bb,gc⟩:∃bb,stoB S pl pm=bb:=⟨_,rfl⟩;rw[hE,gc];have HE:=h_ hE;have gm:=h_ gc;have HH:=h_ h;clear hle hE gc h
 go_enter Tryz.func48,Tryz.ntmps48
 go_wp2_with fail
 refine(jm _ _ _ _ _ _ _ S _ (HH.out.below bel_) gi.out).mono ?_
 rintro e w1 ⟨A0,a0,A1,a1,A2,a2,A3,a3,A4,a4,A5,a5,A6,a6,fs,rfl,Hj,h9⟩;have gh:Blk w1 w.heap.size 34 #[v0,v1,v2,v3,v4,v5,.slice B6 S.ds.length d6,.int .i64 S.fund]:=Blk.below ((Blk.newAt rfl).alloc _) h9 sz_;have gu:Blk w1 (w.heap.size+1) 34 z8_:=Blk.below (Blk.newAt (by simp)) h9 sz_;have h8:Below w.heap.size w w1:=bel_
 have Gi:OwnSt (w.heap.size+1+1) w1 (.slice A0 S.D.fn.length a0) (.slice A1 S.D.fl.length a1) (.slice A2 S.D.nn.length a2) (.slice A3 S.D.nl.length a3) (.slice A4 S.D.ss.length a4) (.slice A5 S.cs.length a5) (.slice A6 S.ds.length a6) S fs:=by simpa using Hj
 have gB:=h_ (OutSS.start Gi (aaa _) gh gu h8);obtain⟨x_0,x_1,x_2,x_3,x_4,x_5,x_6,x_7⟩:=gh.c8;have fi:=gh.lt;clear Hj h9 Gi
 go_wp2_with fail
 obtain⟨w2,gS⟩:∃w2,w2=w1.alloc (.cells #[.slice A0 S.D.fn.length a0,.slice A1 S.D.fl.length a1,.slice A2 S.D.nn.length a2,.slice A3 S.D.nl.length a3,.slice A4 S.D.ss.length a4,.slice A5 S.cs.length a5,.slice A6 S.ds.length a6,.int .i64 S.fund] 34):=⟨_,rfl⟩;rw[<-gS] at gB⊢;generalize w1.heap.size=Z at*;clear gS gh gu h8 x_0 x_1 x_2 x_3 x_4 x_5 x_6 x_7 fi;refine(j8 _ _ _ _ _ _ _ S r _ (HH.out.below gB.out.blw) HR).mono ?_
 rintro e w3 ⟨rfl,Hf⟩;have gd:=h_ (gB.out.below Hf);clear Hf gB;have gU:=gd.out.X;obtain⟨x_0,x_1,x_2,x_3,x_4,x_5,x_6,x_7⟩:=gU.c8
 cases r
 ·obtain⟨u1,u2⟩:=z2m (S:=S) (f:=pl) (c:=pm) (.inl hr)
  have hu:S=E:=by rw[<-HE.out];exact u1.symm
  have hv:false=bb:=by rw[<-gm.out];exact u2.symm
  subst hu;subst hv;have HF:=gd;clear gd HE gm u1 u2 hr gU;obtain⟨_,_,hR,hZ,Ga,_,_⟩:=HF.out;obtain⟨z_0,z_1,z_2,z_3,z_4,z_5,z_6,z_7⟩:=hZ.c8;obtain⟨r_0,r_1,r_2,r_3,r_4,r_5,r_6,r_7,r_f0,r_f1,r_f2,r_f3,r_f4,r_f5,r_f6,r_f7⟩:=hR.b8;have Hl:=hR.lt;have Hy:=h_ (HF.out.fin);clear hR hZ HF;go_wp2;exact bodyPost_ret (v:= .tuple #[.agg (s8_ A0 A1 A2 A3 A4 A5 A6 a0 a1 a2 a3 a4 a5 a6 S),.bool false]) (by simp[results,Tryz.results48,go_sem,r_0,r_1,r_2,r_3,r_4,r_5,r_6,r_7,Hl]) rfl ⟨_,_,_,_,_,_,_,_,_,_,_,_,_,_,fs,rfl,(Hy.out _ _ _ _ _ _ _ _).1,(Hy.out _ _ _ _ _ _ _ _).2⟩
 ·have HN:=h_ (HH.out.dr.nn.below gd.out.blw)
  have HL:=h_ (HH.out.dr.nl.below gd.out.blw);obtain⟨q,hq⟩:∃q,yf S.D.nn S.D.nl pl=q:=⟨_,rfl⟩;have HQ:=h_ hq
  go_wp2_with fail
  refine(z4a _ _ S.D.nn S.D.nl pl _ HN.out HL.out).mono ?_
  rw[hq];clear hq;rintro e w4 ⟨rfl,Hv⟩;have gZ:=h_ (gd.out.below Hv);clear gd gU x_0 x_1 x_2 x_3 x_4 x_5 x_6 x_7 Hv HN HL
  cases q
  ·obtain⟨u1,u2⟩:=z2m (S:=S) (f:=pl) (c:=pm) (.inr HQ.out)
   have hu:S=E:=by rw[<-HE.out];exact u1.symm
   have hv:false=bb:=by rw[<-gm.out];exact u2.symm
   subst hu;subst hv;have HF:=gZ;clear gZ HE gm u1 u2 hr HQ;obtain⟨_,_,hR,hZ,Ga,_,_⟩:=HF.out;obtain⟨z_0,z_1,z_2,z_3,z_4,z_5,z_6,z_7⟩:=hZ.c8;obtain⟨r_0,r_1,r_2,r_3,r_4,r_5,r_6,r_7,r_f0,r_f1,r_f2,r_f3,r_f4,r_f5,r_f6,r_f7⟩:=hR.b8;have Hl:=hR.lt;have Hy:=h_ (HF.out.fin);clear hR hZ HF;go_wp2;exact bodyPost_ret (v:= .tuple #[.agg (s8_ A0 A1 A2 A3 A4 A5 A6 a0 a1 a2 a3 a4 a5 a6 S),.bool false]) (by simp[results,Tryz.results48,go_sem,r_0,r_1,r_2,r_3,r_4,r_5,r_6,r_7,Hl]) rfl ⟨_,_,_,_,_,_,_,_,_,_,_,_,_,_,fs,rfl,(Hy.out _ _ _ _ _ _ _ _).1,(Hy.out _ _ _ _ _ _ _ _).2⟩
  ·obtain⟨_,k,rfl,hk,_⟩:=z2h HQ.out
   have G8:=gZ.out.X;obtain⟨x_0,x_1,x_2,x_3,x_4,x_5,x_6,x_7⟩:=G8.c8;have Fj:=G8.lt;have hlen6:=gi.out.ds;obtain⟨y,hy⟩:∃z,dayN S.ds=z:=⟨_,rfl⟩;have ml:=h_ hy;clear hy
   go_upto_if 29 with (fail)
   go_cut [9] (fun s9 wx=>s9= .int .i64 y/\wx=w4)
   case first=>
    rcases abw S.ds.length with nw|nw
    ·have me:Hid ((0:Int)=y):=h_ (by rw[<-ml.out];unfold dayN;rw[aao nw])
     have GD:¬(0:Int)<(S.ds.length:Int):=o_
     clear nw;go_wp2;go_meet
     exact⟨by rw[me.out],rfl⟩
    ·obtain⟨m,hm⟩:∃m,S.ds.length=m+1:=⟨S.ds.length -1,by omega⟩
     obtain⟨mD,hd1,hd2,Uj⟩:=z5V hr hm;rw[ml.out] at Uj;have me:=h_ Uj.symm;obtain⟨b6,off6,rfl,rz⟩:=Ft.out nw;have Gy:=rz.below gZ.out.blw;obtain⟨_,_,hq2⟩:=Gy.2 m o_;generalize (dpI S.ds m).b =db at*;have GD:(0:Int)<(S.ds.length:Int):=o_
     have cF:(S.ds.length:Int) -1=(m:Int):=o_
     have FY:IntKind.i64.wrap ((S.ds.length:Int) -1)=(m:Int):=by rw[cF];exact aaQ _ o_
     have ik1:(0:Int)<=(m:Int):=o_
     have ik2:(m:Int)<(S.ds.length:Int):=o_
     have gS:IntKind.i64.wrap (db+1)=db+1:=aaQ _ o_;clear Uj Gy rz nw hm cF;go_wp2;go_meet
     exact⟨by rw[me.out],rfl⟩
   case rest=>
    obtain⟨rfl,hwc⟩:=hcut;have hwc2:=hwc.symm;clear hwc;subst hwc2;obtain⟨nu,hnu⟩:∃z,numN S.D.nn S.D.nl k=z:=⟨_,rfl⟩;have UD:=h_ hnu;have Mh:=fun (v:World) (hb:Below w.heap.size w v)=>z8r v2 v3 S.D.nn S.D.nl k v (HH.out.dr.nn.below hb) (HH.out.dr.nl.below hb)
    rw[hnu] at Mh;have HNU:=h_ Mh;clear hnu Mh;obtain⟨dd,CU⟩:∃d:Dp,(⟨nu,pm,y⟩:Dp)=d:=⟨_,rfl⟩;have Vt:=h_ CU;obtain⟨l',Gc⟩:∃l,adpL S.ds dd=l:=⟨_,rfl⟩;obtain⟨b',gw⟩:∃b,adpB S.ds dd=b:=⟨_,rfl⟩;have BC:=h_ Gc;have fR:=h_ gw;have ru:=h_ (fun (v:World) (hb:Below w.heap.size w v)=>z43 (.slice B6 S.ds.length d6) S.ds dd v (HH.out.ds.below hb) gi.out.ds);rw[Gc,gw] at ru;rw[<-CU] at ru;clear Gc gw CU;have Nm:=gZ.out.blw;have fE:Below w4.heap.size w4 w4.drew:=(aaj _ _).drew;have Mi:=Nm.trans (fE.mono Nm.size)
    go_upto_region 7 with (fail)
    refine vo (n:=14) (S:=fun w'=>w'.cell? ⟨w.heap.size,2,none⟩=some v2/\w'.cell? ⟨w.heap.size,3,none⟩=some v3/\w'.cell? ⟨w.heap.size,6,none⟩=some (.slice B6 S.ds.length d6)) k_ ⟨x_2,x_3,x_6⟩ (fun hS=>?_)
    refine tE_ 0 rfl rfl ?_;(try simp only[lp_])
    refine tE_ 1 rfl rfl ?_;(try simp only[lp_])
    refine tE_ 2 rfl rfl ?_;(try simp only[lp_])
    refine tE_ 3 rfl rfl ?_;(try simp only[lp_])
    refine tE_ 4 rfl rfl ?_;(try simp only[lp_])
    refine tE_ 5 rfl rfl ?_;(try simp only[lp_])
    refine tE_ 7 rfl rfl ?_;(try simp only[lp_])
    refine tE_ 8 rfl rfl ?_;(try simp only[lp_])
    (refine qg (i:=6) rfl k_ (fun K hK=>?_));(rw[aao (by rfl)])
    go_simp
    go_at_call 40
    refine(HNU.out _ Mi).mono ?_
    rintro e w5 ⟨rfl,gf⟩;have gL:Below w4.heap.size w4 w5:=fE.trans (gf.mono fE.size);have rA:=Nm.trans (gL.mono Nm.size);clear gf
    go_wp2_with fail
    refine hK _ _ (fun _=>⟨(gL.cell (p:=⟨w.heap.size,2,none⟩) Fj).trans x_2,(gL.cell (p:=⟨w.heap.size,3,none⟩) Fj).trans x_3,(gL.cell (p:=⟨w.heap.size,6,none⟩) Fj).trans x_6⟩) (fun gl=>?_)
    have hS:=gl k_;clear hK K gl
    (try simp only[lp_])
    refine tE_ 9 rfl rfl ?_;(try simp only[lp_])
    (refine qg (i:=10) rfl k_ (fun K hK=>?_));(rw[aao (by rfl)])
    go_simp
    go_at_call 123
    refine(ru.out _ rA).mono ?_
    rintro e w6 ⟨vt,rfl,fD,gk⟩;obtain⟨T6,t6,rfl⟩:=zk.form fD;have gE:=gL.trans (gk.mono gL.size);have HF:=h_ (OutSS.newDs gZ.out gE (zk.mono fD gL.size));have MQ:=h_ (gZ.out.below gE);clear gk fD
    go_wp2_with fail
    refine hK _ _ (fun _=>⟨(gE.cell (p:=⟨w.heap.size,2,none⟩) Fj).trans x_2,(gE.cell (p:=⟨w.heap.size,3,none⟩) Fj).trans x_3,(gE.cell (p:=⟨w.heap.size,6,none⟩) Fj).trans x_6⟩) (fun gl=>?_)
    have hS:=gl k_;clear hK K gl
    (try simp only[lp_])
    refine tE_ 11 rfl rfl ?_;(try simp only[lp_])
    refine tE_ 12 rfl rfl ?_;(try simp only[lp_])
    refine tF_ 13 rfl ?_;(try simp only[lp_])
    (refine qg (i:=14) rfl k_ (fun K hK=>?_));(rw[aao (by rfl)])
    go_simp;refine hK _ _ (fun h=>by cases h) (fun _=>?_)
    clear hK K
    (try simp only[lp_])
    (refine qg (i:=15) rfl k_ (fun K hK=>?_));(rw[aao (by rfl)])
    go_simp;refine hK _ _ (fun h=>by cases h) (fun _=>?_)
    clear hK K
    (try simp only[lp_])
    refine ky k_ ?_ _
    clear gZ gE gL Nm Mi rA fE hS G8 Fj x_0 x_1 x_2 x_3 x_4 x_5 x_6 x_7 ru HNU
    cases b'
    ·clear HF
     obtain⟨u1,u2⟩:=z8W hr HQ.out ml.out UD.out Vt.out fR.out;have hu:S=E:=by rw[<-HE.out];exact u1.symm
     have hv:false=bb:=by rw[<-gm.out];exact u2.symm
     subst hu;subst hv;have HF:=MQ;clear MQ HE gm u1 u2 hr fR BC;obtain⟨_,_,hR,hZ,Ga,_,_⟩:=HF.out;obtain⟨z_0,z_1,z_2,z_3,z_4,z_5,z_6,z_7⟩:=hZ.c8;obtain⟨r_0,r_1,r_2,r_3,r_4,r_5,r_6,r_7,r_f0,r_f1,r_f2,r_f3,r_f4,r_f5,r_f6,r_f7⟩:=hR.b8;have Hl:=hR.lt;have Hy:=h_ (HF.out.fin);clear hR hZ HF;go_wp2;exact bodyPost_ret (v:= .tuple #[.agg (s8_ A0 A1 A2 A3 A4 A5 A6 a0 a1 a2 a3 a4 a5 a6 S),.bool false]) (by simp[results,Tryz.results48,go_sem,r_0,r_1,r_2,r_3,r_4,r_5,r_6,r_7,Hl]) rfl ⟨_,_,_,_,_,_,_,_,_,_,_,_,_,_,fs,rfl,(Hy.out _ _ _ _ _ _ _ _).1,(Hy.out _ _ _ _ _ _ _ _).2⟩
    ·obtain⟨u1,u2⟩:=z2a hr HQ.out ml.out UD.out Vt.out
     rw[BC.out] at u1;rw[fR.out] at u2;have hu:(⟨S.D,S.cs,l',S.fund⟩:St)=E:=by rw[<-HE.out];exact u1.symm
     have hv:true=bb:=by rw[<-gm.out];exact u2.symm
     subst hu;subst hv;obtain⟨_,_,hR,hZ,Ga,_,_⟩:=MQ.out;obtain⟨z_0,z_1,z_2,z_3,z_4,z_5,z_6,z_7,z_f0,z_f1,z_f2,z_f3,z_f4,z_f5,z_f6,z_f7⟩:=hZ.b8;obtain⟨r_0,r_1,r_2,r_3,r_4,r_5,r_6,r_7,r_f0,r_f1,r_f2,r_f3,r_f4,r_f5,r_f6,r_f7⟩:=hR.b8;have Hl:=hR.lt;have Fr:=hZ.lt;have Hy:=h_ (HF.out.fin);clear hR hZ HF MQ HE gm u1 u2 hr BC fR;have FK:¬Z=w.heap.size+1:=o_
     have Gv:¬w.heap.size+1=Z:=o_
     go_wp2;exact bodyPost_ret (v:= .tuple #[.agg #[.slice A0 S.D.fn.length a0,.slice A1 S.D.fl.length a1,.slice A2 S.D.nn.length a2,.slice A3 S.D.nl.length a3,.slice A4 S.D.ss.length a4,.slice A5 S.cs.length a5,.slice T6 l'.length t6,.int .i64 S.fund],.bool true]) (by simp[results,Tryz.results48,go_sem,r_0,r_1,r_2,r_3,r_4,r_5,r_6,r_7,z_0,z_1,z_2,z_3,z_4,z_5,z_6,z_7,Hl,Fr,FK,Gv]) rfl ⟨_,_,_,_,_,_,_,_,_,_,_,_,_,_,fs,rfl,(Hy.out _ _ _ _ _ _ _ _).1,(Hy.out _ _ _ _ _ _ _ _).2⟩
end Go.Proofs.YtnjcpljhmhdhkaaGreat
