/- part 40 -/
import Derived.Test.YtnjcpljhmhdhkaaGreatTPk33
import Derived.Test.YtnjcpljhmhdhkaaGreatTPk39
set_option linter.unusedSimpArgs false
set_option linter.unusedVariables false
set_option maxRecDepth 100000
set_option maxHeartbeats 16000000
namespace Go.Proofs.YtnjcpljhmhdhkaaGreat
open Go.RowKit
theorem z0Y {S:St} {f c:Int} (h:ze S=false∨yi S.D.nn S.D.nl f=false):stoS S f c=S/\stoB S f c=false:=by
 have hb:stoB S f c=false:=by
  unfold stoB
  rcases h with h|h<;>simp[h]
 exact⟨by unfold stoS;rw[hb];rfl,hb⟩
theorem z1B {S:St} {k:Nat} {c y u:Int} {d:Dp} (h1:ze S=true) (h2:yi S.D.nn S.D.nl k=true) (hy:dayN S.ds=y) (hu:numN S.D.nn S.D.nl k=u) (hd:(⟨u,c,y⟩:Dp)=d):stoS S k c=⟨S.D,S.cs,adpL S.ds d,S.fund⟩/\stoB S k c=adpB S.ds d:=by
 have hn:z8b S k c=d:=by rw[<-hd,<-hy,<-hu];rfl
 have hb:stoB S k c=adpB S.ds d:=by unfold stoB;rw[h1,h2,hn];rfl
 refine⟨?_,hb⟩
 unfold stoS;rw[hb,hn];unfold adpL
 cases h:adpB S.ds d
 ·rfl
 ·rfl
theorem z6U {S:St} {k:Nat} {c y u:Int} {d:Dp} (h1:ze S=true) (h2:yi S.D.nn S.D.nl k=true) (hy:dayN S.ds=y) (hu:numN S.D.nn S.D.nl k=u) (hd:(⟨u,c,y⟩:Dp)=d) (h3:adpB S.ds d=false):stoS S k c=S/\stoB S k c=false:=by
 obtain⟨u1,u2⟩:=z1B h1 h2 hy hu hd;refine⟨?_,u2.trans h3⟩
 rw[u1];unfold adpL;rw[h3];rfl
theorem z53 {S:St} (h:ze S=true) {m:Nat} (hm:S.ds.length=m+1):0<=(dpI S.ds m).b /\(dpI S.ds m).b <=9999/\S.ds.length<=40/\dayN S.ds=(dpI S.ds m).b +1:=by
 obtain⟨h1,h2⟩:=ym.1 (jp.1 h).2.1;have h3:=h2 m o_;unfold depB at h3;simp only[aaG] at h3
 have h4:=zc.1 h3.2.2.1;refine⟨h4.1,h4.2,h1,?_⟩
 unfold dayN;rw[aaq o_,hm];rfl
theorem Xt (v0 v1 v2 v3 v4 v5 v6:Value) (S:St) (pl:Int) (pm:Int) (w:World) (h:RSt w v0 v1 v2 v3 v4 v5 v6 S) (hle:StLe S):
  Calls Tryz.prog 39 #[.agg #[v0,v1,v2,v3,v4,v5,v6,.int .i64 S.fund],.int .i64 pl,.int .i64 pm] w (ya (stoS S pl pm) (stoB S pl pm) w):=by
 obtain⟨r,hr⟩:∃r,ze S=r:=⟨_,rfl⟩;have HR:=h_ hr;have gf:=h_ hle;obtain⟨B6,d6,ev6,cO,cP,fI⟩:=h.ds.at_;subst ev6;unfold maxLen at cP;have FB:=h_ fI;clear fI;obtain⟨E,hE⟩:∃E,stoS S pl pm=E:=⟨_,rfl⟩;obtain⟨bb,H4⟩:∃bb,stoB S pl pm=bb:=⟨_,rfl⟩;rw[hE,H4];have HE:=h_ hE;have H9:=h_ H4;have HH:=h_ h;clear hle hE H4 h
 go_enter Tryz.func39,Tryz.ntmps39
 go_wp2_with fail
 refine(qR _ _ _ _ _ _ _ S _ (HH.out.below bel_) gf.out).mono ?_
 rintro e w1 ⟨A0,a0,A1,a1,A2,a2,A3,a3,A4,a4,A5,a5,A6,a6,fs,rfl,Hj,Hb⟩;have gB:Blk w1 w.heap.size 34 #[v0,v1,v2,v3,v4,v5,.slice B6 S.ds.length d6,.int .i64 S.fund]:=Blk.below ((Blk.newAt rfl).alloc _) Hb sz_;have H6:Blk w1 (w.heap.size+1) 34 z8_:=Blk.below (Blk.newAt (by simp)) Hb sz_;have Ha:Below w.heap.size w w1:=bel_
 have Gt:OwnSt (w.heap.size+1+1) w1 (.slice A0 S.D.fn.length a0) (.slice A1 S.D.fl.length a1) (.slice A2 S.D.nn.length a2) (.slice A3 S.D.nl.length a3) (.slice A4 S.D.ss.length a4) (.slice A5 S.cs.length a5) (.slice A6 S.ds.length a6) S fs:=by simpa using Hj
 have gD:=h_ (OutSS.start Gt (aaa _) gB H6 Ha);obtain⟨x_0,x_1,x_2,x_3,x_4,x_5,x_6,x_7⟩:=gB.c8;have GR:=gB.lt;clear Hj Hb Gt
 go_wp2_with fail
 obtain⟨w2,gw⟩:∃w2,w2=w1.alloc (.cells #[.slice A0 S.D.fn.length a0,.slice A1 S.D.fl.length a1,.slice A2 S.D.nn.length a2,.slice A3 S.D.nl.length a3,.slice A4 S.D.ss.length a4,.slice A5 S.cs.length a5,.slice A6 S.ds.length a6,.int .i64 S.fund] 34):=⟨_,rfl⟩;rw[<-gw] at gD⊢;generalize w1.heap.size=Z at*;clear gw gB H6 Ha x_0 x_1 x_2 x_3 x_4 x_5 x_6 x_7 GR;refine(qA _ _ _ _ _ _ _ S r _ (HH.out.below gD.out.blw) HR).mono ?_
 rintro e w3 ⟨rfl,Hg⟩;have Ht:=h_ (gD.out.below Hg);clear Hg gD;have gS:=Ht.out.X;obtain⟨x_0,x_1,x_2,x_3,x_4,x_5,x_6,x_7⟩:=gS.c8
 cases r
 ·obtain⟨u1,u2⟩:=z0Y (S:=S) (f:=pl) (c:=pm) (.inl hr)
  have hu:S=E:=by rw[<-HE.out];exact u1.symm
  have hv:false=bb:=by rw[<-H9.out];exact u2.symm
  subst hu;subst hv;have HF:=Ht;clear Ht HE H9 u1 u2 hr gS;obtain⟨_,_,hR,hZ,Gb,_,_⟩:=HF.out;obtain⟨z_0,z_1,z_2,z_3,z_4,z_5,z_6,z_7⟩:=hZ.c8;obtain⟨r_0,r_1,r_2,r_3,r_4,r_5,r_6,r_7,r_f0,r_f1,r_f2,r_f3,r_f4,r_f5,r_f6,r_f7⟩:=hR.b8;have Hl:=hR.lt;have Hx:=h_ (HF.out.fin);clear hR hZ HF;go_wp2;exact bodyPost_ret (v:= .tuple #[.agg (s8_ A0 A1 A2 A3 A4 A5 A6 a0 a1 a2 a3 a4 a5 a6 S),.bool false]) (by simp[results,Tryz.results39,go_sem,r_0,r_1,r_2,r_3,r_4,r_5,r_6,r_7,Hl]) rfl ⟨_,_,_,_,_,_,_,_,_,_,_,_,_,_,fs,rfl,(Hx.out _ _ _ _ _ _ _ _).1,(Hx.out _ _ _ _ _ _ _ _).2⟩
 ·have HN:=h_ (HH.out.dr.nn.below Ht.out.blw)
  have HL:=h_ (HH.out.dr.nl.below Ht.out.blw);obtain⟨q,hq⟩:∃q,yi S.D.nn S.D.nl pl=q:=⟨_,rfl⟩;have HQ:=h_ hq
  go_wp2_with fail
  refine(z22 _ _ S.D.nn S.D.nl pl _ HN.out HL.out).mono ?_
  rw[hq];clear hq;rintro e w4 ⟨rfl,H5⟩;have gx:=h_ (Ht.out.below H5);clear Ht gS x_0 x_1 x_2 x_3 x_4 x_5 x_6 x_7 H5 HN HL
  cases q
  ·obtain⟨u1,u2⟩:=z0Y (S:=S) (f:=pl) (c:=pm) (.inr HQ.out)
   have hu:S=E:=by rw[<-HE.out];exact u1.symm
   have hv:false=bb:=by rw[<-H9.out];exact u2.symm
   subst hu;subst hv;have HF:=gx;clear gx HE H9 u1 u2 hr HQ;obtain⟨_,_,hR,hZ,Gb,_,_⟩:=HF.out;obtain⟨z_0,z_1,z_2,z_3,z_4,z_5,z_6,z_7⟩:=hZ.c8;obtain⟨r_0,r_1,r_2,r_3,r_4,r_5,r_6,r_7,r_f0,r_f1,r_f2,r_f3,r_f4,r_f5,r_f6,r_f7⟩:=hR.b8;have Hl:=hR.lt;have Hx:=h_ (HF.out.fin);clear hR hZ HF;go_wp2;exact bodyPost_ret (v:= .tuple #[.agg (s8_ A0 A1 A2 A3 A4 A5 A6 a0 a1 a2 a3 a4 a5 a6 S),.bool false]) (by simp[results,Tryz.results39,go_sem,r_0,r_1,r_2,r_3,r_4,r_5,r_6,r_7,Hl]) rfl ⟨_,_,_,_,_,_,_,_,_,_,_,_,_,_,fs,rfl,(Hx.out _ _ _ _ _ _ _ _).1,(Hx.out _ _ _ _ _ _ _ _).2⟩
  ·obtain⟨_,k,rfl,hk,_⟩:=z1q HQ.out
   have G7:=gx.out.X;obtain⟨x_0,x_1,x_2,x_3,x_4,x_5,x_6,x_7⟩:=G7.c8;have Fe:=G7.lt;have hlen6:=gf.out.ds;obtain⟨y,hy⟩:∃z,dayN S.ds=z:=⟨_,rfl⟩;have mg:=h_ hy;clear hy
   go_upto_if 31 with (fail)
   go_cut [9] (fun s9 wx=>s9= .int .i64 y/\wx=w4)
   case first=>
    rcases abv S.ds.length with NG|NG
    ·have BW:Hid ((0:Int)=y):=h_ (by rw[<-mg.out];unfold dayN;rw[aao NG])
     have fZ:¬(0:Int)<(S.ds.length:Int):=o_
     clear NG;go_wp2;go_meet
     exact⟨by rw[BW.out],rfl⟩
    ·obtain⟨m,hm⟩:∃m,S.ds.length=m+1:=⟨S.ds.length -1,by omega⟩
     obtain⟨mu,hd1,ut,M6⟩:=z53 hr hm;rw[mg.out] at M6;have BW:=h_ M6.symm;obtain⟨b6,off6,rfl,NH⟩:=FB.out NG;have fI:=NH.below gx.out.blw;obtain⟨_,_,rt⟩:=fI.2 m o_;generalize (dpI S.ds m).b =db at*;have fZ:(0:Int)<(S.ds.length:Int):=o_
     have FT:(S.ds.length:Int) -1=(m:Int):=o_
     have F9:IntKind.i64.wrap ((S.ds.length:Int) -1)=(m:Int):=by rw[FT];exact aaP _ o_
     have ik1:(0:Int)<=(m:Int):=o_
     have ik2:(m:Int)<(S.ds.length:Int):=o_
     have gw:IntKind.i64.wrap (db+1)=db+1:=aaP _ o_;clear M6 fI NH NG hm FT;go_wp2;go_meet
     exact⟨by rw[BW.out],rfl⟩
   case rest=>
    obtain⟨rfl,R0⟩:=hcut;have wI:=R0.symm;clear R0;subst wI;obtain⟨nu,rj⟩:∃z,numN S.D.nn S.D.nl k=z:=⟨_,rfl⟩;have Rf:=h_ rj;have Mb:=fun (v:World) (hb:Below w.heap.size w v)=>z2o v2 v3 S.D.nn S.D.nl k v (HH.out.dr.nn.below hb) (HH.out.dr.nl.below hb)
    rw[rj] at Mb;have HNU:=h_ Mb;clear rj Mb;obtain⟨dd,C1⟩:∃d:Dp,(⟨nu,pm,y⟩:Dp)=d:=⟨_,rfl⟩;have HDD:=h_ C1;obtain⟨l',Gq⟩:∃l,adpL S.ds dd=l:=⟨_,rfl⟩;obtain⟨b',gH⟩:∃b,adpB S.ds dd=b:=⟨_,rfl⟩;have Bx:=h_ Gq;have fE:=h_ gH;have ND:=h_ (fun (v:World) (hb:Below w.heap.size w v)=>z2Q (.slice B6 S.ds.length d6) S.ds dd v (HH.out.ds.below hb) gf.out.ds);rw[Gq,gH] at ND;rw[<-C1] at ND;clear Gq gH C1;have nj:=gx.out.blw;have fo:Below w4.heap.size w4 w4.drew:=(aaj _ _).drew;have NI:=nj.trans (fo.mono nj.size)
    go_upto_region 8 with (fail)
    refine qD (n:=14) (S:=fun w'=>w'.cell? ⟨w.heap.size,2,none⟩=some v2/\w'.cell? ⟨w.heap.size,3,none⟩=some v3/\w'.cell? ⟨w.heap.size,6,none⟩=some (.slice B6 S.ds.length d6)) k_ ⟨x_2,x_3,x_6⟩ (fun hS=>?_)
    refine tE_ 0 rfl rfl ?_;(try simp only[lp_])
    refine tE_ 1 rfl rfl ?_;(try simp only[lp_])
    refine tE_ 2 rfl rfl ?_;(try simp only[lp_])
    refine tE_ 3 rfl rfl ?_;(try simp only[lp_])
    refine tE_ 4 rfl rfl ?_;(try simp only[lp_])
    refine tE_ 5 rfl rfl ?_;(try simp only[lp_])
    refine tE_ 7 rfl rfl ?_;(try simp only[lp_])
    refine tE_ 8 rfl rfl ?_;(try simp only[lp_])
    (refine zm (i:=6) rfl k_ (fun K hK=>?_));(rw[aao (by rfl)])
    go_simp
    go_at_call 23
    refine(HNU.out _ NI).mono ?_
    rintro e w5 ⟨rfl,gk⟩;have gQ:Below w4.heap.size w4 w5:=fo.trans (gk.mono fo.size);have NJ:=nj.trans (gQ.mono nj.size);clear gk
    go_wp2_with fail
    refine hK _ _ (fun _=>⟨(gQ.cell (p:=⟨w.heap.size,2,none⟩) Fe).trans x_2,(gQ.cell (p:=⟨w.heap.size,3,none⟩) Fe).trans x_3,(gQ.cell (p:=⟨w.heap.size,6,none⟩) Fe).trans x_6⟩) (fun gh=>?_)
    have hS:=gh k_;clear hK K gh
    (try simp only[lp_])
    refine tE_ 9 rfl rfl ?_;(try simp only[lp_])
    (refine zm (i:=10) rfl k_ (fun K hK=>?_));(rw[aao (by rfl)])
    go_simp
    go_at_call 112
    refine(ND.out _ NJ).mono ?_
    rintro e w6 ⟨vt,rfl,fh,gJ⟩;obtain⟨T6,t6,rfl⟩:=zx.form fh;have gF:=gQ.trans (gJ.mono gQ.size);have HF:=h_ (OutSS.newDs gx.out gF (zx.mono fh gQ.size));have fS:=h_ (gx.out.below gF);clear gJ fh
    go_wp2_with fail
    refine hK _ _ (fun _=>⟨(gF.cell (p:=⟨w.heap.size,2,none⟩) Fe).trans x_2,(gF.cell (p:=⟨w.heap.size,3,none⟩) Fe).trans x_3,(gF.cell (p:=⟨w.heap.size,6,none⟩) Fe).trans x_6⟩) (fun gh=>?_)
    have hS:=gh k_;clear hK K gh
    (try simp only[lp_])
    refine tE_ 11 rfl rfl ?_;(try simp only[lp_])
    refine tE_ 12 rfl rfl ?_;(try simp only[lp_])
    refine tF_ 13 rfl ?_;(try simp only[lp_])
    (refine zm (i:=14) rfl k_ (fun K hK=>?_));(rw[aao (by rfl)])
    go_simp;refine hK _ _ (fun h=>by cases h) (fun _=>?_)
    clear hK K
    (try simp only[lp_])
    (refine zm (i:=15) rfl k_ (fun K hK=>?_));(rw[aao (by rfl)])
    go_simp;refine hK _ _ (fun h=>by cases h) (fun _=>?_)
    clear hK K
    (try simp only[lp_])
    refine jr k_ ?_ _
    clear gx gF gQ nj NI NJ fo hS G7 Fe x_0 x_1 x_2 x_3 x_4 x_5 x_6 x_7 ND HNU;obtain⟨u1,u2⟩:=z1B hr HQ.out mg.out Rf.out HDD.out;rw[Bx.out] at u1;rw[fE.out] at u2;have hu:(⟨S.D,S.cs,l',S.fund⟩:St)=E:=by rw[<-HE.out];exact u1.symm
    have hv:b'=bb:=by rw[<-H9.out];exact u2.symm
    subst hu;subst hv;obtain⟨_,_,hR,hZ,Gb,_,_⟩:=fS.out;obtain⟨z_0,z_1,z_2,z_3,z_4,z_5,z_6,z_7,z_f0,z_f1,z_f2,z_f3,z_f4,z_f5,z_f6,z_f7⟩:=hZ.b8;obtain⟨r_0,r_1,r_2,r_3,r_4,r_5,r_6,r_7,r_f0,r_f1,r_f2,r_f3,r_f4,r_f5,r_f6,r_f7⟩:=hR.b8;have Hl:=hR.lt;have fW:=hZ.lt;have Hx:=h_ (HF.out.fin);clear hR hZ HF fS HE H9 u1 u2 hr Bx fE;have FM:¬Z=w.heap.size+1:=o_
    have Gr:¬w.heap.size+1=Z:=o_
    go_wp2;exact bodyPost_ret (v:= .tuple #[.agg #[.slice A0 S.D.fn.length a0,.slice A1 S.D.fl.length a1,.slice A2 S.D.nn.length a2,.slice A3 S.D.nl.length a3,.slice A4 S.D.ss.length a4,.slice A5 S.cs.length a5,.slice T6 l'.length t6,.int .i64 S.fund],.bool b']) (by simp[results,Tryz.results39,go_sem,r_0,r_1,r_2,r_3,r_4,r_5,r_6,r_7,z_0,z_1,z_2,z_3,z_4,z_5,z_6,z_7,Hl,fW,FM,Gr]) rfl ⟨_,_,_,_,_,_,_,_,_,_,_,_,_,_,fs,rfl,(Hx.out _ _ _ _ _ _ _ _).1,(Hx.out _ _ _ _ _ _ _ _).2⟩
theorem Qs (v0 v1 v2 v3 v4 v5 v6:Value) (S:St) (pl:Int) (pm:Int) (w:World) (h:RSt w v0 v1 v2 v3 v4 v5 v6 S) (hle:StLe S):
  Calls Tryz.prog 48 #[.agg #[v0,v1,v2,v3,v4,v5,v6,.int .i64 S.fund],.int .i64 pl,.int .i64 pm] w (ya (stoS S pl pm) (stoB S pl pm) w):=by
 obtain⟨r,hr⟩:∃r,ze S=r:=⟨_,rfl⟩;have HR:=h_ hr;have gf:=h_ hle;obtain⟨B6,d6,ev6,cO,cP,fI⟩:=h.ds.at_;subst ev6;unfold maxLen at cP;have FB:=h_ fI;clear fI;obtain⟨E,hE⟩:∃E,stoS S pl pm=E:=⟨_,rfl⟩;obtain⟨bb,H4⟩:∃bb,stoB S pl pm=bb:=⟨_,rfl⟩;rw[hE,H4];have HE:=h_ hE;have H9:=h_ H4;have HH:=h_ h;clear hle hE H4 h
 go_enter Tryz.func48,Tryz.ntmps48
 go_wp2_with fail
 refine(jV _ _ _ _ _ _ _ S _ (HH.out.below bel_) gf.out).mono ?_
 rintro e w1 ⟨A0,a0,A1,a1,A2,a2,A3,a3,A4,a4,A5,a5,A6,a6,fs,rfl,Hj,Hb⟩;have gB:Blk w1 w.heap.size 34 #[v0,v1,v2,v3,v4,v5,.slice B6 S.ds.length d6,.int .i64 S.fund]:=Blk.below ((Blk.newAt rfl).alloc _) Hb sz_;have H6:Blk w1 (w.heap.size+1) 34 z8_:=Blk.below (Blk.newAt (by simp)) Hb sz_;have Ha:Below w.heap.size w w1:=bel_
 have Gt:OwnSt (w.heap.size+1+1) w1 (.slice A0 S.D.fn.length a0) (.slice A1 S.D.fl.length a1) (.slice A2 S.D.nn.length a2) (.slice A3 S.D.nl.length a3) (.slice A4 S.D.ss.length a4) (.slice A5 S.cs.length a5) (.slice A6 S.ds.length a6) S fs:=by simpa using Hj
 have gD:=h_ (OutSS.start Gt (aaa _) gB H6 Ha);obtain⟨x_0,x_1,x_2,x_3,x_4,x_5,x_6,x_7⟩:=gB.c8;have GR:=gB.lt;clear Hj Hb Gt
 go_wp2_with fail
 obtain⟨w2,gw⟩:∃w2,w2=w1.alloc (.cells #[.slice A0 S.D.fn.length a0,.slice A1 S.D.fl.length a1,.slice A2 S.D.nn.length a2,.slice A3 S.D.nl.length a3,.slice A4 S.D.ss.length a4,.slice A5 S.cs.length a5,.slice A6 S.ds.length a6,.int .i64 S.fund] 34):=⟨_,rfl⟩;rw[<-gw] at gD⊢;generalize w1.heap.size=Z at*;clear gw gB H6 Ha x_0 x_1 x_2 x_3 x_4 x_5 x_6 x_7 GR;refine(jc _ _ _ _ _ _ _ S r _ (HH.out.below gD.out.blw) HR).mono ?_
 rintro e w3 ⟨rfl,Hg⟩;have Ht:=h_ (gD.out.below Hg);clear Hg gD;have gS:=Ht.out.X;obtain⟨x_0,x_1,x_2,x_3,x_4,x_5,x_6,x_7⟩:=gS.c8
 cases r
 ·obtain⟨u1,u2⟩:=z0Y (S:=S) (f:=pl) (c:=pm) (.inl hr)
  have hu:S=E:=by rw[<-HE.out];exact u1.symm
  have hv:false=bb:=by rw[<-H9.out];exact u2.symm
  subst hu;subst hv;have HF:=Ht;clear Ht HE H9 u1 u2 hr gS;obtain⟨_,_,hR,hZ,Gb,_,_⟩:=HF.out;obtain⟨z_0,z_1,z_2,z_3,z_4,z_5,z_6,z_7⟩:=hZ.c8;obtain⟨r_0,r_1,r_2,r_3,r_4,r_5,r_6,r_7,r_f0,r_f1,r_f2,r_f3,r_f4,r_f5,r_f6,r_f7⟩:=hR.b8;have Hl:=hR.lt;have Hx:=h_ (HF.out.fin);clear hR hZ HF;go_wp2;exact bodyPost_ret (v:= .tuple #[.agg (s8_ A0 A1 A2 A3 A4 A5 A6 a0 a1 a2 a3 a4 a5 a6 S),.bool false]) (by simp[results,Tryz.results48,go_sem,r_0,r_1,r_2,r_3,r_4,r_5,r_6,r_7,Hl]) rfl ⟨_,_,_,_,_,_,_,_,_,_,_,_,_,_,fs,rfl,(Hx.out _ _ _ _ _ _ _ _).1,(Hx.out _ _ _ _ _ _ _ _).2⟩
 ·have HN:=h_ (HH.out.dr.nn.below Ht.out.blw)
  have HL:=h_ (HH.out.dr.nl.below Ht.out.blw);obtain⟨q,hq⟩:∃q,yi S.D.nn S.D.nl pl=q:=⟨_,rfl⟩;have HQ:=h_ hq
  go_wp2_with fail
  refine(z2I _ _ S.D.nn S.D.nl pl _ HN.out HL.out).mono ?_
  rw[hq];clear hq;rintro e w4 ⟨rfl,H5⟩;have gx:=h_ (Ht.out.below H5);clear Ht gS x_0 x_1 x_2 x_3 x_4 x_5 x_6 x_7 H5 HN HL
  cases q
  ·obtain⟨u1,u2⟩:=z0Y (S:=S) (f:=pl) (c:=pm) (.inr HQ.out)
   have hu:S=E:=by rw[<-HE.out];exact u1.symm
   have hv:false=bb:=by rw[<-H9.out];exact u2.symm
   subst hu;subst hv;have HF:=gx;clear gx HE H9 u1 u2 hr HQ;obtain⟨_,_,hR,hZ,Gb,_,_⟩:=HF.out;obtain⟨z_0,z_1,z_2,z_3,z_4,z_5,z_6,z_7⟩:=hZ.c8;obtain⟨r_0,r_1,r_2,r_3,r_4,r_5,r_6,r_7,r_f0,r_f1,r_f2,r_f3,r_f4,r_f5,r_f6,r_f7⟩:=hR.b8;have Hl:=hR.lt;have Hx:=h_ (HF.out.fin);clear hR hZ HF;go_wp2;exact bodyPost_ret (v:= .tuple #[.agg (s8_ A0 A1 A2 A3 A4 A5 A6 a0 a1 a2 a3 a4 a5 a6 S),.bool false]) (by simp[results,Tryz.results48,go_sem,r_0,r_1,r_2,r_3,r_4,r_5,r_6,r_7,Hl]) rfl ⟨_,_,_,_,_,_,_,_,_,_,_,_,_,_,fs,rfl,(Hx.out _ _ _ _ _ _ _ _).1,(Hx.out _ _ _ _ _ _ _ _).2⟩
  ·obtain⟨_,k,rfl,hk,_⟩:=z1q HQ.out
   have G7:=gx.out.X;obtain⟨x_0,x_1,x_2,x_3,x_4,x_5,x_6,x_7⟩:=G7.c8;have Fe:=G7.lt;have hlen6:=gf.out.ds;obtain⟨y,hy⟩:∃z,dayN S.ds=z:=⟨_,rfl⟩;have mg:=h_ hy;clear hy
   go_upto_if 29 with (fail)
   go_cut [9] (fun s9 wx=>s9= .int .i64 y/\wx=w4)
   case first=>
    rcases abv S.ds.length with NG|NG
    ·have BW:Hid ((0:Int)=y):=h_ (by rw[<-mg.out];unfold dayN;rw[aao NG])
     have fZ:¬(0:Int)<(S.ds.length:Int):=o_
     clear NG;go_wp2;go_meet
     exact⟨by rw[BW.out],rfl⟩
    ·obtain⟨m,hm⟩:∃m,S.ds.length=m+1:=⟨S.ds.length -1,by omega⟩
     obtain⟨mu,hd1,ut,M6⟩:=z53 hr hm;rw[mg.out] at M6;have BW:=h_ M6.symm;obtain⟨b6,off6,rfl,NH⟩:=FB.out NG;have fI:=NH.below gx.out.blw;obtain⟨_,_,rt⟩:=fI.2 m o_;generalize (dpI S.ds m).b =db at*;have fZ:(0:Int)<(S.ds.length:Int):=o_
     have FT:(S.ds.length:Int) -1=(m:Int):=o_
     have F9:IntKind.i64.wrap ((S.ds.length:Int) -1)=(m:Int):=by rw[FT];exact aaP _ o_
     have ik1:(0:Int)<=(m:Int):=o_
     have ik2:(m:Int)<(S.ds.length:Int):=o_
     have gw:IntKind.i64.wrap (db+1)=db+1:=aaP _ o_;clear M6 fI NH NG hm FT;go_wp2;go_meet
     exact⟨by rw[BW.out],rfl⟩
   case rest=>
    obtain⟨rfl,R0⟩:=hcut;have wI:=R0.symm;clear R0;subst wI;obtain⟨nu,rj⟩:∃z,numN S.D.nn S.D.nl k=z:=⟨_,rfl⟩;have Rf:=h_ rj;have Mb:=fun (v:World) (hb:Below w.heap.size w v)=>z6V v2 v3 S.D.nn S.D.nl k v (HH.out.dr.nn.below hb) (HH.out.dr.nl.below hb)
    rw[rj] at Mb;have HNU:=h_ Mb;clear rj Mb;obtain⟨dd,C1⟩:∃d:Dp,(⟨nu,pm,y⟩:Dp)=d:=⟨_,rfl⟩;have HDD:=h_ C1;obtain⟨l',Gq⟩:∃l,adpL S.ds dd=l:=⟨_,rfl⟩;obtain⟨b',gH⟩:∃b,adpB S.ds dd=b:=⟨_,rfl⟩;have Bx:=h_ Gq;have fE:=h_ gH;have ND:=h_ (fun (v:World) (hb:Below w.heap.size w v)=>z3d (.slice B6 S.ds.length d6) S.ds dd v (HH.out.ds.below hb) gf.out.ds);rw[Gq,gH] at ND;rw[<-C1] at ND;clear Gq gH C1;have nj:=gx.out.blw;have fo:Below w4.heap.size w4 w4.drew:=(aaj _ _).drew;have NI:=nj.trans (fo.mono nj.size)
    go_upto_region 7 with (fail)
    refine qD (n:=14) (S:=fun w'=>w'.cell? ⟨w.heap.size,2,none⟩=some v2/\w'.cell? ⟨w.heap.size,3,none⟩=some v3/\w'.cell? ⟨w.heap.size,6,none⟩=some (.slice B6 S.ds.length d6)) k_ ⟨x_2,x_3,x_6⟩ (fun hS=>?_)
    refine tE_ 0 rfl rfl ?_;(try simp only[lp_])
    refine tE_ 1 rfl rfl ?_;(try simp only[lp_])
    refine tE_ 2 rfl rfl ?_;(try simp only[lp_])
    refine tE_ 3 rfl rfl ?_;(try simp only[lp_])
    refine tE_ 4 rfl rfl ?_;(try simp only[lp_])
    refine tE_ 5 rfl rfl ?_;(try simp only[lp_])
    refine tE_ 7 rfl rfl ?_;(try simp only[lp_])
    refine tE_ 8 rfl rfl ?_;(try simp only[lp_])
    (refine zm (i:=6) rfl k_ (fun K hK=>?_));(rw[aao (by rfl)])
    go_simp
    go_at_call 40
    refine(HNU.out _ NI).mono ?_
    rintro e w5 ⟨rfl,gk⟩;have gQ:Below w4.heap.size w4 w5:=fo.trans (gk.mono fo.size);have NJ:=nj.trans (gQ.mono nj.size);clear gk
    go_wp2_with fail
    refine hK _ _ (fun _=>⟨(gQ.cell (p:=⟨w.heap.size,2,none⟩) Fe).trans x_2,(gQ.cell (p:=⟨w.heap.size,3,none⟩) Fe).trans x_3,(gQ.cell (p:=⟨w.heap.size,6,none⟩) Fe).trans x_6⟩) (fun gh=>?_)
    have hS:=gh k_;clear hK K gh
    (try simp only[lp_])
    refine tE_ 9 rfl rfl ?_;(try simp only[lp_])
    (refine zm (i:=10) rfl k_ (fun K hK=>?_));(rw[aao (by rfl)])
    go_simp
    go_at_call 123
    refine(ND.out _ NJ).mono ?_
    rintro e w6 ⟨vt,rfl,fh,gJ⟩;obtain⟨T6,t6,rfl⟩:=zx.form fh;have gF:=gQ.trans (gJ.mono gQ.size);have HF:=h_ (OutSS.newDs gx.out gF (zx.mono fh gQ.size));have fS:=h_ (gx.out.below gF);clear gJ fh
    go_wp2_with fail
    refine hK _ _ (fun _=>⟨(gF.cell (p:=⟨w.heap.size,2,none⟩) Fe).trans x_2,(gF.cell (p:=⟨w.heap.size,3,none⟩) Fe).trans x_3,(gF.cell (p:=⟨w.heap.size,6,none⟩) Fe).trans x_6⟩) (fun gh=>?_)
    have hS:=gh k_;clear hK K gh
    (try simp only[lp_])
    refine tE_ 11 rfl rfl ?_;(try simp only[lp_])
    refine tE_ 12 rfl rfl ?_;(try simp only[lp_])
    refine tF_ 13 rfl ?_;(try simp only[lp_])
    (refine zm (i:=14) rfl k_ (fun K hK=>?_));(rw[aao (by rfl)])
    go_simp;refine hK _ _ (fun h=>by cases h) (fun _=>?_)
    clear hK K
    (try simp only[lp_])
    (refine zm (i:=15) rfl k_ (fun K hK=>?_));(rw[aao (by rfl)])
    go_simp;refine hK _ _ (fun h=>by cases h) (fun _=>?_)
    clear hK K
    (try simp only[lp_])
    refine jr k_ ?_ _
    clear gx gF gQ nj NI NJ fo hS G7 Fe x_0 x_1 x_2 x_3 x_4 x_5 x_6 x_7 ND HNU
    cases b'
    ·clear HF
     obtain⟨u1,u2⟩:=z6U hr HQ.out mg.out Rf.out HDD.out fE.out;have hu:S=E:=by rw[<-HE.out];exact u1.symm
     have hv:false=bb:=by rw[<-H9.out];exact u2.symm
     subst hu;subst hv;have HF:=fS;clear fS HE H9 u1 u2 hr fE Bx;obtain⟨_,_,hR,hZ,Gb,_,_⟩:=HF.out;obtain⟨z_0,z_1,z_2,z_3,z_4,z_5,z_6,z_7⟩:=hZ.c8;obtain⟨r_0,r_1,r_2,r_3,r_4,r_5,r_6,r_7,r_f0,r_f1,r_f2,r_f3,r_f4,r_f5,r_f6,r_f7⟩:=hR.b8;have Hl:=hR.lt;have Hx:=h_ (HF.out.fin);clear hR hZ HF;go_wp2;exact bodyPost_ret (v:= .tuple #[.agg (s8_ A0 A1 A2 A3 A4 A5 A6 a0 a1 a2 a3 a4 a5 a6 S),.bool false]) (by simp[results,Tryz.results48,go_sem,r_0,r_1,r_2,r_3,r_4,r_5,r_6,r_7,Hl]) rfl ⟨_,_,_,_,_,_,_,_,_,_,_,_,_,_,fs,rfl,(Hx.out _ _ _ _ _ _ _ _).1,(Hx.out _ _ _ _ _ _ _ _).2⟩
    ·obtain⟨u1,u2⟩:=z1B hr HQ.out mg.out Rf.out HDD.out
     rw[Bx.out] at u1;rw[fE.out] at u2;have hu:(⟨S.D,S.cs,l',S.fund⟩:St)=E:=by rw[<-HE.out];exact u1.symm
     have hv:true=bb:=by rw[<-H9.out];exact u2.symm
     subst hu;subst hv;obtain⟨_,_,hR,hZ,Gb,_,_⟩:=fS.out;obtain⟨z_0,z_1,z_2,z_3,z_4,z_5,z_6,z_7,z_f0,z_f1,z_f2,z_f3,z_f4,z_f5,z_f6,z_f7⟩:=hZ.b8;obtain⟨r_0,r_1,r_2,r_3,r_4,r_5,r_6,r_7,r_f0,r_f1,r_f2,r_f3,r_f4,r_f5,r_f6,r_f7⟩:=hR.b8;have Hl:=hR.lt;have fW:=hZ.lt;have Hx:=h_ (HF.out.fin);clear hR hZ HF fS HE H9 u1 u2 hr Bx fE;have FM:¬Z=w.heap.size+1:=o_
     have Gr:¬w.heap.size+1=Z:=o_
     go_wp2;exact bodyPost_ret (v:= .tuple #[.agg #[.slice A0 S.D.fn.length a0,.slice A1 S.D.fl.length a1,.slice A2 S.D.nn.length a2,.slice A3 S.D.nl.length a3,.slice A4 S.D.ss.length a4,.slice A5 S.cs.length a5,.slice T6 l'.length t6,.int .i64 S.fund],.bool true]) (by simp[results,Tryz.results48,go_sem,r_0,r_1,r_2,r_3,r_4,r_5,r_6,r_7,z_0,z_1,z_2,z_3,z_4,z_5,z_6,z_7,Hl,fW,FM,Gr]) rfl ⟨_,_,_,_,_,_,_,_,_,_,_,_,_,_,fs,rfl,(Hx.out _ _ _ _ _ _ _ _).1,(Hx.out _ _ _ _ _ _ _ _).2⟩
end Go.Proofs.YtnjcpljhmhdhkaaGreat
