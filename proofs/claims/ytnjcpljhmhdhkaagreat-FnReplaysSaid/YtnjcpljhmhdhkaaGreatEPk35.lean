/- part 35 -/
import Derived.Test.YtnjcpljhmhdhkaaGreatEPk30
import Derived.Test.YtnjcpljhmhdhkaaGreatEPk34
set_option linter.unusedSimpArgs false
set_option linter.unusedVariables false
set_option maxRecDepth 100000
set_option maxHeartbeats 16000000
namespace Go.Proofs.YtnjcpljhmhdhkaaGreat
open Go.RowKit
theorem z0X {S:St} {f c:Int} (h:zd S=false∨yc S.D.nn S.D.nl f=false):stoS S f c=S/\stoB S f c=false:=by
 have hb:stoB S f c=false:=by
  unfold stoB
  rcases h with h|h<;>simp[h]
 exact⟨by unfold stoS;rw[hb];rfl,hb⟩
theorem z0t {S:St} {k:Nat} {c y u:Int} {d:Dp} (h1:zd S=true) (h2:yc S.D.nn S.D.nl k=true) (hy:dayN S.ds=y) (hu:numN S.D.nn S.D.nl k=u) (hd:(⟨u,c,y⟩:Dp)=d):stoS S k c=⟨S.D,S.cs,adpL S.ds d,S.fund⟩/\stoB S k c=adpB S.ds d:=by
 have hn:z6e S k c=d:=by rw[<-hd,<-hy,<-hu];rfl
 have hb:stoB S k c=adpB S.ds d:=by unfold stoB;rw[h1,h2,hn];rfl
 refine⟨?_,hb⟩
 unfold stoS;rw[hb,hn];unfold adpL
 cases h:adpB S.ds d
 ·rfl
 ·rfl
theorem z6B {S:St} {k:Nat} {c y u:Int} {d:Dp} (h1:zd S=true) (h2:yc S.D.nn S.D.nl k=true) (hy:dayN S.ds=y) (hu:numN S.D.nn S.D.nl k=u) (hd:(⟨u,c,y⟩:Dp)=d) (h3:adpB S.ds d=false):stoS S k c=S/\stoB S k c=false:=by
 obtain⟨u1,u2⟩:=z0t h1 h2 hy hu hd;refine⟨?_,u2.trans h3⟩
 rw[u1];unfold adpL;rw[h3];rfl
theorem z4r {S:St} (h:zd S=true) {m:Nat} (hm:S.ds.length=m+1):0<=(dpI S.ds m).b /\(dpI S.ds m).b <=9999/\S.ds.length<=40/\dayN S.ds=(dpI S.ds m).b +1:=by
 obtain⟨h1,h2⟩:=yD.1 (yR.1 h).2.1;have h3:=h2 m o_;unfold depB at h3;simp only[aaG] at h3
 have h4:=zf.1 h3.2.2.1;refine⟨h4.1,h4.2,h1,?_⟩
 unfold dayN;rw[aaq o_,hm];rfl
theorem VV (v0 v1 v2 v3 v4 v5 v6:Value) (S:St) (pl:Int) (pm:Int) (w:World) (h:RSt w v0 v1 v2 v3 v4 v5 v6 S) (hle:StLe S):
  Calls Tryz.prog 39 #[.agg #[v0,v1,v2,v3,v4,v5,v6,.int .i64 S.fund],.int .i64 pl,.int .i64 pm] w (yM (stoS S pl pm) (stoB S pl pm) w):=by
 obtain⟨r,hr⟩:∃r,zd S=r:=⟨_,rfl⟩;have HR:=h_ hr;have gf:=h_ hle;obtain⟨B6,d6,ev6,cK,CR,fr⟩:=h.ds.at_;subst ev6;unfold maxLen at CR;have Fg:=h_ fr;clear fr;obtain⟨E,hE⟩:∃E,stoS S pl pm=E:=⟨_,rfl⟩;obtain⟨bb,gj⟩:∃bb,stoB S pl pm=bb:=⟨_,rfl⟩;rw[hE,gj];have HE:=h_ hE;have gw:=h_ gj;have HH:=h_ h;clear hle hE gj h
 go_enter Tryz.func39,Tryz.ntmps39
 go_wp2_with fail
 refine(qw _ _ _ _ _ _ _ S _ (HH.out.below bel_) gf.out).mono ?_
 rintro e w1 ⟨A0,a0,A1,a1,A2,a2,A3,a3,A4,a4,A5,a5,A6,a6,fs,rfl,Hi,h9⟩;have Ga:Blk w1 w.heap.size 34 #[v0,v1,v2,v3,v4,v5,.slice B6 S.ds.length d6,.int .i64 S.fund]:=Blk.below ((Blk.newAt rfl).alloc _) h9 sz_;have Hx:Blk w1 (w.heap.size+1) 34 z8_:=Blk.below (Blk.newAt (by simp)) h9 sz_;have h8:Below w.heap.size w w1:=bel_
 have GQ:OwnSt (w.heap.size+1+1) w1 (.slice A0 S.D.fn.length a0) (.slice A1 S.D.fl.length a1) (.slice A2 S.D.nn.length a2) (.slice A3 S.D.nl.length a3) (.slice A4 S.D.ss.length a4) (.slice A5 S.cs.length a5) (.slice A6 S.ds.length a6) S fs:=by simpa using Hi
 have gU:=h_ (OutSS.start GQ (aaa _) Ga Hx h8);obtain⟨x_0,x_1,x_2,x_3,x_4,x_5,x_6,x_7⟩:=Ga.c8;have fS:=Ga.lt;clear Hi h9 GQ
 go_wp2_with fail
 obtain⟨w2,gR⟩:∃w2,w2=w1.alloc (.cells #[.slice A0 S.D.fn.length a0,.slice A1 S.D.fl.length a1,.slice A2 S.D.nn.length a2,.slice A3 S.D.nl.length a3,.slice A4 S.D.ss.length a4,.slice A5 S.cs.length a5,.slice A6 S.ds.length a6,.int .i64 S.fund] 34):=⟨_,rfl⟩;rw[<-gR] at gU⊢;generalize w1.heap.size=Z at*;clear gR Ga Hx h8 x_0 x_1 x_2 x_3 x_4 x_5 x_6 x_7 fS;refine(qb _ _ _ _ _ _ _ S r _ (HH.out.below gU.out.blw) HR).mono ?_
 rintro e w3 ⟨rfl,He⟩;have gk:=h_ (gU.out.below He);clear He gU;have Gr:=gk.out.X;obtain⟨x_0,x_1,x_2,x_3,x_4,x_5,x_6,x_7⟩:=Gr.c8
 cases r
 ·obtain⟨u1,u2⟩:=z0X (S:=S) (f:=pl) (c:=pm) (.inl hr)
  have hu:S=E:=by rw[<-HE.out];exact u1.symm
  have hv:false=bb:=by rw[<-gw.out];exact u2.symm
  subst hu;subst hv;have HF:=gk;clear gk HE gw u1 u2 hr Gr;obtain⟨_,_,hR,hZ,Gu,_,_⟩:=HF.out;obtain⟨z_0,z_1,z_2,z_3,z_4,z_5,z_6,z_7⟩:=hZ.c8;obtain⟨r_0,r_1,r_2,r_3,r_4,r_5,r_6,r_7,r_f0,r_f1,r_f2,r_f3,r_f4,r_f5,r_f6,r_f7⟩:=hR.b8;have Hr:=hR.lt;have gl:=h_ (HF.out.fin);clear hR hZ HF;go_wp2;exact bodyPost_ret (v:= .tuple #[.agg #[.slice A0 S.D.fn.length a0,.slice A1 S.D.fl.length a1,.slice A2 S.D.nn.length a2,.slice A3 S.D.nl.length a3,.slice A4 S.D.ss.length a4,.slice A5 S.cs.length a5,.slice A6 S.ds.length a6,.int .i64 S.fund],.bool false]) (by simp[results,Tryz.results39,go_sem,r_0,r_1,r_2,r_3,r_4,r_5,r_6,r_7,Hr]) rfl ⟨_,_,_,_,_,_,_,_,_,_,_,_,_,_,fs,rfl,(gl.out _ _ _ _ _ _ _ _).1,(gl.out _ _ _ _ _ _ _ _).2⟩
 ·have HN:=h_ (HH.out.dr.nn.below gk.out.blw)
  have HL:=h_ (HH.out.dr.nl.below gk.out.blw);obtain⟨q,hq⟩:∃q,yc S.D.nn S.D.nl pl=q:=⟨_,rfl⟩;have HQ:=h_ hq
  go_wp2_with fail
  refine(z2o _ _ S.D.nn S.D.nl pl _ HN.out HL.out).mono ?_
  rw[hq];clear hq;rintro e w4 ⟨rfl,Hw⟩;have Gg:=h_ (gk.out.below Hw);clear gk Gr x_0 x_1 x_2 x_3 x_4 x_5 x_6 x_7 Hw HN HL
  cases q
  ·obtain⟨u1,u2⟩:=z0X (S:=S) (f:=pl) (c:=pm) (.inr HQ.out)
   have hu:S=E:=by rw[<-HE.out];exact u1.symm
   have hv:false=bb:=by rw[<-gw.out];exact u2.symm
   subst hu;subst hv;have HF:=Gg;clear Gg HE gw u1 u2 hr HQ;obtain⟨_,_,hR,hZ,Gu,_,_⟩:=HF.out;obtain⟨z_0,z_1,z_2,z_3,z_4,z_5,z_6,z_7⟩:=hZ.c8;obtain⟨r_0,r_1,r_2,r_3,r_4,r_5,r_6,r_7,r_f0,r_f1,r_f2,r_f3,r_f4,r_f5,r_f6,r_f7⟩:=hR.b8;have Hr:=hR.lt;have gl:=h_ (HF.out.fin);clear hR hZ HF;go_wp2;exact bodyPost_ret (v:= .tuple #[.agg #[.slice A0 S.D.fn.length a0,.slice A1 S.D.fl.length a1,.slice A2 S.D.nn.length a2,.slice A3 S.D.nl.length a3,.slice A4 S.D.ss.length a4,.slice A5 S.cs.length a5,.slice A6 S.ds.length a6,.int .i64 S.fund],.bool false]) (by simp[results,Tryz.results39,go_sem,r_0,r_1,r_2,r_3,r_4,r_5,r_6,r_7,Hr]) rfl ⟨_,_,_,_,_,_,_,_,_,_,_,_,_,_,fs,rfl,(gl.out _ _ _ _ _ _ _ _).1,(gl.out _ _ _ _ _ _ _ _).2⟩
  ·obtain⟨_,k,rfl,hk,_⟩:=z0Y HQ.out
   have Fh:=Gg.out.X;obtain⟨x_0,x_1,x_2,x_3,x_4,x_5,x_6,x_7⟩:=Fh.c8;have fT:=Fh.lt;have Ya:=gf.out.ds;obtain⟨y,hy⟩:∃z,dayN S.ds=z:=⟨_,rfl⟩;have Bd:=h_ hy;clear hy
   go_upto_if 31 with (fail)
   go_cut [9] (fun s9 wx=>s9= .int .i64 y/\wx=w4)
   case first=>
    rcases abv S.ds.length with np|np
    ·have bX:Hid ((0:Int)=y):=h_ (by rw[<-Bd.out];unfold dayN;rw[aao np])
     have fv:¬(0:Int)<(S.ds.length:Int):=o_
     clear np;go_wp2;go_meet
     exact⟨by rw[bX.out],rfl⟩
    ·obtain⟨m,hm⟩:∃m,S.ds.length=m+1:=⟨S.ds.length -1,by omega⟩
     obtain⟨mw,hd1,hd2,NC⟩:=z4r hr hm;rw[Bd.out] at NC;have bX:=h_ NC.symm;obtain⟨b6,off6,rfl,nq⟩:=Fg.out np;have fr:=nq.below Gg.out.blw;obtain⟨_,_,rj⟩:=fr.2 m o_;generalize (dpI S.ds m).b =db at*;have fv:(0:Int)<(S.ds.length:Int):=o_
     have FO:(S.ds.length:Int) -1=(m:Int):=o_
     have F5:IntKind.i64.wrap ((S.ds.length:Int) -1)=(m:Int):=by rw[FO];exact aaP _ o_
     have ik1:(0:Int)<=(m:Int):=o_
     have ik2:(m:Int)<(S.ds.length:Int):=o_
     have gR:IntKind.i64.wrap (db+1)=db+1:=aaP _ o_;clear NC fr nq np hm FO;go_wp2;go_meet
     exact⟨by rw[bX.out],rfl⟩
   case rest=>
    obtain⟨rfl,rU⟩:=hcut;have Ul:=rU.symm;clear rU;subst Ul;obtain⟨nu,Um⟩:∃z,numN S.D.nn S.D.nl k=z:=⟨_,rfl⟩;have rb:=h_ Um;have mg:=fun (v:World) (hb:Below w.heap.size w v)=>z5W v2 v3 S.D.nn S.D.nl k v (HH.out.dr.nn.below hb) (HH.out.dr.nl.below hb)
    rw[Um] at mg;have Yb:=h_ mg;clear Um mg;obtain⟨dd,Cf⟩:∃d:Dp,(⟨nu,pm,y⟩:Dp)=d:=⟨_,rfl⟩;have Zz:=h_ Cf;obtain⟨l',Gm⟩:∃l,adpL S.ds dd=l:=⟨_,rfl⟩;obtain⟨b',gS⟩:∃b,adpB S.ds dd=b:=⟨_,rfl⟩;have mD:=h_ Gm;have FF:=h_ gS;have ni:=h_ (fun (v:World) (hb:Below w.heap.size w v)=>z28 (.slice B6 S.ds.length d6) S.ds dd v (HH.out.ds.below hb) gf.out.ds);rw[Gm,gS] at ni;rw[<-Cf] at ni;clear Gm gS Cf;have Mo:=Gg.out.blw;have fK:Below w4.heap.size w4 w4.drew:=(aaj _ _).drew;have nr:=Mo.trans (fK.mono Mo.size)
    go_upto_region 8 with (fail)
    refine jm (n:=14) (S:=fun w'=>w'.cell? ⟨w.heap.size,2,none⟩=some v2/\w'.cell? ⟨w.heap.size,3,none⟩=some v3/\w'.cell? ⟨w.heap.size,6,none⟩=some (.slice B6 S.ds.length d6)) k_ ⟨x_2,x_3,x_6⟩ (fun hS=>?_)
    refine tE_ 0 rfl rfl ?_;(try simp only[Act.put,abi,aal,aap])
    refine tE_ 1 rfl rfl ?_;(try simp only[Act.put,abi,aal,aap])
    refine tE_ 2 rfl rfl ?_;(try simp only[Act.put,abi,aal,aap])
    refine tE_ 3 rfl rfl ?_;(try simp only[Act.put,abi,aal,aap])
    refine tE_ 4 rfl rfl ?_;(try simp only[Act.put,abi,aal,aap])
    refine tE_ 5 rfl rfl ?_;(try simp only[Act.put,abi,aal,aap])
    refine tE_ 7 rfl rfl ?_;(try simp only[Act.put,abi,aal,aap])
    refine tE_ 8 rfl rfl ?_;(try simp only[Act.put,abi,aal,aap])
    (refine zL (i:=6) rfl k_ (fun K hK=>?_));(rw[aao (by rfl)])
    go_simp
    go_at_call 23
    refine(Yb.out _ nr).mono ?_
    rintro e w5 ⟨rfl,H0⟩;have gB:Below w4.heap.size w4 w5:=fK.trans (H0.mono fK.size);have nt:=Mo.trans (gB.mono Mo.size);clear H0
    go_wp2_with fail
    refine hK _ _ (fun _=>⟨(gB.cell (p:=⟨w.heap.size,2,none⟩) fT).trans x_2,(gB.cell (p:=⟨w.heap.size,3,none⟩) fT).trans x_3,(gB.cell (p:=⟨w.heap.size,6,none⟩) fT).trans x_6⟩) (fun gp=>?_)
    have hS:=gp k_;clear hK K gp
    (try simp only[Act.put,abi,aal,aap])
    refine tE_ 9 rfl rfl ?_;(try simp only[Act.put,abi,aal,aap])
    (refine zL (i:=10) rfl k_ (fun K hK=>?_));(rw[aao (by rfl)])
    go_simp
    go_at_call 112
    refine(ni.out _ nt).mono ?_
    rintro e w6 ⟨vt,rfl,G2,gz⟩;obtain⟨T6,t6,rfl⟩:=zK.form G2;have gX:=gB.trans (gz.mono gB.size);have HF:=h_ (OutSS.newDs Gg.out gX (zK.mono G2 gB.size));have fh:=h_ (Gg.out.below gX);clear gz G2
    go_wp2_with fail
    refine hK _ _ (fun _=>⟨(gX.cell (p:=⟨w.heap.size,2,none⟩) fT).trans x_2,(gX.cell (p:=⟨w.heap.size,3,none⟩) fT).trans x_3,(gX.cell (p:=⟨w.heap.size,6,none⟩) fT).trans x_6⟩) (fun gp=>?_)
    have hS:=gp k_;clear hK K gp
    (try simp only[Act.put,abi,aal,aap])
    refine tE_ 11 rfl rfl ?_;(try simp only[Act.put,abi,aal,aap])
    refine tE_ 12 rfl rfl ?_;(try simp only[Act.put,abi,aal,aap])
    refine tF_ 13 rfl ?_;(try simp only[Act.put,abi,aal,aap])
    (refine zL (i:=14) rfl k_ (fun K hK=>?_));(rw[aao (by rfl)])
    go_simp;refine hK _ _ (fun h=>by cases h) (fun _=>?_)
    clear hK K
    (try simp only[Act.put,abi,aal,aap])
    (refine zL (i:=15) rfl k_ (fun K hK=>?_));(rw[aao (by rfl)])
    go_simp;refine hK _ _ (fun h=>by cases h) (fun _=>?_)
    clear hK K
    (try simp only[Act.put,abi,aal,aap])
    refine yv k_ ?_ _
    clear Gg gX gB Mo nr nt fK hS Fh fT x_0 x_1 x_2 x_3 x_4 x_5 x_6 x_7 ni Yb;obtain⟨u1,u2⟩:=z0t hr HQ.out Bd.out rb.out Zz.out;rw[mD.out] at u1;rw[FF.out] at u2;have hu:(⟨S.D,S.cs,l',S.fund⟩:St)=E:=by rw[<-HE.out];exact u1.symm
    have hv:b'=bb:=by rw[<-gw.out];exact u2.symm
    subst hu;subst hv;obtain⟨_,_,hR,hZ,Gu,_,_⟩:=fh.out;obtain⟨z_0,z_1,z_2,z_3,z_4,z_5,z_6,z_7,z_f0,z_f1,z_f2,z_f3,z_f4,z_f5,z_f6,z_f7⟩:=hZ.b8;obtain⟨r_0,r_1,r_2,r_3,r_4,r_5,r_6,r_7,r_f0,r_f1,r_f2,r_f3,r_f4,r_f5,r_f6,r_f7⟩:=hR.b8;have Hr:=hR.lt;have fJ:=hZ.lt;have gl:=h_ (HF.out.fin);clear hR hZ HF fh HE gw u1 u2 hr mD FF;have F9:¬Z=w.heap.size+1:=o_
    have Gs:¬w.heap.size+1=Z:=o_
    go_wp2;exact bodyPost_ret (v:= .tuple #[.agg #[.slice A0 S.D.fn.length a0,.slice A1 S.D.fl.length a1,.slice A2 S.D.nn.length a2,.slice A3 S.D.nl.length a3,.slice A4 S.D.ss.length a4,.slice A5 S.cs.length a5,.slice T6 l'.length t6,.int .i64 S.fund],.bool b']) (by simp[results,Tryz.results39,go_sem,r_0,r_1,r_2,r_3,r_4,r_5,r_6,r_7,z_0,z_1,z_2,z_3,z_4,z_5,z_6,z_7,Hr,fJ,F9,Gs]) rfl ⟨_,_,_,_,_,_,_,_,_,_,_,_,_,_,fs,rfl,(gl.out _ _ _ _ _ _ _ _).1,(gl.out _ _ _ _ _ _ _ _).2⟩
theorem VP (v0 v1 v2 v3 v4 v5 v6:Value) (S:St) (pl:Int) (pm:Int) (w:World) (h:RSt w v0 v1 v2 v3 v4 v5 v6 S) (hle:StLe S):
  Calls Tryz.prog 48 #[.agg #[v0,v1,v2,v3,v4,v5,v6,.int .i64 S.fund],.int .i64 pl,.int .i64 pm] w (yM (stoS S pl pm) (stoB S pl pm) w):=by
 obtain⟨r,hr⟩:∃r,zd S=r:=⟨_,rfl⟩;have HR:=h_ hr;have gf:=h_ hle;obtain⟨B6,d6,ev6,cK,CR,fr⟩:=h.ds.at_;subst ev6;unfold maxLen at CR;have Fg:=h_ fr;clear fr;obtain⟨E,hE⟩:∃E,stoS S pl pm=E:=⟨_,rfl⟩;obtain⟨bb,gj⟩:∃bb,stoB S pl pm=bb:=⟨_,rfl⟩;rw[hE,gj];have HE:=h_ hE;have gw:=h_ gj;have HH:=h_ h;clear hle hE gj h
 go_enter Tryz.func48,Tryz.ntmps48
 go_wp2_with fail
 refine(Zw _ _ _ _ _ _ _ S _ (HH.out.below bel_) gf.out).mono ?_
 rintro e w1 ⟨A0,a0,A1,a1,A2,a2,A3,a3,A4,a4,A5,a5,A6,a6,fs,rfl,Hi,h9⟩;have Ga:Blk w1 w.heap.size 34 #[v0,v1,v2,v3,v4,v5,.slice B6 S.ds.length d6,.int .i64 S.fund]:=Blk.below ((Blk.newAt rfl).alloc _) h9 sz_;have Hx:Blk w1 (w.heap.size+1) 34 z8_:=Blk.below (Blk.newAt (by simp)) h9 sz_;have h8:Below w.heap.size w w1:=bel_
 have GQ:OwnSt (w.heap.size+1+1) w1 (.slice A0 S.D.fn.length a0) (.slice A1 S.D.fl.length a1) (.slice A2 S.D.nn.length a2) (.slice A3 S.D.nl.length a3) (.slice A4 S.D.ss.length a4) (.slice A5 S.cs.length a5) (.slice A6 S.ds.length a6) S fs:=by simpa using Hi
 have gU:=h_ (OutSS.start GQ (aaa _) Ga Hx h8);obtain⟨x_0,x_1,x_2,x_3,x_4,x_5,x_6,x_7⟩:=Ga.c8;have fS:=Ga.lt;clear Hi h9 GQ
 go_wp2_with fail
 obtain⟨w2,gR⟩:∃w2,w2=w1.alloc (.cells #[.slice A0 S.D.fn.length a0,.slice A1 S.D.fl.length a1,.slice A2 S.D.nn.length a2,.slice A3 S.D.nl.length a3,.slice A4 S.D.ss.length a4,.slice A5 S.cs.length a5,.slice A6 S.ds.length a6,.int .i64 S.fund] 34):=⟨_,rfl⟩;rw[<-gR] at gU⊢;generalize w1.heap.size=Z at*;clear gR Ga Hx h8 x_0 x_1 x_2 x_3 x_4 x_5 x_6 x_7 fS;refine(kE _ _ _ _ _ _ _ S r _ (HH.out.below gU.out.blw) HR).mono ?_
 rintro e w3 ⟨rfl,He⟩;have gk:=h_ (gU.out.below He);clear He gU;have Gr:=gk.out.X;obtain⟨x_0,x_1,x_2,x_3,x_4,x_5,x_6,x_7⟩:=Gr.c8
 cases r
 ·obtain⟨u1,u2⟩:=z0X (S:=S) (f:=pl) (c:=pm) (.inl hr)
  have hu:S=E:=by rw[<-HE.out];exact u1.symm
  have hv:false=bb:=by rw[<-gw.out];exact u2.symm
  subst hu;subst hv;have HF:=gk;clear gk HE gw u1 u2 hr Gr;obtain⟨_,_,hR,hZ,Gu,_,_⟩:=HF.out;obtain⟨z_0,z_1,z_2,z_3,z_4,z_5,z_6,z_7⟩:=hZ.c8;obtain⟨r_0,r_1,r_2,r_3,r_4,r_5,r_6,r_7,r_f0,r_f1,r_f2,r_f3,r_f4,r_f5,r_f6,r_f7⟩:=hR.b8;have Hr:=hR.lt;have gl:=h_ (HF.out.fin);clear hR hZ HF;go_wp2;exact bodyPost_ret (v:= .tuple #[.agg #[.slice A0 S.D.fn.length a0,.slice A1 S.D.fl.length a1,.slice A2 S.D.nn.length a2,.slice A3 S.D.nl.length a3,.slice A4 S.D.ss.length a4,.slice A5 S.cs.length a5,.slice A6 S.ds.length a6,.int .i64 S.fund],.bool false]) (by simp[results,Tryz.results48,go_sem,r_0,r_1,r_2,r_3,r_4,r_5,r_6,r_7,Hr]) rfl ⟨_,_,_,_,_,_,_,_,_,_,_,_,_,_,fs,rfl,(gl.out _ _ _ _ _ _ _ _).1,(gl.out _ _ _ _ _ _ _ _).2⟩
 ·have HN:=h_ (HH.out.dr.nn.below gk.out.blw)
  have HL:=h_ (HH.out.dr.nl.below gk.out.blw);obtain⟨q,hq⟩:∃q,yc S.D.nn S.D.nl pl=q:=⟨_,rfl⟩;have HQ:=h_ hq
  go_wp2_with fail
  refine(z2n _ _ S.D.nn S.D.nl pl _ HN.out HL.out).mono ?_
  rw[hq];clear hq;rintro e w4 ⟨rfl,Hw⟩;have Gg:=h_ (gk.out.below Hw);clear gk Gr x_0 x_1 x_2 x_3 x_4 x_5 x_6 x_7 Hw HN HL
  cases q
  ·obtain⟨u1,u2⟩:=z0X (S:=S) (f:=pl) (c:=pm) (.inr HQ.out)
   have hu:S=E:=by rw[<-HE.out];exact u1.symm
   have hv:false=bb:=by rw[<-gw.out];exact u2.symm
   subst hu;subst hv;have HF:=Gg;clear Gg HE gw u1 u2 hr HQ;obtain⟨_,_,hR,hZ,Gu,_,_⟩:=HF.out;obtain⟨z_0,z_1,z_2,z_3,z_4,z_5,z_6,z_7⟩:=hZ.c8;obtain⟨r_0,r_1,r_2,r_3,r_4,r_5,r_6,r_7,r_f0,r_f1,r_f2,r_f3,r_f4,r_f5,r_f6,r_f7⟩:=hR.b8;have Hr:=hR.lt;have gl:=h_ (HF.out.fin);clear hR hZ HF;go_wp2;exact bodyPost_ret (v:= .tuple #[.agg #[.slice A0 S.D.fn.length a0,.slice A1 S.D.fl.length a1,.slice A2 S.D.nn.length a2,.slice A3 S.D.nl.length a3,.slice A4 S.D.ss.length a4,.slice A5 S.cs.length a5,.slice A6 S.ds.length a6,.int .i64 S.fund],.bool false]) (by simp[results,Tryz.results48,go_sem,r_0,r_1,r_2,r_3,r_4,r_5,r_6,r_7,Hr]) rfl ⟨_,_,_,_,_,_,_,_,_,_,_,_,_,_,fs,rfl,(gl.out _ _ _ _ _ _ _ _).1,(gl.out _ _ _ _ _ _ _ _).2⟩
  ·obtain⟨_,k,rfl,hk,_⟩:=z0Y HQ.out
   have Fh:=Gg.out.X;obtain⟨x_0,x_1,x_2,x_3,x_4,x_5,x_6,x_7⟩:=Fh.c8;have fT:=Fh.lt;have Ya:=gf.out.ds;obtain⟨y,hy⟩:∃z,dayN S.ds=z:=⟨_,rfl⟩;have Bd:=h_ hy;clear hy
   go_upto_if 29 with (fail)
   go_cut [9] (fun s9 wx=>s9= .int .i64 y/\wx=w4)
   case first=>
    rcases abv S.ds.length with np|np
    ·have bX:Hid ((0:Int)=y):=h_ (by rw[<-Bd.out];unfold dayN;rw[aao np])
     have fv:¬(0:Int)<(S.ds.length:Int):=o_
     clear np;go_wp2;go_meet
     exact⟨by rw[bX.out],rfl⟩
    ·obtain⟨m,hm⟩:∃m,S.ds.length=m+1:=⟨S.ds.length -1,by omega⟩
     obtain⟨mw,hd1,hd2,NC⟩:=z4r hr hm;rw[Bd.out] at NC;have bX:=h_ NC.symm;obtain⟨b6,off6,rfl,nq⟩:=Fg.out np;have fr:=nq.below Gg.out.blw;obtain⟨_,_,rj⟩:=fr.2 m o_;generalize (dpI S.ds m).b =db at*;have fv:(0:Int)<(S.ds.length:Int):=o_
     have FO:(S.ds.length:Int) -1=(m:Int):=o_
     have F5:IntKind.i64.wrap ((S.ds.length:Int) -1)=(m:Int):=by rw[FO];exact aaP _ o_
     have ik1:(0:Int)<=(m:Int):=o_
     have ik2:(m:Int)<(S.ds.length:Int):=o_
     have gR:IntKind.i64.wrap (db+1)=db+1:=aaP _ o_;clear NC fr nq np hm FO;go_wp2;go_meet
     exact⟨by rw[bX.out],rfl⟩
   case rest=>
    obtain⟨rfl,rU⟩:=hcut;have Ul:=rU.symm;clear rU;subst Ul;obtain⟨nu,Um⟩:∃z,numN S.D.nn S.D.nl k=z:=⟨_,rfl⟩;have rb:=h_ Um;have mg:=fun (v:World) (hb:Below w.heap.size w v)=>z6Z v2 v3 S.D.nn S.D.nl k v (HH.out.dr.nn.below hb) (HH.out.dr.nl.below hb)
    rw[Um] at mg;have Yb:=h_ mg;clear Um mg;obtain⟨dd,Cf⟩:∃d:Dp,(⟨nu,pm,y⟩:Dp)=d:=⟨_,rfl⟩;have Zz:=h_ Cf;obtain⟨l',Gm⟩:∃l,adpL S.ds dd=l:=⟨_,rfl⟩;obtain⟨b',gS⟩:∃b,adpB S.ds dd=b:=⟨_,rfl⟩;have mD:=h_ Gm;have FF:=h_ gS;have ni:=h_ (fun (v:World) (hb:Below w.heap.size w v)=>z1H (.slice B6 S.ds.length d6) S.ds dd v (HH.out.ds.below hb) gf.out.ds);rw[Gm,gS] at ni;rw[<-Cf] at ni;clear Gm gS Cf;have Mo:=Gg.out.blw;have fK:Below w4.heap.size w4 w4.drew:=(aaj _ _).drew;have nr:=Mo.trans (fK.mono Mo.size)
    go_upto_region 7 with (fail)
    refine jm (n:=14) (S:=fun w'=>w'.cell? ⟨w.heap.size,2,none⟩=some v2/\w'.cell? ⟨w.heap.size,3,none⟩=some v3/\w'.cell? ⟨w.heap.size,6,none⟩=some (.slice B6 S.ds.length d6)) k_ ⟨x_2,x_3,x_6⟩ (fun hS=>?_)
    refine tE_ 0 rfl rfl ?_;(try simp only[Act.put,abi,aal,aap])
    refine tE_ 1 rfl rfl ?_;(try simp only[Act.put,abi,aal,aap])
    refine tE_ 2 rfl rfl ?_;(try simp only[Act.put,abi,aal,aap])
    refine tE_ 3 rfl rfl ?_;(try simp only[Act.put,abi,aal,aap])
    refine tE_ 4 rfl rfl ?_;(try simp only[Act.put,abi,aal,aap])
    refine tE_ 5 rfl rfl ?_;(try simp only[Act.put,abi,aal,aap])
    refine tE_ 7 rfl rfl ?_;(try simp only[Act.put,abi,aal,aap])
    refine tE_ 8 rfl rfl ?_;(try simp only[Act.put,abi,aal,aap])
    (refine zL (i:=6) rfl k_ (fun K hK=>?_));(rw[aao (by rfl)])
    go_simp
    go_at_call 40
    refine(Yb.out _ nr).mono ?_
    rintro e w5 ⟨rfl,H0⟩;have gB:Below w4.heap.size w4 w5:=fK.trans (H0.mono fK.size);have nt:=Mo.trans (gB.mono Mo.size);clear H0
    go_wp2_with fail
    refine hK _ _ (fun _=>⟨(gB.cell (p:=⟨w.heap.size,2,none⟩) fT).trans x_2,(gB.cell (p:=⟨w.heap.size,3,none⟩) fT).trans x_3,(gB.cell (p:=⟨w.heap.size,6,none⟩) fT).trans x_6⟩) (fun gp=>?_)
    have hS:=gp k_;clear hK K gp
    (try simp only[Act.put,abi,aal,aap])
    refine tE_ 9 rfl rfl ?_;(try simp only[Act.put,abi,aal,aap])
    (refine zL (i:=10) rfl k_ (fun K hK=>?_));(rw[aao (by rfl)])
    go_simp
    go_at_call 123
    refine(ni.out _ nt).mono ?_
    rintro e w6 ⟨vt,rfl,G2,gz⟩;obtain⟨T6,t6,rfl⟩:=zK.form G2;have gX:=gB.trans (gz.mono gB.size);have HF:=h_ (OutSS.newDs Gg.out gX (zK.mono G2 gB.size));have fh:=h_ (Gg.out.below gX);clear gz G2
    go_wp2_with fail
    refine hK _ _ (fun _=>⟨(gX.cell (p:=⟨w.heap.size,2,none⟩) fT).trans x_2,(gX.cell (p:=⟨w.heap.size,3,none⟩) fT).trans x_3,(gX.cell (p:=⟨w.heap.size,6,none⟩) fT).trans x_6⟩) (fun gp=>?_)
    have hS:=gp k_;clear hK K gp
    (try simp only[Act.put,abi,aal,aap])
    refine tE_ 11 rfl rfl ?_;(try simp only[Act.put,abi,aal,aap])
    refine tE_ 12 rfl rfl ?_;(try simp only[Act.put,abi,aal,aap])
    refine tF_ 13 rfl ?_;(try simp only[Act.put,abi,aal,aap])
    (refine zL (i:=14) rfl k_ (fun K hK=>?_));(rw[aao (by rfl)])
    go_simp;refine hK _ _ (fun h=>by cases h) (fun _=>?_)
    clear hK K
    (try simp only[Act.put,abi,aal,aap])
    (refine zL (i:=15) rfl k_ (fun K hK=>?_));(rw[aao (by rfl)])
    go_simp;refine hK _ _ (fun h=>by cases h) (fun _=>?_)
    clear hK K
    (try simp only[Act.put,abi,aal,aap])
    refine yv k_ ?_ _
    clear Gg gX gB Mo nr nt fK hS Fh fT x_0 x_1 x_2 x_3 x_4 x_5 x_6 x_7 ni Yb
    cases b'
    ·clear HF
     obtain⟨u1,u2⟩:=z6B hr HQ.out Bd.out rb.out Zz.out FF.out;have hu:S=E:=by rw[<-HE.out];exact u1.symm
     have hv:false=bb:=by rw[<-gw.out];exact u2.symm
     subst hu;subst hv;have HF:=fh;clear fh HE gw u1 u2 hr FF mD;obtain⟨_,_,hR,hZ,Gu,_,_⟩:=HF.out;obtain⟨z_0,z_1,z_2,z_3,z_4,z_5,z_6,z_7⟩:=hZ.c8;obtain⟨r_0,r_1,r_2,r_3,r_4,r_5,r_6,r_7,r_f0,r_f1,r_f2,r_f3,r_f4,r_f5,r_f6,r_f7⟩:=hR.b8;have Hr:=hR.lt;have gl:=h_ (HF.out.fin);clear hR hZ HF;go_wp2;exact bodyPost_ret (v:= .tuple #[.agg #[.slice A0 S.D.fn.length a0,.slice A1 S.D.fl.length a1,.slice A2 S.D.nn.length a2,.slice A3 S.D.nl.length a3,.slice A4 S.D.ss.length a4,.slice A5 S.cs.length a5,.slice A6 S.ds.length a6,.int .i64 S.fund],.bool false]) (by simp[results,Tryz.results48,go_sem,r_0,r_1,r_2,r_3,r_4,r_5,r_6,r_7,Hr]) rfl ⟨_,_,_,_,_,_,_,_,_,_,_,_,_,_,fs,rfl,(gl.out _ _ _ _ _ _ _ _).1,(gl.out _ _ _ _ _ _ _ _).2⟩
    ·obtain⟨u1,u2⟩:=z0t hr HQ.out Bd.out rb.out Zz.out
     rw[mD.out] at u1;rw[FF.out] at u2;have hu:(⟨S.D,S.cs,l',S.fund⟩:St)=E:=by rw[<-HE.out];exact u1.symm
     have hv:true=bb:=by rw[<-gw.out];exact u2.symm
     subst hu;subst hv;obtain⟨_,_,hR,hZ,Gu,_,_⟩:=fh.out;obtain⟨z_0,z_1,z_2,z_3,z_4,z_5,z_6,z_7,z_f0,z_f1,z_f2,z_f3,z_f4,z_f5,z_f6,z_f7⟩:=hZ.b8;obtain⟨r_0,r_1,r_2,r_3,r_4,r_5,r_6,r_7,r_f0,r_f1,r_f2,r_f3,r_f4,r_f5,r_f6,r_f7⟩:=hR.b8;have Hr:=hR.lt;have fJ:=hZ.lt;have gl:=h_ (HF.out.fin);clear hR hZ HF fh HE gw u1 u2 hr mD FF;have F9:¬Z=w.heap.size+1:=o_
     have Gs:¬w.heap.size+1=Z:=o_
     go_wp2;exact bodyPost_ret (v:= .tuple #[.agg #[.slice A0 S.D.fn.length a0,.slice A1 S.D.fl.length a1,.slice A2 S.D.nn.length a2,.slice A3 S.D.nl.length a3,.slice A4 S.D.ss.length a4,.slice A5 S.cs.length a5,.slice T6 l'.length t6,.int .i64 S.fund],.bool true]) (by simp[results,Tryz.results48,go_sem,r_0,r_1,r_2,r_3,r_4,r_5,r_6,r_7,z_0,z_1,z_2,z_3,z_4,z_5,z_6,z_7,Hr,fJ,F9,Gs]) rfl ⟨_,_,_,_,_,_,_,_,_,_,_,_,_,_,fs,rfl,(gl.out _ _ _ _ _ _ _ _).1,(gl.out _ _ _ _ _ _ _ _).2⟩
end Go.Proofs.YtnjcpljhmhdhkaaGreat
