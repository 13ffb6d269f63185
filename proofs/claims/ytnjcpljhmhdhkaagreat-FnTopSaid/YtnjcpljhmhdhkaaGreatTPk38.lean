/- part 38 -/
import Derived.Test.YtnjcpljhmhdhkaaGreatTPk32
import Derived.Test.YtnjcpljhmhdhkaaGreatTPk37
set_option linter.unusedSimpArgs false
set_option linter.unusedVariables false
set_option maxRecDepth 100000
set_option maxHeartbeats 16000000
namespace Go.Proofs.YtnjcpljhmhdhkaaGreat
open Go.RowKit
theorem z0V (v0 v1 v2 v3 v4 v5 v6:Value) (S:St) (x:Int) (w:World) (h:RSt w v0 v1 v2 v3 v4 v5 v6 S) (hle:StLe S):
  Calls Tryz.prog 34 #[.agg #[v0,v1,v2,v3,v4,v5,v6,.int .i64 S.fund],.int .i64 x] w (ya (colS S x) (colB S x) w):=by
 obtain⟨r,hr⟩:∃r,ze S=r:=⟨_,rfl⟩;have HR:=h_ hr;have gf:=h_ hle;obtain⟨B6,d6,ev6,cO,cP,fI⟩:=h.ds.at_;subst ev6;unfold maxLen at cP;obtain⟨E,hE⟩:∃E,colS S x=E:=⟨_,rfl⟩;obtain⟨bb,H4⟩:∃bb,colB S x=bb:=⟨_,rfl⟩;rw[hE,H4];have HE:=h_ hE;have H9:=h_ H4;have HH:=h_ h
 go_enter Tryz.func34,Tryz.ntmps34
 go_wp2_with fail
 refine(qR _ _ _ _ _ _ _ S _ (HH.out.below bel_) gf.out).mono ?_
 rintro e w1 ⟨A0,a0,A1,a1,A2,a2,A3,a3,A4,a4,A5,a5,A6,a6,fs,rfl,Hj,Hb⟩;have gB:Blk w1 w.heap.size 34 #[v0,v1,v2,v3,v4,v5,.slice B6 S.ds.length d6,.int .i64 S.fund]:=Blk.below ((Blk.newAt rfl).alloc _) Hb sz_;have H6:Blk w1 (w.heap.size+1) 34 z8_:=Blk.below (Blk.newAt (by simp)) Hb sz_;have Ha:Below w.heap.size w w1:=bel_
 have Gt:OwnSt (w.heap.size+1+1) w1 (.slice A0 S.D.fn.length a0) (.slice A1 S.D.fl.length a1) (.slice A2 S.D.nn.length a2) (.slice A3 S.D.nl.length a3) (.slice A4 S.D.ss.length a4) (.slice A5 S.cs.length a5) (.slice A6 S.ds.length a6) S fs:=by simpa using Hj
 have gD:=h_ (OutSS.start Gt (aaa _) gB H6 Ha);obtain⟨x_0,x_1,x_2,x_3,x_4,x_5,x_6,x_7⟩:=gB.c8;have GR:=gB.lt
 go_wp2_with fail
 obtain⟨w2,gw⟩:∃w2,w2=w1.alloc (.cells #[.slice A0 S.D.fn.length a0,.slice A1 S.D.fl.length a1,.slice A2 S.D.nn.length a2,.slice A3 S.D.nl.length a3,.slice A4 S.D.ss.length a4,.slice A5 S.cs.length a5,.slice A6 S.ds.length a6,.int .i64 S.fund] 34):=⟨_,rfl⟩;rw[<-gw] at gD⊢;generalize w1.heap.size=Z at*;obtain⟨l',Gq⟩:∃l,colW S.D.nn S.D.nl x=l:=⟨_,rfl⟩;obtain⟨b',gH⟩:∃b,xm S.D.nn S.D.nl x=b:=⟨_,rfl⟩;have Bx:=h_ Gq;have fE:=h_ gH;have HN:=h_ (HH.out.dr.nn.below gD.out.blw);have HL:=h_ (HH.out.dr.nl.below gD.out.blw);refine(Ve _ _ S.D.nn S.D.nl x _ HN.out HL.out).mono ?_
 rw[Gq,gH];rintro e w4 ⟨vt,rfl,gz,H5⟩;obtain⟨T5,t5,rfl⟩:=OwnE.form (t:=3) (enc:=vI) gz;have Ht:=h_ (gD.out.below H5);have HO:=h_ gz;have mK:=h_ H5;have hX:=Ht.out.X;obtain⟨x_0,x_1,x_2,x_3,x_4,x_5,x_6,x_7⟩:=hX.c8
 go_wp2_with fail
 refine(qA _ _ _ _ _ _ _ S r _ (HH.out.below Ht.out.blw) HR).mono ?_
 rintro e w5 ⟨rfl,gk⟩;have gx:=h_ (Ht.out.below gk);have HF:=h_ (OutSS.newCs gD.out (mK.out.trans (gk.mono mK.out.size)) (OwnI.kept HO.out gk))
 cases r
 ·clear HF
  obtain⟨u1,u2⟩:=z1A (S:=S) (x:=x) (.inl hr);have hu:S=E:=by rw[<-HE.out];exact u1.symm
  have hv:false=bb:=by rw[<-H9.out];exact u2.symm
  subst hu;subst hv;have HF:=gx;obtain⟨_,_,hR,hZ,Gb,_,_⟩:=HF.out;obtain⟨z_0,z_1,z_2,z_3,z_4,z_5,z_6,z_7⟩:=hZ.c8;obtain⟨r_0,r_1,r_2,r_3,r_4,r_5,r_6,r_7,r_f0,r_f1,r_f2,r_f3,r_f4,r_f5,r_f6,r_f7⟩:=hR.b8;have Hl:=hR.lt;have Hx:=h_ (HF.out.fin);go_wp2;exact bodyPost_ret (v:= .tuple #[.agg (s8_ A0 A1 A2 A3 A4 A5 A6 a0 a1 a2 a3 a4 a5 a6 S),.bool false]) (by simp[results,Tryz.results34,go_sem,r_0,r_1,r_2,r_3,r_4,r_5,r_6,r_7,Hl]) rfl ⟨_,_,_,_,_,_,_,_,_,_,_,_,_,_,fs,rfl,(Hx.out _ _ _ _ _ _ _ _).1,(Hx.out _ _ _ _ _ _ _ _).2⟩
 ·cases b'
  ·clear HF
   obtain⟨u1,u2⟩:=z1A (S:=S) (x:=x) (.inr fE.out);have hu:S=E:=by rw[<-HE.out];exact u1.symm
   have hv:false=bb:=by rw[<-H9.out];exact u2.symm
   subst hu;subst hv;have HF:=gx;obtain⟨_,_,hR,hZ,Gb,_,_⟩:=HF.out;obtain⟨z_0,z_1,z_2,z_3,z_4,z_5,z_6,z_7⟩:=hZ.c8;obtain⟨r_0,r_1,r_2,r_3,r_4,r_5,r_6,r_7,r_f0,r_f1,r_f2,r_f3,r_f4,r_f5,r_f6,r_f7⟩:=hR.b8;have Hl:=hR.lt;have Hx:=h_ (HF.out.fin);go_wp2;exact bodyPost_ret (v:= .tuple #[.agg (s8_ A0 A1 A2 A3 A4 A5 A6 a0 a1 a2 a3 a4 a5 a6 S),.bool false]) (by simp[results,Tryz.results34,go_sem,r_0,r_1,r_2,r_3,r_4,r_5,r_6,r_7,Hl]) rfl ⟨_,_,_,_,_,_,_,_,_,_,_,_,_,_,fs,rfl,(Hx.out _ _ _ _ _ _ _ _).1,(Hx.out _ _ _ _ _ _ _ _).2⟩
  ·obtain⟨u1,u2⟩:=z54 (S:=S) (x:=x) hr fE.out
   rw[show(yd S.D.nn S.D.nl x).getD []=l' from Bx.out] at u1;have hu:(⟨S.D,l',S.ds,S.fund⟩:St)=E:=by rw[<-HE.out];exact u1.symm
   have hv:true=bb:=by rw[<-H9.out];exact u2.symm
   subst hu;subst hv;obtain⟨_,_,hR,hZ,Gb,_,_⟩:=gx.out;obtain⟨z_0,z_1,z_2,z_3,z_4,z_5,z_6,z_7,z_f0,z_f1,z_f2,z_f3,z_f4,z_f5,z_f6,z_f7⟩:=hZ.b8;obtain⟨r_0,r_1,r_2,r_3,r_4,r_5,r_6,r_7,r_f0,r_f1,r_f2,r_f3,r_f4,r_f5,r_f6,r_f7⟩:=hR.b8;have Hl:=hR.lt;have fW:=hZ.lt;have Hx:=h_ (HF.out.fin);have FM:¬Z=w.heap.size+1:=o_
   have Gr:¬w.heap.size+1=Z:=o_
   go_wp2;exact bodyPost_ret (v:= .tuple #[.agg #[.slice A0 S.D.fn.length a0,.slice A1 S.D.fl.length a1,.slice A2 S.D.nn.length a2,.slice A3 S.D.nl.length a3,.slice A4 S.D.ss.length a4,.slice T5 l'.length t5,.slice A6 S.ds.length a6,.int .i64 S.fund],.bool true]) (by simp[results,Tryz.results34,go_sem,r_0,r_1,r_2,r_3,r_4,r_5,r_6,r_7,z_0,z_1,z_2,z_3,z_4,z_5,z_6,z_7,Hl,fW,FM,Gr]) rfl ⟨_,_,_,_,_,_,_,_,_,_,_,_,_,_,fs,rfl,(Hx.out _ _ _ _ _ _ _ _).1,(Hx.out _ _ _ _ _ _ _ _).2⟩
theorem Zb (v0 v1 v2 v3 v4 v5 v6:Value) (S:St) (x:Int) (w:World) (h:RSt w v0 v1 v2 v3 v4 v5 v6 S) (hle:StLe S):
  Calls Tryz.prog 33 #[.agg #[v0,v1,v2,v3,v4,v5,v6,.int .i64 S.fund],.int .i64 x] w (ya (colS S x) (colB S x) w):=by
 obtain⟨r,hr⟩:∃r,ze S=r:=⟨_,rfl⟩;have HR:=h_ hr;have gf:=h_ hle;obtain⟨B6,d6,ev6,cO,cP,fI⟩:=h.ds.at_;subst ev6;unfold maxLen at cP;obtain⟨E,hE⟩:∃E,colS S x=E:=⟨_,rfl⟩;obtain⟨bb,H4⟩:∃bb,colB S x=bb:=⟨_,rfl⟩;rw[hE,H4];have HE:=h_ hE;have H9:=h_ H4;have HH:=h_ h
 go_enter Tryz.func33,Tryz.ntmps33
 go_wp2_with fail
 refine(jV _ _ _ _ _ _ _ S _ (HH.out.below bel_) gf.out).mono ?_
 rintro e w1 ⟨A0,a0,A1,a1,A2,a2,A3,a3,A4,a4,A5,a5,A6,a6,fs,rfl,Hj,Hb⟩;have gB:Blk w1 w.heap.size 34 #[v0,v1,v2,v3,v4,v5,.slice B6 S.ds.length d6,.int .i64 S.fund]:=Blk.below ((Blk.newAt rfl).alloc _) Hb sz_;have H6:Blk w1 (w.heap.size+1) 34 z8_:=Blk.below (Blk.newAt (by simp)) Hb sz_;have Ha:Below w.heap.size w w1:=bel_
 have Gt:OwnSt (w.heap.size+1+1) w1 (.slice A0 S.D.fn.length a0) (.slice A1 S.D.fl.length a1) (.slice A2 S.D.nn.length a2) (.slice A3 S.D.nl.length a3) (.slice A4 S.D.ss.length a4) (.slice A5 S.cs.length a5) (.slice A6 S.ds.length a6) S fs:=by simpa using Hj
 have gD:=h_ (OutSS.start Gt (aaa _) gB H6 Ha);obtain⟨x_0,x_1,x_2,x_3,x_4,x_5,x_6,x_7⟩:=gB.c8;have GR:=gB.lt
 go_wp2_with fail
 obtain⟨w2,gw⟩:∃w2,w2=w1.alloc (.cells #[.slice A0 S.D.fn.length a0,.slice A1 S.D.fl.length a1,.slice A2 S.D.nn.length a2,.slice A3 S.D.nl.length a3,.slice A4 S.D.ss.length a4,.slice A5 S.cs.length a5,.slice A6 S.ds.length a6,.int .i64 S.fund] 34):=⟨_,rfl⟩;rw[<-gw] at gD⊢;generalize w1.heap.size=Z at*;refine(jc _ _ _ _ _ _ _ S r _ (HH.out.below gD.out.blw) HR).mono ?_
 rintro e w3 ⟨rfl,Hg⟩;have Ht:=h_ (gD.out.below Hg);have gS:=Ht.out.X;obtain⟨x_0,x_1,x_2,x_3,x_4,x_5,x_6,x_7⟩:=gS.c8
 cases r
 ·obtain⟨u1,u2⟩:=z1A (S:=S) (x:=x) (.inl hr)
  have hu:S=E:=by rw[<-HE.out];exact u1.symm
  have hv:false=bb:=by rw[<-H9.out];exact u2.symm
  subst hu;subst hv;have HF:=Ht;obtain⟨_,_,hR,hZ,Gb,_,_⟩:=HF.out;obtain⟨z_0,z_1,z_2,z_3,z_4,z_5,z_6,z_7⟩:=hZ.c8;obtain⟨r_0,r_1,r_2,r_3,r_4,r_5,r_6,r_7,r_f0,r_f1,r_f2,r_f3,r_f4,r_f5,r_f6,r_f7⟩:=hR.b8;have Hl:=hR.lt;have Hx:=h_ (HF.out.fin);go_wp2;exact bodyPost_ret (v:= .tuple #[.agg (s8_ A0 A1 A2 A3 A4 A5 A6 a0 a1 a2 a3 a4 a5 a6 S),.bool false]) (by simp[results,Tryz.results33,go_sem,r_0,r_1,r_2,r_3,r_4,r_5,r_6,r_7,Hl]) rfl ⟨_,_,_,_,_,_,_,_,_,_,_,_,_,_,fs,rfl,(Hx.out _ _ _ _ _ _ _ _).1,(Hx.out _ _ _ _ _ _ _ _).2⟩
 ·clear gS x_0 x_1 x_2 x_3 x_4 x_5 x_6 x_7
  obtain⟨l',Gq⟩:∃l,colW S.D.nn S.D.nl x=l:=⟨_,rfl⟩;obtain⟨b',gH⟩:∃b,xm S.D.nn S.D.nl x=b:=⟨_,rfl⟩;have Bx:=h_ Gq;have fE:=h_ gH;have HN:=h_ (HH.out.dr.nn.below Ht.out.blw);have HL:=h_ (HH.out.dr.nl.below Ht.out.blw);have hX:=Ht.out.X;obtain⟨x_0,x_1,x_2,x_3,x_4,x_5,x_6,x_7⟩:=hX.c8
  go_wp2_with fail
  refine(JO _ _ S.D.nn S.D.nl x _ HN.out HL.out).mono ?_
  rw[Gq,gH];rintro e w4 ⟨vt,rfl,gz,H5⟩;obtain⟨T5,t5,rfl⟩:=OwnE.form (t:=3) (enc:=vI) gz;have HF:=h_ (OutSS.newCs Ht.out H5 gz);have gx:=h_ (Ht.out.below H5)
  cases b'
  ·clear HF
   obtain⟨u1,u2⟩:=z1A (S:=S) (x:=x) (.inr fE.out);have hu:S=E:=by rw[<-HE.out];exact u1.symm
   have hv:false=bb:=by rw[<-H9.out];exact u2.symm
   subst hu;subst hv;have HF:=gx;obtain⟨_,_,hR,hZ,Gb,_,_⟩:=HF.out;obtain⟨z_0,z_1,z_2,z_3,z_4,z_5,z_6,z_7⟩:=hZ.c8;obtain⟨r_0,r_1,r_2,r_3,r_4,r_5,r_6,r_7,r_f0,r_f1,r_f2,r_f3,r_f4,r_f5,r_f6,r_f7⟩:=hR.b8;have Hl:=hR.lt;have Hx:=h_ (HF.out.fin);go_wp2;exact bodyPost_ret (v:= .tuple #[.agg (s8_ A0 A1 A2 A3 A4 A5 A6 a0 a1 a2 a3 a4 a5 a6 S),.bool false]) (by simp[results,Tryz.results33,go_sem,r_0,r_1,r_2,r_3,r_4,r_5,r_6,r_7,Hl]) rfl ⟨_,_,_,_,_,_,_,_,_,_,_,_,_,_,fs,rfl,(Hx.out _ _ _ _ _ _ _ _).1,(Hx.out _ _ _ _ _ _ _ _).2⟩
  ·obtain⟨u1,u2⟩:=z54 (S:=S) (x:=x) hr fE.out
   rw[show(yd S.D.nn S.D.nl x).getD []=l' from Bx.out] at u1;have hu:(⟨S.D,l',S.ds,S.fund⟩:St)=E:=by rw[<-HE.out];exact u1.symm
   have hv:true=bb:=by rw[<-H9.out];exact u2.symm
   subst hu;subst hv;obtain⟨_,_,hR,hZ,Gb,_,_⟩:=gx.out;obtain⟨z_0,z_1,z_2,z_3,z_4,z_5,z_6,z_7,z_f0,z_f1,z_f2,z_f3,z_f4,z_f5,z_f6,z_f7⟩:=hZ.b8;obtain⟨r_0,r_1,r_2,r_3,r_4,r_5,r_6,r_7,r_f0,r_f1,r_f2,r_f3,r_f4,r_f5,r_f6,r_f7⟩:=hR.b8;have Hl:=hR.lt;have fW:=hZ.lt;have Hx:=h_ (HF.out.fin);have FM:¬Z=w.heap.size+1:=o_
   have Gr:¬w.heap.size+1=Z:=o_
   go_wp2;exact bodyPost_ret (v:= .tuple #[.agg #[.slice A0 S.D.fn.length a0,.slice A1 S.D.fl.length a1,.slice A2 S.D.nn.length a2,.slice A3 S.D.nl.length a3,.slice A4 S.D.ss.length a4,.slice T5 l'.length t5,.slice A6 S.ds.length a6,.int .i64 S.fund],.bool true]) (by simp[results,Tryz.results33,go_sem,r_0,r_1,r_2,r_3,r_4,r_5,r_6,r_7,z_0,z_1,z_2,z_3,z_4,z_5,z_6,z_7,Hl,fW,FM,Gr]) rfl ⟨_,_,_,_,_,_,_,_,_,_,_,_,_,_,fs,rfl,(Hx.out _ _ _ _ _ _ _ _).1,(Hx.out _ _ _ _ _ _ _ _).2⟩
def kf (F:Nat) (T:List Nat):List Bool:=(List.range F).map (fun i=>decide (i∈T))
theorem kM (F:Nat) (T:List Nat):(kf F T).length =F:=by simp[kf]
theorem z05 {F i:Nat} (T:List Nat) (h:i<F):(kf F T).getD i false=decide (i∈T):=by simp[kf,aa6,h]
theorem ZK {F:Nat} (T:List Nat) (i:Nat):(kf F T).set i true=kf F (T++[i]):=by
 apply aat
 intro j;rw[aa0,kM];unfold kf
 by_cases hj:j<F
 ·by_cases e:i=j
  ·subst e;simp[hj]
  ·have:¬j=i:=fun h=>e h.symm
   simp[hj,e,this]
 ·by_cases e:i=j
  ·subst e;simp[hj]
  ·simp[hj,e]
theorem z5e (F f:Nat):(List.replicate F false).set f true=kf F [f]:=by
 have h:=ZK (F:=F) [] f;rw[List.nil_append] at h;rw[<-h]
 congr 1
 apply aat
 intro j
 by_cases hj:j<F
 ·simp[kf,hj]
 ·simp[kf,hj]
def outL (T:List Nat) (k:Nat):List Nat:=(List.range k).filter (fun i=>decide (i∈T))
theorem z8a {T:List Nat} {k:Nat} (h:k∈T):outL T (k+1)=outL T k++[k]:=by simp[outL,abe,abf,h]
theorem z8E {T:List Nat} {k:Nat} (h:k∉T):outL T (k+1)=outL T k:=by simp[outL,abe,abf,h]
theorem z7K (T:List Nat) (k:Nat):(outL T k).length <=k:=by
 have:=List.length_filter_le (fun i=>decide (i∈T)) (List.range k)
 simpa[outL] using this
theorem JZ (l:List Nat) (i:Nat):natI (l++[i])=natI l++[(i:Int)]:=by simp[natI]
theorem z6Q (f:Nat):natI [f]=[(f:Int)]:=rfl
theorem z67 (b cT F:Nat) (adj:Nat->Nat->Bool) (vc:Value) (cs:List Int) (f:Nat) (x:Int) (w:World) (ht:JF w b 0 F adj) (hc:RI w vc cs) (hl:cs.length=F) (hf:f<F) (hF:F<=40):
  Calls Tryz.prog 223 #[.slice (some ⟨b,0,none⟩) F cT,vc,.int .i64 f,.int .i64 x] w (RetI (natI (kr adj (okX cs f x) F f)) w):=by
 obtain⟨i0,hi,iz0,iz1,iz2⟩:=info_parts Z9;obtain⟨Ac,cc,rfl,Gj,bM,Gy⟩:=hc.form;unfold maxLen at bM;obtain⟨bc,oc,rfl,Gl,FY⟩:=Gy o_;rw[hl] at Gj bM FY⊢;have Fk:=h_ FY;have HT:=h_ ht.2;have hbT:=ht.1;have Fq:Hid (∀i,okX cs f x i=(decide (cs.getD i 0=cs.getD f 0)||decide (cs.getD i 0=x))):=h_ (fun _=>rfl);have HG0:=h_ (Grow.start (adj:=adj) (ok:=okX cs f x) hf);have HGE:=h_ (fun T k j (h:Grow adj (okX cs f x) F f T k j) hk=>h.end_ hk);have if1:(0:Int)<=(f:Int):=o_
 have if2:(f:Int)<(F:Int):=o_
 have hyf:=Fk.out f hf;have HL:=h_ hl;generalize cs.getD f 0=y at*;clear Gy FY hc ht hl
 go_enter Tryz.func223,Tryz.ntmps223
 go_wp2_with (at_make;refine wpList_make_full _ rfl _ _ 182 rfl w.heap.size 4 i0 (.bool false) 1 Tryz.underlying182 hi iz0 iz1 .i64 .i64 _ _ F rfl rfl rfl rfl (by rw[iz2];omega) (by unfold maxLen;omega) (aaa _) ?_)
 intro w1 gZ gR;have hB1:Below w.heap.size w w1:=(aaj _ _).grown gR (aaa _) (by intro k hk;cases hk)
 have Fd:OwnE 4 Value.bool w.heap.size w1 (.slice (some ⟨w.heap.size,0,none⟩) F F) (List.replicate F false):=by
  unfold OwnE;rw[aaC,<-z4Q];exact gZ
 have Fy:=OwnE.cell Fd false (q:=f) (by simp;exact hf);obtain⟨zz,ux⟩:∃z,w1.cell? ⟨w.heap.size,f,none⟩=some z:=⟨_,Fy⟩;have fz:=OwnE.frz Fd f;have Fi:=OwnE.set_ Fd f true;rw[z5e] at Fi;have mT:=hB1.setCell (p:=⟨w.heap.size,f,none⟩) (aaa _) (.bool true);obtain⟨w2,gw⟩:∃u,u=(w1.setCell ⟨w.heap.size,f,none⟩ (.bool true)).alloc (.cells #[.int .i64 f] 3):=⟨_,rfl⟩;have GF:OwnE 4 Value.bool w.heap.size w2 (.slice (some ⟨w.heap.size,0,none⟩) F F) (kf F [f]):=by rw[gw];exact Fi.alloc _
 have GJ:Below w.heap.size w w2:=by rw[gw];exact mT.alloc (by simpa[World.setCell] using hB1.size) _
 have ht3:OwnI w.heap.size w2 (.slice (some ⟨w1.heap.size,0,none⟩) 1 1) (natI [f]):=by
  rw[gw,z6Q];have:=World.ownsRow_lit (base:=w.heap.size) (e:=3) (size:=1) (w1.setCell ⟨w.heap.size,f,none⟩ (.bool true)) #[.int .i64 f] 1 (by simpa[World.setCell] using hB1.size) (by decide) (by simp)
  simpa[World.setCell,OwnI,vI] using this
 have C0:=h_ gw;clear gw Fd Fi mT Fy gZ gR i0 hi iz0 iz1 iz2
 go_wp2_with fail
 rw[<-C0.out];clear C0
 go_loopw [10,11] (fun v t wr=>∃(T:List Nat) (k:Nat),t= .int .i64 k/\OwnI w.heap.size wr v (natI T)/\OwnE 4 Value.bool w.heap.size wr (.slice (some ⟨w.heap.size,0,none⟩) F F) (kf F T)/\Hid (Grow adj (okX cs f x) F f T k 0/\k<=T.length)/\Below w.heap.size w wr) (fun _ t _=>F -(intOf t).toNat)
 case atStart=>exact⟨[f],0,rfl,ht3,GF,h_ ⟨HG0.out,aab _⟩,GJ⟩
 case round=>
  clear ht3 GF GJ ux fz;obtain⟨T,k,rfl,ho,hs,r4,hB⟩:=hrel;have Ch:=r4.out.1.len;have BJ:=r4.out.2;have hTF:=ho.lt;obtain⟨At,ct,rfl⟩:=OwnE.form (t:=3) (enc:=vI) ho;rw[za] at ho⊢
  by_cases Hf:k<T.length
  ·have Hu:(k:Int)<(T.length:Int):=o_
   have ik1:(0:Int)<=(k:Int):=o_
   have HG1:=h_ r4.out.1;clear r4 hTF;go_wp2
   go_loopw [10,12] (fun v t wr=>∃(T:List Nat) (i:Nat),i<=F/\t= .int .i64 i/\k<T.length/\OwnI w.heap.size wr v (natI T)/\OwnE 4 Value.bool w.heap.size wr (.slice (some ⟨w.heap.size,0,none⟩) F F) (kf F T)/\Hid (Grow adj (okX cs f x) F f T k i)/\Below w.heap.size w wr) (fun _ t _=>F -(intOf t).toNat)
   case atStart=>exact⟨T,0,aab _,rfl,Hf,ho,hs,HG1,hB⟩
   case round=>
    clear ho hs hB HG1 Hf Hu Ch BJ
    rename_i T0
    obtain⟨T,i,hi,rfl,ng,ho,hs,HG,hB⟩:=hrel;have Ch:=HG.out.len;obtain⟨bt,ct,rfl,hct,hbt0,Ru,Hz⟩:=OwnI.blk ho (by rw[za];omega);rw[za] at hct Hz ho⊢
    by_cases FH:i<F
    ·have Uz:(i:Int)<(F:Int):=o_
     have ii1:(0:Int)<=(i:Int):=o_
     have FC:(k:Int)<(T.length:Int):=o_
     have q0:=Hz k ng;rw[qg] at q0;have hTk:T.getD k 0=T[k]:=by simp[List.getD,ng]
     have hdF:T.getD k 0<F:=by rw[hTk];exact HG.out.lt _ (abg ng)
     have HDK:=h_ hTk.symm;clear hTk Hz;generalize hd:T.getD k 0=d at*;obtain⟨bi,hbi,br,hcc0⟩:=HT.out d hdF;have q1:=(hB.cell (p:=⟨b,0+d,none⟩) hbT).trans br;rw[aaF] at q1;have q2:=(hB.cell (p:=⟨bi,i,none⟩) hbi).trans (hcc0 i FH);have q3:=OwnE.cell hs false (q:=i) (by rw[kM];exact FH);rw[z05 T FH] at q3;have q4:=(hB.cell (p:=⟨bc,oc+i,none⟩) Gl).trans (Fk.out i FH);have q5:=(hB.cell (p:=⟨bc,oc+f,none⟩) Gl).trans hyf;have id1:(0:Int)<=(d:Int):=o_
     have id2:(d:Int)<(F:Int):=o_
     have mP:=(hs.lt _ rfl).2;have hz:=hB.size;have l1:b<wr.heap.size:=o_
     have l2:bi<wr.heap.size:=o_
     have l3:bc<wr.heap.size:=o_
     have mD:=h_ (Fq.out i);clear br hcc0 hd;generalize cs.getD i 0=c at*;obtain⟨a,ha⟩:∃a,adj d i=a:=⟨_,rfl⟩;rw[ha] at q2;have HAE:=h_ ha;clear ha;obtain⟨m,hm⟩:∃m,decide (i∈T)=m:=⟨_,rfl⟩;rw[hm] at q3;have uK:=h_ hm;clear hm
     cases a
     ·go_wp2_with fail
      (refine z7 k_ k_ (fun hG=>?_))
      repeat (go_big_quiet_step (fail))
      refine wpQuiet_nil ?_
      clear hG;rintro w5 ⟨⟨_,Gk⟩,rfl⟩;have fk:=ho.kept Gk;have bN:=hs.kept Gk;have GL:=hB.trans (Gk.mono hB.size);have Rd:=h_ (HG.out.skip (fun u hu ha _=>by rw[aac ng] at hu;cases hu;rw[HDK.out,HAE.out] at ha;cases ha));have HO:=h_ fk;have HS:=h_ bN;have HB:=h_ GL;clear ho hs hB fk bN GL Gk q0 q1 q2 q3 q4 q5;go_wp2;go_roundw
      case rel=>exact⟨T,i+1,by omega,by go_num,ng,HO.out,HS.out,Rd,HB.out⟩
      case measure=>simp[intOf];omega
     ·cases m
      ·have HNM:Hid (i∉T):=h_ (by simpa using uK.out)
       by_cases h1:c=x
       ·have e1:(c==x)=true:=beq_iff_eq.2 h1
        have ME:Hid (okX cs f x i=true):=h_ (by rw[mD.out];simp[h1]);clear h1
        go_wp2_with fail
        (refine z7 k_ k_ (fun hG=>?_))
        repeat (go_big_quiet_step (fail))
        refine wpQuiet_nil ?_
        clear hG;rintro w5 ⟨⟨_,Gk⟩,rfl⟩;have fk:=ho.kept Gk;have bN:=hs.kept Gk;have GL:=hB.trans (Gk.mono hB.size);have hgl5:=(bN.lt _ rfl).2;have nm:=OwnE.cell bN false (q:=i) (by rw[kM];exact FH);obtain⟨z5,hz5'⟩:∃z,w5.cell? ⟨w.heap.size,i,none⟩=some z:=⟨_,nm⟩;have fz5:=OwnE.frz bN i;have mw:=OwnE.set_ bN i true;rw[ZK] at mw;have fh:OwnI w.heap.size (w5.setCell ⟨w.heap.size,i,none⟩ (.bool true)) (.slice (some ⟨bt,0,none⟩) T.length ct) (natI T):=OwnE.other (t:=3) (enc:=vI) fk bN Zg (qv (qu _ _) i _);have CY:=GL.setCell (p:=⟨w.heap.size,i,none⟩) (aaa _) (.bool true);have CU:w.heap.size<=(w5.setCell ⟨w.heap.size,i,none⟩ (.bool true)).heap.size :=CY.size;have Rd:=h_ (HG.out.push ng FH (by rw[HDK.out,HAE.out]) ME.out HNM.out);clear ho hs hB fk GL Gk q0 q1 q2 q3 q4 q5 nm
        go_wp2_with (at_builtin;refine qi rfl _ _ rfl w.heap.size _ (natI T) (i:Int) rfl w5.heap.size rfl (j9 (by simp[World.setCell])) (fh.alloc _) (by rw[za];omega) (by simp[World.setCell] at CU⊢;omega) ?_)
        intro v7 w7 FV Fp _;have ri:=OwnE.alloc mw (.cells #[.int .i64 i] 3);have HS:=h_ (OwnE.other ri (fh.alloc (.cells #[.int .i64 i] 3)) (fun e=>Zg e.symm) Fp);have HO:=h_ (show OwnI w.heap.size w7 v7 (natI (T++[i])) by rw[JZ];exact FV);have HB:=h_ ((CY.alloc CU (.cells #[.int .i64 i] 3)).grown Fp (by simp[World.setCell] at CU⊢;omega) (fun q hq=>(fh.lt q hq).1));clear FV Fp ri mw fh CY CU;go_wp2;go_roundw
        case rel=>exact⟨T++[i],i+1,by omega,by go_num,by simp;omega,HO.out,HS.out,Rd,HB.out⟩
        case measure=>simp[intOf];omega
       ·have e1:(c==x)=false:=beq_eq_false_iff_ne.2 h1
        by_cases h2:c=y
        ·have e2:(c==y)=true:=beq_iff_eq.2 h2
         have ME:Hid (okX cs f x i=true):=h_ (by rw[mD.out];simp[h2]);clear h1 h2
         go_wp2_with fail
         (refine z7 k_ k_ (fun hG=>?_))
         repeat (go_big_quiet_step (fail))
         refine wpQuiet_nil ?_
         clear hG;rintro w5 ⟨⟨_,Gk⟩,rfl⟩;have fk:=ho.kept Gk;have bN:=hs.kept Gk;have GL:=hB.trans (Gk.mono hB.size);have hgl5:=(bN.lt _ rfl).2;have nm:=OwnE.cell bN false (q:=i) (by rw[kM];exact FH);obtain⟨z5,hz5'⟩:∃z,w5.cell? ⟨w.heap.size,i,none⟩=some z:=⟨_,nm⟩;have fz5:=OwnE.frz bN i;have mw:=OwnE.set_ bN i true;rw[ZK] at mw;have fh:OwnI w.heap.size (w5.setCell ⟨w.heap.size,i,none⟩ (.bool true)) (.slice (some ⟨bt,0,none⟩) T.length ct) (natI T):=OwnE.other (t:=3) (enc:=vI) fk bN Zg (qv (qu _ _) i _);have CY:=GL.setCell (p:=⟨w.heap.size,i,none⟩) (aaa _) (.bool true);have CU:w.heap.size<=(w5.setCell ⟨w.heap.size,i,none⟩ (.bool true)).heap.size :=CY.size;have Rd:=h_ (HG.out.push ng FH (by rw[HDK.out,HAE.out]) ME.out HNM.out);clear ho hs hB fk GL Gk q0 q1 q2 q3 q4 q5 nm
         go_wp2_with (at_builtin;refine qi rfl _ _ rfl w.heap.size _ (natI T) (i:Int) rfl w5.heap.size rfl (j9 (by simp[World.setCell])) (fh.alloc _) (by rw[za];omega) (by simp[World.setCell] at CU⊢;omega) ?_)
         intro v7 w7 FV Fp _;have ri:=OwnE.alloc mw (.cells #[.int .i64 i] 3);have HS:=h_ (OwnE.other ri (fh.alloc (.cells #[.int .i64 i] 3)) (fun e=>Zg e.symm) Fp);have HO:=h_ (show OwnI w.heap.size w7 v7 (natI (T++[i])) by rw[JZ];exact FV);have HB:=h_ ((CY.alloc CU (.cells #[.int .i64 i] 3)).grown Fp (by simp[World.setCell] at CU⊢;omega) (fun q hq=>(fh.lt q hq).1));clear FV Fp ri mw fh CY CU;go_wp2;go_roundw
         case rel=>exact⟨T++[i],i+1,by omega,by go_num,by simp;omega,HO.out,HS.out,Rd,HB.out⟩
         case measure=>simp[intOf];omega
        ·have e2:(c==y)=false:=beq_eq_false_iff_ne.2 h2
         have ME:Hid (okX cs f x i=false):=h_ (by rw[mD.out];simp[h1,h2]);clear h1 h2
         go_wp2_with fail
         (refine z7 k_ k_ (fun hG=>?_))
         repeat (go_big_quiet_step (fail))
         refine wpQuiet_nil ?_
         clear hG;rintro w5 ⟨⟨_,Gk⟩,rfl⟩;have fk:=ho.kept Gk;have bN:=hs.kept Gk;have GL:=hB.trans (Gk.mono hB.size);have Rd:=h_ (HG.out.skip (fun u hu _ ho=>by rw[ME.out] at ho;cases ho));have HO:=h_ fk;have HS:=h_ bN;have HB:=h_ GL;clear ho hs hB fk bN GL Gk q0 q1 q2 q3 q4 q5;go_wp2;go_roundw
         case rel=>exact⟨T,i+1,by omega,by go_num,ng,HO.out,HS.out,Rd,HB.out⟩
         case measure=>simp[intOf];omega
      ·have HNM:Hid (i∈T):=h_ (by simpa using uK.out)
       go_wp2_with fail
       (refine z7 k_ k_ (fun hG=>?_))
       repeat (go_big_quiet_step (fail))
       refine wpQuiet_nil ?_
       clear hG;rintro w5 ⟨⟨_,Gk⟩,rfl⟩;have fk:=ho.kept Gk;have bN:=hs.kept Gk;have GL:=hB.trans (Gk.mono hB.size);have Rd:=h_ (HG.out.skip (fun _ _ _ _=>HNM.out));have HO:=h_ fk;have HS:=h_ bN;have HB:=h_ GL;clear ho hs hB fk bN GL Gk q0 q1 q2 q3 q4 q5;go_wp2;go_roundw
       case rel=>exact⟨T,i+1,by omega,by go_num,ng,HO.out,HS.out,Rd,HB.out⟩
       case measure=>simp[intOf];omega
    ·have nQ:i=F:=o_
     subst nQ;have HGN:=h_ (show Grow adj (okX cs f x) i f T (k+1) 0/\k+1<=T.length from⟨HG.out.next ng,ng⟩);clear Hz;go_wp2;go_roundw
     case rel=>exact⟨T,k+1,by go_num,ho,hs,HGN,hB⟩
     case measure=>simp[intOf];omega
  ·have gn:k=T.length:=o_
   have HE:=h_ (HGE.out T k 0 r4.out.1 o_);have Gp:=hB.size;have GI:OwnI w.heap.size (wr.alloc (.cells #[] 3)) (.slice (some ⟨wr.heap.size,0,none⟩) 0 0) (natI (outL T 0)):=OwnI.made rfl Gp;have GF:=OwnE.alloc hs (.cells #[] 3);have GJ:=hB.alloc Gp (.cells #[] 3);have CB:¬(k:Int)<(T.length:Int):=o_
   clear r4 ho hs hB gn Hf hTF BJ;go_wp2
   go_loopw [13,14] (fun v t w2=>∃j:Nat,j<=F/\t= .int .i64 j/\OwnI w.heap.size w2 v (natI (outL T j))/\OwnE 4 Value.bool w.heap.size w2 (.slice (some ⟨w.heap.size,0,none⟩) F F) (kf F T)/\Below w.heap.size w w2) (fun _ t _=>F -(intOf t).toNat)
   case atStart=>exact⟨0,aab _,rfl,GI,GF,GJ⟩
   case round=>
    clear GI GF GJ Gp;obtain⟨j,hj,rfl,ho,hs,hB⟩:=hrel;have hz:=hB.size;have mP:=(hs.lt _ rfl).2
    by_cases ce:j<F
    ·have hj1:(j:Int)<(F:Int):=o_
     have ij1:(0:Int)<=(j:Int):=o_
     have q3:=OwnE.cell hs false (q:=j) (by rw[kM];exact ce);rw[z05 T ce] at q3;obtain⟨m,hm⟩:∃m,decide (j∈T)=m:=⟨_,rfl⟩;rw[hm] at q3;have uK:=h_ hm;clear hm;have uJ:=z7K T j
     cases m
     ·have HX:=h_ (z8E (T:=T) (k:=j) (by simpa using uK.out))
      go_wp2;go_roundw
      case rel=>exact⟨j+1,by omega,by go_num,by rw[HX.out];exact ho,hs,hB⟩
      case measure=>simp[intOf];omega
     ·have HX:=h_ (z8a (T:=T) (k:=j) (by simpa using uK.out))
      generalize outL T j=G at*
      go_wp2_with (at_builtin;refine qi rfl _ _ rfl w.heap.size _ (natI G) (j:Int) rfl wr.heap.size rfl (j9 rfl) (ho.alloc _) (by rw[za];omega) (by simp;omega) ?_)
      intro v7 w7 FV Fp _;have ri:=OwnE.alloc hs (.cells #[.int .i64 j] 3);have HS:=h_ (OwnE.other ri (ho.alloc (.cells #[.int .i64 j] 3)) (fun e=>Zg e.symm) Fp);have HO:=h_ (show OwnI w.heap.size w7 v7 (natI (G++[j])) by rw[JZ];exact FV);have HB:=h_ ((hB.alloc hz (.cells #[.int .i64 j] 3)).grown Fp (by simp;omega) (fun q hq=>(ho.lt q hq).1));clear FV Fp ri ho hs hB q3;go_wp2;go_roundw
      case rel=>exact⟨j+1,by omega,by go_num,by rw[HX.out];exact HO.out,HS.out,HB.out⟩
      case measure=>simp[intOf];omega
    ·have GS:j=F:=o_
     subst GS;go_wp2;go_ret
     exact⟨_,rfl,by rw[<-HE.out];exact ho,hB⟩
theorem z9G {base:Nat} {w:World} {v:Value} {gs:List Nat} {ns ls:List Pr} (hq:zf ns ls=true) (h:OwnTab base w v (z9 ns ls).length gs (besW ns ls)):∃g c,v= .slice (some ⟨g,0,none⟩) (z9 ns ls).length c/\JF w g 0 (z9 ns ls).length (adB ns ls):=by
 have CX:=yh hq;have Co:=zK hq;have Hd:(besW ns ls).length =(z9 ns ls).length :=by unfold besW;rw[jP,Co]
 have Fo:∀i,i<(z9 ns ls).length ->((besW ns ls).getD i []).length =(z9 ns ls).length :=fun i hi=>by unfold besW;rw[vN _ _ _ _ (by rw[<-Co];exact hi),Co]
 obtain⟨g,c,rfl,gL,gu⟩:=h.blk (by rw[Hd];exact CX);refine⟨g,c,by rw[h.len,Hd],gu,fun i hi=>⟨gs.getD i 0,(z2Z h (by rw[Hd];exact hi)).2,?_,fun j hj=>?_⟩⟩
 ·rw[aaF];exact h.cell (by rw[Hd];exact hi)
 ·rw[h.cell2 (by rw[Hd];exact hi) (by rw[Fo i hi];exact hj),z4W hq (by rw[<-Co];exact hi) (by rw[<-Co];exact hj)]
theorem kR (vn vl vc:Value) (ns ls:List Pr) (cs:List Int) (b:Bool) (w:World) (hn:RP w vn ns) (hl:RP w vl ls) (hc:RI w vc cs) (hb:q7 ns ls cs=b):
  CB_ 46 #[.agg #[vn,vl],vc] w (.bool b):=VG vn vl vc ns ls cs b w hn hl hc hb
theorem z1D (vn vl vc:Value) (ns ls:List Pr) (cs:List Int) (f x:Int) (w:World) (hn:RP w vn ns) (hl:RP w vl ls) (hc:RI w vc cs) (hle:cs.length<=1048576):
  Calls Tryz.prog 166 #[.agg #[vn,vl],vc,.int .i64 f,.int .i64 x] w (RetI (natI (ZB ns ls cs f x)) w):=by
 have Hi:Below w.heap.size w (w.alloc (.cells #[vn,vl] 27)):=bel_
 have gE:Blk (w.alloc (.cells #[vn,vl] 27)) w.heap.size 27 #[vn,vl]:=Blk.newAt rfl;obtain⟨Ac,cc,rfl,Gj,bM,_⟩:=hc.form;unfold maxLen at bM;have HOM:Hid (∀v:World,w.heap.size<=v.heap.size->OwnI w.heap.size (v.alloc (.cells #[] 3)) (.slice (some ⟨v.heap.size,0,none⟩) 0 0) (natI [])):=h_ (fun v h=>OwnI.made rfl h)
 cases hp:q7 ns ls cs
 ·have HR:=h_ (yr (vG (f:=f) (x:=x) (.inl hp)))
  go_enter Tryz.func166,Tryz.ntmps166
  go_wp2_with fail
  refine(kR _ _ _ ns ls cs _ _ (hn.below Hi) (hl.below Hi) (hc.below Hi) hp).mono ?_
  rintro e w1 ⟨rfl,Hb⟩;have Ha:=Hi.trans (Hb.mono Hi.size);have HO:=h_ (HOM.out w1 Ha.size);have HB:=h_ (Ha.alloc Ha.size (.cells #[] 3));go_wp2;go_ret
  exact⟨_,rfl,by rw[HR.out];exact HO.out,HB.out⟩
 ·cases hf:inB f 0 ((cs.length:Int) -1)
  ·have HR:=h_ (yr (vG (ns:=ns) (ls:=ls) (x:=x) (.inr (.inl hf))))
   have HF:=h_ hf;clear hf
   go_enter Tryz.func166,Tryz.ntmps166
   go_wp2_with fail
   refine(kR _ _ _ ns ls cs _ _ (hn.below Hi) (hl.below Hi) (hc.below Hi) hp).mono ?_
   rintro e w1 ⟨rfl,Hb⟩;have Ha:=Hi.trans (Hb.mono Hi.size);have HO:=h_ (HOM.out w1 Ha.size);have HB:=h_ (Ha.alloc Ha.size (.cells #[] 3))
   go_wp2_with fail
   refine(qf _ _ _ _).mono ?_
   rintro e w' ⟨rfl,rfl⟩;rw[HF.out];go_wp2;go_ret
   exact⟨_,rfl,by rw[HR.out];exact HO.out,HB.out⟩
  ·cases hx:inB x 0 5
   ·have HR:=h_ (yr (vG (ns:=ns) (ls:=ls) (cs:=cs) (f:=f) (.inr (.inr hx))))
    have HF:=h_ hf;have HX:=h_ hx;clear hf hx
    go_enter Tryz.func166,Tryz.ntmps166
    go_wp2_with fail
    refine(kR _ _ _ ns ls cs _ _ (hn.below Hi) (hl.below Hi) (hc.below Hi) hp).mono ?_
    rintro e w1 ⟨rfl,Hb⟩;have Ha:=Hi.trans (Hb.mono Hi.size);have HO:=h_ (HOM.out w1 Ha.size);have HB:=h_ (Ha.alloc Ha.size (.cells #[] 3))
    go_wp2_with fail
    refine(qf _ _ _ _).mono ?_
    rintro e w' ⟨rfl,rfl⟩;rw[HF.out]
    go_wp2_with fail
    refine(qf _ _ _ _).mono ?_
    rintro e w' ⟨rfl,rfl⟩;rw[HX.out];go_wp2;go_ret
    exact⟨_,rfl,by rw[HR.out];exact HO.out,HB.out⟩
   ·obtain⟨k,rfl⟩:∃k:Nat,f=k:=⟨f.toNat,by have:=zc.1 hf;omega⟩
    have hk:k<cs.length:=by have:=zc.1 hf;omega
    have HR:=h_ (kS (VL hp hf hx));obtain⟨hw,Hz,_,_⟩:=vQ.1 hp;rw[<-zK hw] at Hz;have fK:=zD ns ls;have rh:=h_ (kR vn vl _ ns ls cs _ _ (hn.below Hi) (hl.below Hi) (hc.below Hi) hp);have mQ:=h_ (fun (v:World) (hb:Below w.heap.size w v)=>Je vn vl ns ls v (hn.below hb) (hl.below hb) hw);have Wi:=h_ (fun base w v gs h=>z9G (base:=base) (w:=w) (v:=v) (gs:=gs) hw h);have HCW:Hid (qc ns ls cs k x=kr (adB ns ls) (okX cs k x) (z9 ns ls).length k):=h_ (by unfold qc;rw[Hz]);have HF:=h_ hf;have HX:=h_ hx;have HC:=h_ hc;have cZ:=h_ Hz;have Mr:k<(z9 ns ls).length :=o_
    clear hf hx Hz hn hl hc hw hp;generalize (z9 ns ls).length =F at*
    go_enter Tryz.func166,Tryz.ntmps166
    go_wp2_with fail
    refine rh.out.mono ?_
    rintro e w1 ⟨rfl,Hb⟩;have Ha:=Hi.trans (Hb.mono Hi.size);have gc:=gE.below Hb gE.lt;clear Hb Hi gE rh
    go_wp2_with fail
    refine(qf _ _ _ _).mono ?_
    rintro e w' ⟨rfl,rfl⟩;rw[HF.out]
    go_wp2_with fail
    refine(qf _ _ _ _).mono ?_
    rintro e w' ⟨rfl,rfl⟩;rw[HX.out];obtain⟨a_0,a_1⟩:=gc.c2
    go_wp2_with fail
    refine(mQ.out _ Ha).mono ?_
    rintro e w2 ⟨v2,gs,rfl,Hn,Hh⟩;obtain⟨g,c,rfl,NS⟩:=Wi.out _ _ _ _ Hn;have Hc:=Ha.trans (Hh.mono Ha.size);have Wo:=h_ (z67 g c F (adB ns ls) _ cs k x w2 NS (HC.out.below Hc) cZ.out Mr fK);clear Hn Hh gc a_0 a_1 Wi mQ NS
    go_wp2_with fail
    refine Wo.out.mono ?_
    rintro e w3 ⟨v3,rfl,Hq,Hg⟩;have HB:=h_ (Hc.trans (Hg.mono Hc.size));have HO:=h_ (OwnI.mono Hq Hc.size);clear Hq Hg;go_wp2;go_ret
    exact⟨_,rfl,by rw[HR.out,HCW.out];exact HO.out,HB.out⟩
theorem z7w (vC vc:Value) (cs:List Int) (C:List Nat) (k:Nat) (x:Int) (w:World) (hC:RI w vC (natI C)) (hc:RI w vc cs) (hk:k<cs.length) (hCN:∀j,j<C.length->C.getD j 0<cs.length) (hle:cs.length<=1048576) (hCl:C.length<=cs.length) (hCp:0<C.length):
  Calls Tryz.prog 167 #[vC,vc,.int .i64 k,.int .i64 x] w (RetI (swK cs C (cs.getD k 0) x C.length) w):=by
 obtain⟨i0,hi,iz0,iz1,iz2⟩:=info_parts qq;obtain⟨Ac,cc,rfl,Gj,bM,Gy⟩:=hc.form;obtain⟨AC,cC,rfl,hcC,hmC,m9⟩:=hC.form;unfold maxLen at bM hmC;rw[za] at hcC hmC m9⊢;obtain⟨bc,oc,rfl,Gl,FY⟩:=Gy o_;obtain⟨bC,oC,rfl,hbC,hclC⟩:=m9 hCp;have Fk:=h_ FY;have cZ:=h_ hclC;have RV:=h_ hCN;have ik1:(0:Int)<=(k:Int):=o_
 have ik2:(k:Int)<(cs.length:Int):=o_
 have WA:=Fk.out k hk;have Uw:=h_ (fun j=>z28 cs C (cs.getD k 0) x j);have bL:=h_ (fun j=>Za cs C (cs.getD k 0) x j);have HSZ:Hid (swK cs C (cs.getD k 0) x 0=cs):=h_ rfl;have HH:=h_ hc;have Hi:Below w.heap.size w (w.alloc (.cells #[] 3)):=bel_
 generalize cs.getD k 0=y at*;clear Gy m9 FY hclC hC hc hCN
 go_enter Tryz.func167,Tryz.ntmps167
 go_wp2_with (at_builtin;refine zQ rfl _ _ _ rfl w.heap.size 3 i0 (.int .i64 0) 1 8 Tryz.underlying31 hi iz0 iz1 iz2 rfl (by decide) (.slice (some ⟨w.heap.size,0,none⟩) 0 0) _ 0 cs.length [] (cs.map vI) rfl rfl (zN (aaa _) rfl) (RI.below HH.out Hi) (yg cs) o_ (by decide) (by simp) ?_)
 intro A2 c2 w1 Hj gL _;have Hb:Below w.heap.size w w1:=Hi.grown gL (by simp) (fun q hq=>by cases hq;exact aaa _);have gd:OwnI w.heap.size w1 (.slice A2 cs.length c2) cs:=by unfold OwnI;simpa using Hj
 obtain⟨g1,c1,e1,gl,Fn,hg1l,_⟩:=OwnI.blk gd o_
 injection e1 with e1 _ e3
 subst e1;subst e3;have C8:OwnI w.heap.size w1 (.slice (some ⟨g1,0,none⟩) cs.length c2) (swK cs C y x 0):=by rw[HSZ.out];exact gd
 clear Hj gL gd Hi i0 hi iz0 iz1 iz2;go_wp2
 go_loopw [10] (fun t wr=>∃j:Nat,j<=C.length/\t= .int .i64 j/\OwnI w.heap.size wr (.slice (some ⟨g1,0,none⟩) cs.length c2) (swK cs C y x j)/\Below w.heap.size w wr) (fun t _=>C.length -(intOf t).toNat)
 case atStart=>exact⟨0,aab _,rfl,C8,Hb⟩
 case round=>
  clear C8 Hb;obtain⟨j,hj,rfl,ho,hB⟩:=hrel
  by_cases Hf:j<C.length
  ·have Hu:(j:Int)<(C.length:Int):=o_
   have ij1:(0:Int)<=(j:Int):=o_
   have q0:=(hB.cell (p:=⟨bC,oC+j,none⟩) hbC).trans (cZ.out j Hf);rw[qg] at q0;have C5:=RV.out j Hf;have HS:=h_ (Uw.out j);have We:=bL.out j;generalize C.getD j 0=d at*;have q1:=(hB.cell (p:=⟨bc,oc+d,none⟩) Gl).trans (Fk.out d C5);have q2:=(hB.cell (p:=⟨bc,oc+k,none⟩) Gl).trans WA;have id1:(0:Int)<=(d:Int):=o_
   have id2:(d:Int)<(cs.length:Int):=o_
   have Fy:=OwnE.cell (t:=3) (enc:=vI) ho 0 (q:=d) o_;obtain⟨zz,ux⟩:∃z,wr.cell? ⟨g1,d,none⟩=some z:=⟨_,Fy⟩;have fz:=OwnE.frz (t:=3) (enc:=vI) ho d;have HO:=h_ (fun z=>kj ho d z);have HB:=h_ (fun z=>hB.setCell (p:=⟨g1,d,none⟩) Fn z);generalize cs.getD d 0=c at*;clear Fy ho hB We
   by_cases MS:c=x
   ·have e2:(c==x)=true:=beq_iff_eq.2 MS
    have wF:=h_ (HS.out.trans (by rw[aao MS]));clear MS
    go_wp2_with fail
    go_region
    all_goals go_wp2
    all_goals go_roundw
    case rel=>exact⟨j+1,by omega,by go_num,by rw[wF.out];exact HO.out y,(HB.out _).drew⟩
    case measure=>simp[intOf];omega
   ·have e2:(c==x)=false:=beq_eq_false_iff_ne.2 MS
    have wF:=h_ (HS.out.trans (by rw[aaq MS]));clear MS;go_wp2;go_roundw
    case rel=>exact⟨j+1,by omega,by go_num,by rw[wF.out];exact HO.out x,HB.out _⟩
    case measure=>simp[intOf];omega
  ·have GS:j=C.length:=o_
   subst GS;go_wp2;go_ret
   exact⟨_,rfl,ho,hB⟩
theorem z68 (vn vl vc:Value) (ns ls:List Pr) (cs:List Int) (f x:Int) (w:World) (hn:RP w vn ns) (hl:RP w vl ls) (hc:RI w vc cs) (hle:cs.length<=1048576):
  Calls Tryz.prog 93 #[.agg #[vn,vl],vc,.int .i64 f,.int .i64 x] w (z0N (vv ns ls cs f x) (vx ns ls cs f x) w):=by
 have Hi:Below w.heap.size w (w.alloc (.cells #[vn,vl] 27)):=bel_
 have Mt:=h_ (z1D vn vl vc ns ls cs f x _ (hn.below Hi) (hl.below Hi) (hc.below Hi) hle);obtain⟨i0,hi,iz0,iz1,iz2⟩:=info_parts qq;obtain⟨Ac,cc,rfl,Gj,bM,Gy⟩:=hc.form;unfold maxLen at bM;have HH:=h_ hc
 cases hq:yj ns ls cs f x
 ·obtain⟨Fd,Fi⟩:=Ze (.inl hq)
  have GZ:=h_ Fd;have gD:=h_ Fi;have HI:=h_ (yr hq);clear Fd Fi hq Gy hc
  go_enter Tryz.func93,Tryz.ntmps93
  go_wp2_with fail
  refine Mt.out.mono ?_
  rw[HI.out];rintro e w1 ⟨v1,rfl,Hj,Hb⟩;obtain⟨A1,c1,rfl⟩:=OwnE.form (t:=3) (enc:=vI) Hj;have Ha:=Hi.trans (Hb.mono Hi.size);have Hh:Below w1.heap.size w1 (w1.alloc (.cells #[] 3)):=bel_
  have Hc:=Ha.trans (Hh.mono Ha.size);clear Hj Hb Mt
  go_wp2_with (at_builtin;refine zQ rfl _ _ _ rfl w.heap.size 3 i0 (.int .i64 0) 1 8 Tryz.underlying31 hi iz0 iz1 iz2 rfl (by decide) (.slice (some ⟨w1.heap.size,0,none⟩) 0 0) _ 0 cs.length [] (cs.map vI) rfl rfl (zN Ha.size rfl) (RI.below HH.out Hc) (yg cs) o_ (by decide) Hc.size ?_)
  intro A2 c2 w3 Hq gq _;have HB:Hid (Below w.heap.size w w3):=h_ (Hc.grown gq Hc.size (fun q hq=>by cases hq;exact Ha.size));have HO:Hid (OwnI w.heap.size w3 (.slice A2 (0+cs.length) c2) cs):=h_ (by unfold OwnI;simpa using Hq);clear Hq gq;go_wp2;exact bodyPost_ret (v:= .tuple #[.slice A2 (0+cs.length) c2,.bool false]) (by simp[results,Tryz.results93,go_sem]) rfl ⟨_,by rw[GZ.out],by rw[gD.out];exact HO.out,HB.out⟩
 ·have Mo:=hq
  unfold yj at Mo;rw[aaG,aaG] at Mo;obtain⟨k,rfl⟩:∃k:Nat,f=k:=⟨f.toNat,by have:=zc.1 Mo.2.1;omega⟩;have hk:k<cs.length:=by have:=zc.1 Mo.2.1;omega
  have HI:=h_ (kS hq);have F3:=xU (ns:=ns) (ls:=ls) (x:=x) hk;have hCN:∀j,j<(qc ns ls cs k x).length ->(qc ns ls cs k x).getD j 0<cs.length:=fun j hj=>z0I (by rw[aa6,aac hj];exact abg hj)
  have hCl:=VB ns ls cs k x;have hCp:0<(qc ns ls cs k x).length :=abh F3;have M1:=h_ (fun (vC:Value) (v:World) (hb:Below w.heap.size w v) (hC:RI v vC (natI (qc ns ls cs k x)))=>z7w vC _ cs (qc ns ls cs k x) k x v hC (hc.below hb) hk hCN hle hCl hCp);obtain⟨bc,oc,rfl,Gl,FY⟩:=Gy o_;have WA:=FY k hk;have ik1:(0:Int)<=(k:Int):=o_
  have ik2:(k:Int)<(cs.length:Int):=o_
  have Ba:=h_ (fun h=>Ze (ns:=ns) (ls:=ls) (cs:=cs) (f:=(k:Int)) (x:=x) (.inr h));have YQ:=h_ (fun h=>z0o (ns:=ns) (ls:=ls) (cs:=cs) (f:=k) (x:=x) hq h);rw[aa5] at Ba;clear hq Mo hc Gy FY hn hl F3 hCN;generalize qc ns ls cs k x=C at*;generalize cs.getD k 0=y at*;have hCp1:((C.length:Int)==0)=false:=beq_eq_false_iff_ne.2 o_
  go_enter Tryz.func93,Tryz.ntmps93
  go_wp2_with fail
  refine Mt.out.mono ?_
  rw[HI.out];rintro e w1 ⟨v1,rfl,Hj,Hb⟩;obtain⟨A1,c1,rfl⟩:=OwnE.form (t:=3) (enc:=vI) Hj;rw[za] at Hj⊢;have Ha:=Hi.trans (Hb.mono Hi.size);have Mk:=OwnI.reads Hj;have q1:=(Ha.cell (p:=⟨bc,oc+k,none⟩) Gl).trans WA;clear Hj Hb Mt WA
  by_cases MR:y=x
  ·have e1:(y==x)=true:=beq_iff_eq.2 MR
   obtain⟨Fd,Fi⟩:=Ba.out MR;have GZ:=h_ Fd;have gD:=h_ Fi;have Hh:Below w1.heap.size w1 (w1.alloc (.cells #[] 3)):=bel_
   have Hc:=Ha.trans (Hh.mono Ha.size);clear Fd Fi MR
   go_wp2_with (at_builtin;refine zQ rfl _ _ _ rfl w.heap.size 3 i0 (.int .i64 0) 1 8 Tryz.underlying31 hi iz0 iz1 iz2 rfl (by decide) (.slice (some ⟨w1.heap.size,0,none⟩) 0 0) _ 0 cs.length [] (cs.map vI) rfl rfl (zN Ha.size rfl) (RI.below HH.out Hc) (yg cs) o_ (by decide) Hc.size ?_)
   intro A2 c2 w3 Hq gq _;have HB:Hid (Below w.heap.size w w3):=h_ (Hc.grown gq Hc.size (fun q hq=>by cases hq;exact Ha.size));have HO:Hid (OwnI w.heap.size w3 (.slice A2 (0+cs.length) c2) cs):=h_ (by unfold OwnI;simpa using Hq);clear Hq gq;go_wp2;exact bodyPost_ret (v:= .tuple #[.slice A2 (0+cs.length) c2,.bool false]) (by simp[results,Tryz.results93,go_sem]) rfl ⟨_,by rw[GZ.out],by rw[gD.out];exact HO.out,HB.out⟩
  ·have e1:(y==x)=false:=beq_eq_false_iff_ne.2 MR
   obtain⟨Fd,Fi⟩:=YQ.out MR;have GZ:=h_ Fd;have gD:=h_ Fi;have HC:=h_ (M1.out _ w1 Ha Mk);clear Fd Fi MR M1 Mk
   go_wp2_with fail
   refine HC.out.mono ?_
   rintro e w3 ⟨v3,rfl,Hq,Hg⟩;have HB:=h_ (Ha.trans (Hg.mono Ha.size));have HO:=h_ (OwnI.mono Hq Ha.size);clear Hq Hg HC;go_wp2;exact bodyPost_ret (v:= .tuple #[v3,.bool true]) (by simp[results,Tryz.results93,go_sem]) rfl ⟨_,by rw[GZ.out],by rw[gD.out];exact HO.out,HB.out⟩
theorem JX (v0 v1 v2 v3 v4 v5 v6:Value) (S:St) (x:Int) (y:Int) (w:World) (h:RSt w v0 v1 v2 v3 v4 v5 v6 S) (hle:StLe S):
  Calls Tryz.prog 29 #[.agg #[v0,v1,v2,v3,v4,v5,v6,.int .i64 S.fund],.int .i64 x,.int .i64 y] w (ya (swpS S x y) (swpB S x y) w):=by
 obtain⟨r,hr⟩:∃r,ze S=r:=⟨_,rfl⟩;have HR:=h_ hr;have gf:=h_ hle;obtain⟨B6,d6,ev6,cO,cP,fI⟩:=h.ds.at_;subst ev6;unfold maxLen at cP;obtain⟨E,hE⟩:∃E,swpS S x y=E:=⟨_,rfl⟩;obtain⟨bb,H4⟩:∃bb,swpB S x y=bb:=⟨_,rfl⟩;rw[hE,H4];have HE:=h_ hE;have H9:=h_ H4;have HH:=h_ h
 go_enter Tryz.func29,Tryz.ntmps29
 go_wp2_with fail
 refine(qR _ _ _ _ _ _ _ S _ (HH.out.below bel_) gf.out).mono ?_
 rintro e w1 ⟨A0,a0,A1,a1,A2,a2,A3,a3,A4,a4,A5,a5,A6,a6,fs,rfl,Hj,Hb⟩;have gB:Blk w1 w.heap.size 34 #[v0,v1,v2,v3,v4,v5,.slice B6 S.ds.length d6,.int .i64 S.fund]:=Blk.below ((Blk.newAt rfl).alloc _) Hb sz_;have H6:Blk w1 (w.heap.size+1) 34 z8_:=Blk.below (Blk.newAt (by simp)) Hb sz_;have Ha:Below w.heap.size w w1:=bel_
 have Gt:OwnSt (w.heap.size+1+1) w1 (.slice A0 S.D.fn.length a0) (.slice A1 S.D.fl.length a1) (.slice A2 S.D.nn.length a2) (.slice A3 S.D.nl.length a3) (.slice A4 S.D.ss.length a4) (.slice A5 S.cs.length a5) (.slice A6 S.ds.length a6) S fs:=by simpa using Hj
 have gD:=h_ (OutSS.start Gt (aaa _) gB H6 Ha);obtain⟨x_0,x_1,x_2,x_3,x_4,x_5,x_6,x_7⟩:=gB.c8;have GR:=gB.lt
 go_wp2_with fail
 obtain⟨w2,gw⟩:∃w2,w2=w1.alloc (.cells #[.slice A0 S.D.fn.length a0,.slice A1 S.D.fl.length a1,.slice A2 S.D.nn.length a2,.slice A3 S.D.nl.length a3,.slice A4 S.D.ss.length a4,.slice A5 S.cs.length a5,.slice A6 S.ds.length a6,.int .i64 S.fund] 34):=⟨_,rfl⟩;rw[<-gw] at gD⊢;generalize w1.heap.size=Z at*;obtain⟨l',Gq⟩:∃l,vv S.D.nn S.D.nl S.cs x y=l:=⟨_,rfl⟩;obtain⟨b',gH⟩:∃b,vx S.D.nn S.D.nl S.cs x y=b:=⟨_,rfl⟩;have Bx:=h_ Gq;have fE:=h_ gH;have HN:=h_ (HH.out.dr.nn.below gD.out.blw);have HL:=h_ (HH.out.dr.nl.below gD.out.blw);have HC:=h_ (HH.out.cs.below gD.out.blw);refine(z5n _ _ _ S.D.nn S.D.nl S.cs x y _ HN.out HL.out HC.out gf.out.cs).mono ?_
 rw[Gq,gH];rintro e w4 ⟨vt,rfl,gz,H5⟩;obtain⟨T5,t5,rfl⟩:=OwnE.form (t:=3) (enc:=vI) gz;have Ht:=h_ (gD.out.below H5);have HO:=h_ gz;have mK:=h_ H5;have hX:=Ht.out.X;obtain⟨x_0,x_1,x_2,x_3,x_4,x_5,x_6,x_7⟩:=hX.c8
 go_wp2_with fail
 refine(qA _ _ _ _ _ _ _ S r _ (HH.out.below Ht.out.blw) HR).mono ?_
 rintro e w5 ⟨rfl,gk⟩;have gx:=h_ (Ht.out.below gk);have HF:=h_ (OutSS.newCs gD.out (mK.out.trans (gk.mono mK.out.size)) (OwnI.kept HO.out gk))
 cases r
 ·clear HF
  obtain⟨u1,u2⟩:=z0P (S:=S) (x:=x) (y:=y) (.inl hr);have hu:S=E:=by rw[<-HE.out];exact u1.symm
  have hv:false=bb:=by rw[<-H9.out];exact u2.symm
  subst hu;subst hv;have HF:=gx;obtain⟨_,_,hR,hZ,Gb,_,_⟩:=HF.out;obtain⟨z_0,z_1,z_2,z_3,z_4,z_5,z_6,z_7⟩:=hZ.c8;obtain⟨r_0,r_1,r_2,r_3,r_4,r_5,r_6,r_7,r_f0,r_f1,r_f2,r_f3,r_f4,r_f5,r_f6,r_f7⟩:=hR.b8;have Hl:=hR.lt;have Hx:=h_ (HF.out.fin);go_wp2;exact bodyPost_ret (v:= .tuple #[.agg (s8_ A0 A1 A2 A3 A4 A5 A6 a0 a1 a2 a3 a4 a5 a6 S),.bool false]) (by simp[results,Tryz.results29,go_sem,r_0,r_1,r_2,r_3,r_4,r_5,r_6,r_7,Hl]) rfl ⟨_,_,_,_,_,_,_,_,_,_,_,_,_,_,fs,rfl,(Hx.out _ _ _ _ _ _ _ _).1,(Hx.out _ _ _ _ _ _ _ _).2⟩
 ·cases b'
  ·clear HF
   obtain⟨u1,u2⟩:=z0P (S:=S) (x:=x) (y:=y) (.inr fE.out);have hu:S=E:=by rw[<-HE.out];exact u1.symm
   have hv:false=bb:=by rw[<-H9.out];exact u2.symm
   subst hu;subst hv;have HF:=gx;obtain⟨_,_,hR,hZ,Gb,_,_⟩:=HF.out;obtain⟨z_0,z_1,z_2,z_3,z_4,z_5,z_6,z_7⟩:=hZ.c8;obtain⟨r_0,r_1,r_2,r_3,r_4,r_5,r_6,r_7,r_f0,r_f1,r_f2,r_f3,r_f4,r_f5,r_f6,r_f7⟩:=hR.b8;have Hl:=hR.lt;have Hx:=h_ (HF.out.fin);go_wp2;exact bodyPost_ret (v:= .tuple #[.agg (s8_ A0 A1 A2 A3 A4 A5 A6 a0 a1 a2 a3 a4 a5 a6 S),.bool false]) (by simp[results,Tryz.results29,go_sem,r_0,r_1,r_2,r_3,r_4,r_5,r_6,r_7,Hl]) rfl ⟨_,_,_,_,_,_,_,_,_,_,_,_,_,_,fs,rfl,(Hx.out _ _ _ _ _ _ _ _).1,(Hx.out _ _ _ _ _ _ _ _).2⟩
  ·obtain⟨u1,u2⟩:=z51 (S:=S) (x:=x) (y:=y) hr fE.out
   rw[Bx.out] at u1;have hu:(⟨S.D,l',S.ds,S.fund⟩:St)=E:=by rw[<-HE.out];exact u1.symm
   have hv:true=bb:=by rw[<-H9.out];exact u2.symm
   subst hu;subst hv;obtain⟨_,_,hR,hZ,Gb,_,_⟩:=gx.out;obtain⟨z_0,z_1,z_2,z_3,z_4,z_5,z_6,z_7,z_f0,z_f1,z_f2,z_f3,z_f4,z_f5,z_f6,z_f7⟩:=hZ.b8;obtain⟨r_0,r_1,r_2,r_3,r_4,r_5,r_6,r_7,r_f0,r_f1,r_f2,r_f3,r_f4,r_f5,r_f6,r_f7⟩:=hR.b8;have Hl:=hR.lt;have fW:=hZ.lt;have Hx:=h_ (HF.out.fin);have FM:¬Z=w.heap.size+1:=o_
   have Gr:¬w.heap.size+1=Z:=o_
   go_wp2;exact bodyPost_ret (v:= .tuple #[.agg #[.slice A0 S.D.fn.length a0,.slice A1 S.D.fl.length a1,.slice A2 S.D.nn.length a2,.slice A3 S.D.nl.length a3,.slice A4 S.D.ss.length a4,.slice T5 l'.length t5,.slice A6 S.ds.length a6,.int .i64 S.fund],.bool true]) (by simp[results,Tryz.results29,go_sem,r_0,r_1,r_2,r_3,r_4,r_5,r_6,r_7,z_0,z_1,z_2,z_3,z_4,z_5,z_6,z_7,Hl,fW,FM,Gr]) rfl ⟨_,_,_,_,_,_,_,_,_,_,_,_,_,_,fs,rfl,(Hx.out _ _ _ _ _ _ _ _).1,(Hx.out _ _ _ _ _ _ _ _).2⟩
theorem Vk (v0 v1 v2 v3 v4 v5 v6:Value) (S:St) (x:Int) (y:Int) (w:World) (h:RSt w v0 v1 v2 v3 v4 v5 v6 S) (hle:StLe S):
  Calls Tryz.prog 27 #[.agg #[v0,v1,v2,v3,v4,v5,v6,.int .i64 S.fund],.int .i64 x,.int .i64 y] w (ya (swpS S x y) (swpB S x y) w):=by
 obtain⟨r,hr⟩:∃r,ze S=r:=⟨_,rfl⟩;have HR:=h_ hr;have gf:=h_ hle;obtain⟨B6,d6,ev6,cO,cP,fI⟩:=h.ds.at_;subst ev6;unfold maxLen at cP;obtain⟨E,hE⟩:∃E,swpS S x y=E:=⟨_,rfl⟩;obtain⟨bb,H4⟩:∃bb,swpB S x y=bb:=⟨_,rfl⟩;rw[hE,H4];have HE:=h_ hE;have H9:=h_ H4;have HH:=h_ h
 go_enter Tryz.func27,Tryz.ntmps27
 go_wp2_with fail
 refine(jV _ _ _ _ _ _ _ S _ (HH.out.below bel_) gf.out).mono ?_
 rintro e w1 ⟨A0,a0,A1,a1,A2,a2,A3,a3,A4,a4,A5,a5,A6,a6,fs,rfl,Hj,Hb⟩;have gB:Blk w1 w.heap.size 34 #[v0,v1,v2,v3,v4,v5,.slice B6 S.ds.length d6,.int .i64 S.fund]:=Blk.below ((Blk.newAt rfl).alloc _) Hb sz_;have H6:Blk w1 (w.heap.size+1) 34 z8_:=Blk.below (Blk.newAt (by simp)) Hb sz_;have Ha:Below w.heap.size w w1:=bel_
 have Gt:OwnSt (w.heap.size+1+1) w1 (.slice A0 S.D.fn.length a0) (.slice A1 S.D.fl.length a1) (.slice A2 S.D.nn.length a2) (.slice A3 S.D.nl.length a3) (.slice A4 S.D.ss.length a4) (.slice A5 S.cs.length a5) (.slice A6 S.ds.length a6) S fs:=by simpa using Hj
 have gD:=h_ (OutSS.start Gt (aaa _) gB H6 Ha);obtain⟨x_0,x_1,x_2,x_3,x_4,x_5,x_6,x_7⟩:=gB.c8;have GR:=gB.lt
 go_wp2_with fail
 obtain⟨w2,gw⟩:∃w2,w2=w1.alloc (.cells #[.slice A0 S.D.fn.length a0,.slice A1 S.D.fl.length a1,.slice A2 S.D.nn.length a2,.slice A3 S.D.nl.length a3,.slice A4 S.D.ss.length a4,.slice A5 S.cs.length a5,.slice A6 S.ds.length a6,.int .i64 S.fund] 34):=⟨_,rfl⟩;rw[<-gw] at gD⊢;generalize w1.heap.size=Z at*;refine(jc _ _ _ _ _ _ _ S r _ (HH.out.below gD.out.blw) HR).mono ?_
 rintro e w3 ⟨rfl,Hg⟩;have Ht:=h_ (gD.out.below Hg);have gS:=Ht.out.X;obtain⟨x_0,x_1,x_2,x_3,x_4,x_5,x_6,x_7⟩:=gS.c8
 cases r
 ·obtain⟨u1,u2⟩:=z0P (S:=S) (x:=x) (y:=y) (.inl hr)
  have hu:S=E:=by rw[<-HE.out];exact u1.symm
  have hv:false=bb:=by rw[<-H9.out];exact u2.symm
  subst hu;subst hv;have HF:=Ht;obtain⟨_,_,hR,hZ,Gb,_,_⟩:=HF.out;obtain⟨z_0,z_1,z_2,z_3,z_4,z_5,z_6,z_7⟩:=hZ.c8;obtain⟨r_0,r_1,r_2,r_3,r_4,r_5,r_6,r_7,r_f0,r_f1,r_f2,r_f3,r_f4,r_f5,r_f6,r_f7⟩:=hR.b8;have Hl:=hR.lt;have Hx:=h_ (HF.out.fin);go_wp2;exact bodyPost_ret (v:= .tuple #[.agg (s8_ A0 A1 A2 A3 A4 A5 A6 a0 a1 a2 a3 a4 a5 a6 S),.bool false]) (by simp[results,Tryz.results27,go_sem,r_0,r_1,r_2,r_3,r_4,r_5,r_6,r_7,Hl]) rfl ⟨_,_,_,_,_,_,_,_,_,_,_,_,_,_,fs,rfl,(Hx.out _ _ _ _ _ _ _ _).1,(Hx.out _ _ _ _ _ _ _ _).2⟩
 ·clear gS x_0 x_1 x_2 x_3 x_4 x_5 x_6 x_7
  obtain⟨l',Gq⟩:∃l,vv S.D.nn S.D.nl S.cs x y=l:=⟨_,rfl⟩;obtain⟨b',gH⟩:∃b,vx S.D.nn S.D.nl S.cs x y=b:=⟨_,rfl⟩;have Bx:=h_ Gq;have fE:=h_ gH;have HN:=h_ (HH.out.dr.nn.below Ht.out.blw);have HL:=h_ (HH.out.dr.nl.below Ht.out.blw);have HC:=h_ (HH.out.cs.below Ht.out.blw);have hX:=Ht.out.X;obtain⟨x_0,x_1,x_2,x_3,x_4,x_5,x_6,x_7⟩:=hX.c8
  go_wp2_with fail
  refine(z68 _ _ _ S.D.nn S.D.nl S.cs x y _ HN.out HL.out HC.out gf.out.cs).mono ?_
  rw[Gq,gH];rintro e w4 ⟨vt,rfl,gz,H5⟩;obtain⟨T5,t5,rfl⟩:=OwnE.form (t:=3) (enc:=vI) gz;have HF:=h_ (OutSS.newCs Ht.out H5 gz);have gx:=h_ (Ht.out.below H5)
  cases b'
  ·clear HF
   obtain⟨u1,u2⟩:=z0P (S:=S) (x:=x) (y:=y) (.inr fE.out);have hu:S=E:=by rw[<-HE.out];exact u1.symm
   have hv:false=bb:=by rw[<-H9.out];exact u2.symm
   subst hu;subst hv;have HF:=gx;obtain⟨_,_,hR,hZ,Gb,_,_⟩:=HF.out;obtain⟨z_0,z_1,z_2,z_3,z_4,z_5,z_6,z_7⟩:=hZ.c8;obtain⟨r_0,r_1,r_2,r_3,r_4,r_5,r_6,r_7,r_f0,r_f1,r_f2,r_f3,r_f4,r_f5,r_f6,r_f7⟩:=hR.b8;have Hl:=hR.lt;have Hx:=h_ (HF.out.fin);go_wp2;exact bodyPost_ret (v:= .tuple #[.agg (s8_ A0 A1 A2 A3 A4 A5 A6 a0 a1 a2 a3 a4 a5 a6 S),.bool false]) (by simp[results,Tryz.results27,go_sem,r_0,r_1,r_2,r_3,r_4,r_5,r_6,r_7,Hl]) rfl ⟨_,_,_,_,_,_,_,_,_,_,_,_,_,_,fs,rfl,(Hx.out _ _ _ _ _ _ _ _).1,(Hx.out _ _ _ _ _ _ _ _).2⟩
  ·obtain⟨u1,u2⟩:=z51 (S:=S) (x:=x) (y:=y) hr fE.out
   rw[Bx.out] at u1;have hu:(⟨S.D,l',S.ds,S.fund⟩:St)=E:=by rw[<-HE.out];exact u1.symm
   have hv:true=bb:=by rw[<-H9.out];exact u2.symm
   subst hu;subst hv;obtain⟨_,_,hR,hZ,Gb,_,_⟩:=gx.out;obtain⟨z_0,z_1,z_2,z_3,z_4,z_5,z_6,z_7,z_f0,z_f1,z_f2,z_f3,z_f4,z_f5,z_f6,z_f7⟩:=hZ.b8;obtain⟨r_0,r_1,r_2,r_3,r_4,r_5,r_6,r_7,r_f0,r_f1,r_f2,r_f3,r_f4,r_f5,r_f6,r_f7⟩:=hR.b8;have Hl:=hR.lt;have fW:=hZ.lt;have Hx:=h_ (HF.out.fin);have FM:¬Z=w.heap.size+1:=o_
   have Gr:¬w.heap.size+1=Z:=o_
   go_wp2;exact bodyPost_ret (v:= .tuple #[.agg #[.slice A0 S.D.fn.length a0,.slice A1 S.D.fl.length a1,.slice A2 S.D.nn.length a2,.slice A3 S.D.nl.length a3,.slice A4 S.D.ss.length a4,.slice T5 l'.length t5,.slice A6 S.ds.length a6,.int .i64 S.fund],.bool true]) (by simp[results,Tryz.results27,go_sem,r_0,r_1,r_2,r_3,r_4,r_5,r_6,r_7,z_0,z_1,z_2,z_3,z_4,z_5,z_6,z_7,Hl,fW,FM,Gr]) rfl ⟨_,_,_,_,_,_,_,_,_,_,_,_,_,_,fs,rfl,(Hx.out _ _ _ _ _ _ _ _).1,(Hx.out _ _ _ _ _ _ _ _).2⟩
end Go.Proofs.YtnjcpljhmhdhkaaGreat
