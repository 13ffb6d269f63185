/- part 43 -/
import Derived.Test.YtnjcpljhmhdhkaaGreatTPk42
set_option linter.unusedSimpArgs false
set_option linter.unusedVariables false
set_option maxRecDepth 100000
set_option maxHeartbeats 60000000
namespace Go.Proofs.YtnjcpljhmhdhkaaGreat
open Go.RowKit
theorem z8D (vn vl:Value) (ns ls:List Pr) (n:Int) (f:Nat) (w:World) (hn:RP w vn ns) (hl:RP w vl ls) (hx:fwnN ns ls n=f):
  CB_ 24 #[.agg #[vn,vl],.int .i64 n] w (.int .i64 f):=by
 rw[<-hx];exact z7X vn vl ns ls n w hn hl
theorem z8R (vn vl:Value) (ns ls:List Pr) (f:Nat) (x:Int) (w:World) (hn:RP w vn ns) (hl:RP w vl ls) (hx:numN ns ls f=x):
  CB_ 23 #[.agg #[vn,vl],.int .i64 f] w (.int .i64 x):=by
 rw[<-hx];exact z2o vn vl ns ls f w hn hl
structure BoxTp (B:World) (y:Nat) (a b c d e f g:Value) (S:St) (w:World):Prop where
 box:Blk w y 34 #[a,b,c,d,e,f,g,.int .i64 S.fund]
 own:∃fs,OwnSt B.heap.size w a b c d e f g S fs
 blw:Below B.heap.size B w
theorem BoxTp.last {B w:World} {a b c d e f g:Value} {S:St} {fs:List SF} {base:Nat} (hb:Below B.heap.size B w) (ho:OwnSt base w a b c d e f g S fs) (Hs:B.heap.size<=base):
  BoxTp B w.heap.size a b c d e f g S (w.alloc (.cells #[a,b,c,d,e,f,g,.int .i64 S.fund] 34)):=
 ⟨Blk.newAt rfl,⟨_,(ho.mono Hs).alloc _⟩,hb.alloc hb.size _⟩
theorem BoxTp.first {B w:World} {a b c d e f g:Value} {S:St} {fs:List SF} {base y:Nat} (hb:Below B.heap.size B w) (ho:OwnSt base w a b c d e f g S fs) (hy:Blk w y 34 z8_) (h1:B.heap.size<=y) (h2:y<base):
  BoxTp B y a b c d e f g S ((((((((w.setCell ⟨y,0,none⟩ a).setCell ⟨y,1,none⟩ b).setCell ⟨y,2,none⟩ c).setCell ⟨y,3,none⟩ d).setCell ⟨y,4,none⟩ e).setCell ⟨y,5,none⟩ f).setCell ⟨y,6,none⟩ g).setCell ⟨y,7,none⟩ (.int .i64 S.fund)):=
 ⟨blk8 hy,⟨_,(far8 ho h2 _ _ _ _ _ _ _ _).mono o_⟩,bel8 hb h1 _ _ _ _ _ _ _ _⟩
structure TopAt (B:World) (Z Q:Nat) (a b c d e f g fa fb:Value) (S:St) (w:World):Prop where
 X:Blk w Z 34 #[a,b,c,d,e,f,g,.int .i64 S.fund]
 Q_:Blk w Q 27 #[fa,fb]
 st:RSt w a b c d e f g S
 blw:Below B.heap.size B w
theorem TopAt.next {B w:World} {Z Q base:Nat} {a b c d e f g a' b' c' d' e' f' g' fa fb:Value} {E:St} {fs:List SF} {m:Int} (hX:Blk w Z 34 #[a,b,c,d,e,f,g,.int .i64 m]) (hQ:Blk w Q 27 #[fa,fb]) (ho:OwnSt base w a' b' c' d' e' f' g' E fs) (hb:Below B.heap.size B w) (h1:Z<base) (h2:Q≠Z) (h3:B.heap.size<=Z):
  TopAt B Z Q a' b' c' d' e' f' g' fa fb E ((((((((w.setCell ⟨Z,0,none⟩ a').setCell ⟨Z,1,none⟩ b').setCell ⟨Z,2,none⟩ c').setCell ⟨Z,3,none⟩ d').setCell ⟨Z,4,none⟩ e').setCell ⟨Z,5,none⟩ f').setCell ⟨Z,6,none⟩ g').setCell ⟨Z,7,none⟩ (.int .i64 E.fund)):=
 ⟨blk8 hX,JD hQ h2,(far8 ho h1 _ _ _ _ _ _ _ _).reads,bel8 hb h3 _ _ _ _ _ _ _ _⟩
theorem z9H (v:Value) (zs:List Int) (w:World) (h:RB w v zs):
  CB_ 3 #[v] w (.bool true):=by
 cases mo:decide ((1048576:Int)<zs.length)
 case true=>
  go_enter Tryz.func3,Tryz.ntmps3
  go_wp2_with fail
  refine(z6K v zs _ _ h mo).mono ?_
  rintro e w' ⟨rfl,rfl⟩;go_wp2;go_ret
  exact⟨rfl,aaj _ _⟩
 case false=>
  have hle:zs.length<=1048576:=by
   have:=of_decide_eq_false mo;omega
  go_enter Tryz.func3,Tryz.ntmps3
  go_wp2_with fail
  refine(z6K v zs _ _ h mo).mono ?_
  rintro e w' ⟨rfl,rfl⟩;clear mo
  go_wp2_with fail
  refine(z1c v zs _ h hle).mono ?_
  rintro e wo ⟨S,A0,a0,A1,a1,A2,a2,A3,a3,A4,a4,A5,a5,A6,a6,fs,l,u,rfl,Gn,Nw,MB,uL,Hj,GT,Hb⟩;clear h;obtain⟨A,ca,hu,Wy,hma,fI⟩:=(OwnA.reads GT).form;subst hu;unfold maxLen at hma;have Fq:=h_ Gn;have HPQ:=h_ (fun j=>q6 (l:=l) Nw.2.2 Gn j);clear Nw;have FB:=h_ fI;have HAC:Hid (∀j (hj:j<l.length),actB l[j].k l[j].a l[j].b =true):=h_ (fun j hj=>uL.out _ (abg hj));obtain⟨F,hF⟩:∃q,q=S.D.fn:=⟨_,rfl⟩;obtain⟨FL,hFL⟩:∃q,q=S.D.fl:=⟨_,rfl⟩;have Yi:Hid (RP wo (.slice A0 S.D.fn.length a0) F):=h_ (by rw[hF];exact Hj.reads.dr.fn);have nS:Hid (RP wo (.slice A1 S.D.fl.length a1) FL):=h_ (by rw[hFL];exact Hj.reads.dr.fl);have hfund:=(zc.1 (jp.1 Gn).2.2.1);have M5:Hid ((runS S l 0).D.fn =F/\(runS S l 0).D.fl =FL):=h_ ⟨hF.symm,hFL.symm⟩;have GH:Hid (∀j,(runS S l j).D.fn =F->(runS S l j).D.fl =FL->(runS S l (j+1)).D.fn =F/\(runS S l (j+1)).D.fl =FL):=h_ (fun j h1 h2=>⟨(z0t _ _ _ _).1.trans h1,(z0t _ _ _ _).2.trans h2⟩);have H0:=h_ (show TopAt wo wo.heap.size (wo.heap.size+1) _ _ _ _ _ _ _ _ _ S ((wo.alloc (.cells #[.slice A0 S.D.fn.length a0,.slice A1 S.D.fl.length a1,.slice A2 S.D.nn.length a2,.slice A3 S.D.nl.length a3,.slice A4 S.D.ss.length a4,.slice A5 S.cs.length a5,.slice A6 S.ds.length a6,.int .i64 S.fund] 34)).alloc (.cells #[.slice A0 S.D.fn.length a0,.slice A1 S.D.fl.length a1] 27)) from⟨(Blk.newAt rfl).alloc _,Blk.newAt (by simp),Hj.reads.below (((aaj _ _).alloc (aaa _) _).alloc (by simp) _),((aaj _ _).alloc (aaa _) _).alloc (by simp) _⟩)
  clear Gn fI uL Hj GT hF hFL
  go_wp2_with fail
  go_loopw [6,8] (fun c i wr=>∃(j:Nat) (ch:Int),j<=l.length/\c= .int .i64 ch/\i= .int .i64 j/\(0<=ch/\ch<=j)/\∃(B0:Option Addr) (bc0:Nat) (B1:Option Addr) (bc1:Nat) (B2:Option Addr) (bc2:Nat) (B3:Option Addr) (bc3:Nat) (B4:Option Addr) (bc4:Nat) (B5:Option Addr) (bc5:Nat) (B6:Option Addr) (bc6:Nat),TopAt wo wo.heap.size (wo.heap.size+1) (.slice B0 (runS S l j).D.fn.length bc0) (.slice B1 (runS S l j).D.fl.length bc1) (.slice B2 (runS S l j).D.nn.length bc2) (.slice B3 (runS S l j).D.nl.length bc3) (.slice B4 (runS S l j).D.ss.length bc4) (.slice B5 (runS S l j).cs.length bc5) (.slice B6 (runS S l j).ds.length bc6) (.slice A0 S.D.fn.length a0) (.slice A1 S.D.fl.length a1) (runS S l j) wr/\((runS S l j).D.fn =F/\(runS S l j).D.fl =FL)/\(runS S l j).fund =S.fund -10*ch) (fun _ i _=>l.length -(intOf i).toNat)
  case atStart=>exact⟨0,0,aab _,rfl,rfl,by omega,_,_,_,_,_,_,_,_,_,_,_,_,_,_,H0.out,M5.out,by show S.fund=_;omega⟩
  case round=>
   obtain⟨j,ch,hj,rfl,rfl,hch,B0,bc0,B1,bc1,B2,bc2,B3,bc3,B4,bc4,B5,bc5,B6,bc6,hT,Rg,uZ⟩:=hrel;clear H0 M5
   by_cases Hf:j<l.length
   ·obtain⟨ba,oa,rfl,fr,uL⟩:=FB.out o_
    obtain⟨k0,k1,k2⟩:=uL j Hf;have hacI:acI l j=l[j]:=by unfold acI;rw[aa6,aac Hf];rfl
    have HSS:Hid (runS S l (j+1)=doS (runS S l j) l[j].k l[j].a l[j].b):=h_ (by rw[<-hacI];rfl);have Rh:ze (runS S l j)=true:=z0Q Fq.out j;have Mt:=h_ (z7H Rh (HAC.out j Hf));have r7:=h_ (GH.out j Rg.1 Rg.2);have M8:=z9f (runS S l j) l[j].k l[j].a l[j].b;have HLJ:Hid (StLe (runS S l j)):=h_ (z7M Rh);have NM:=h_ (z85 l[j].k l[j].a l[j].b Rh);have ra:=h_ (HPQ.out (j+1));have MU:=hT.blw;have q0:=(MU.cell (p:=⟨ba,oa+j*3,none⟩) fr).trans k0;have q1:=(MU.cell (p:=⟨ba,oa+j*3+1,none⟩) fr).trans k1;have q2:=(MU.cell (p:=⟨ba,oa+j*3+2,none⟩) fr).trans k2;have hak:=(z1J (HAC.out j Hf)).1;have Hu:(j:Int)<(l.length:Int):=o_
    have ij1:(0:Int)<=(j:Int):=o_
    generalize hE1:runS S l j=S1 at*;generalize l[j].k =ak at*;generalize l[j].a =aa at*;generalize l[j].b =ab at*;have HDN:Hid (∃q,z0x S1 ak aa ab=q/\(q=if ak<=3/\doN S1 ak aa ab=1 then 1 else 0)):=h_ ⟨_,rfl,rfl⟩;obtain⟨E,hE⟩:∃E,doS S1 ak aa ab=E:=⟨_,rfl⟩;obtain⟨nn,BQ⟩:∃n,doN S1 ak aa ab=n:=⟨_,rfl⟩;rw[hE] at HSS Mt NM;rw[BQ] at HDN;obtain⟨cst,BU,hcst⟩:=HDN.out;rw[BU] at Mt M8;rw[HSS.out] at r7 ra;have HCi:Hid (∀(v:World),Below wr.heap.size wr v->Calls Tryz.prog 15 #[.agg #[.slice B0 S1.D.fn.length bc0,.slice B1 S1.D.fl.length bc1,.slice B2 S1.D.nn.length bc2,.slice B3 S1.D.nl.length bc3,.slice B4 S1.D.ss.length bc4,.slice B5 S1.cs.length bc5,.slice B6 S1.ds.length bc6,.int .i64 S1.fund],.agg #[.int .i64 ak,.int .i64 aa,.int .i64 ab]] v (Jq E nn v)):=h_ (fun v hv=>by have h9:=z5w (.slice B0 S1.D.fn.length bc0) (.slice B1 S1.D.fl.length bc1) (.slice B2 S1.D.nn.length bc2) (.slice B3 S1.D.nl.length bc3) (.slice B4 S1.D.ss.length bc4) (.slice B5 S1.cs.length bc5) (.slice B6 S1.ds.length bc6) S1 ak aa ab v (hT.st.below hv) HLJ.out;rw[hE,BQ] at h9;exact h9);have HCs:Hid (∀(v:World),Below wr.heap.size wr v->Calls Tryz.prog 16 #[.agg #[.slice B0 S1.D.fn.length bc0,.slice B1 S1.D.fl.length bc1,.slice B2 S1.D.nn.length bc2,.slice B3 S1.D.nl.length bc3,.slice B4 S1.D.ss.length bc4,.slice B5 S1.cs.length bc5,.slice B6 S1.ds.length bc6,.int .i64 S1.fund],.agg #[.int .i64 ak,.int .i64 aa,.int .i64 ab]] v (Jq E nn v)):=h_ (fun v hv=>by have h9:=z69 (.slice B0 S1.D.fn.length bc0) (.slice B1 S1.D.fl.length bc1) (.slice B2 S1.D.nn.length bc2) (.slice B3 S1.D.nl.length bc3) (.slice B4 S1.D.ss.length bc4) (.slice B5 S1.cs.length bc5) (.slice B6 S1.ds.length bc6) S1 ak aa ab v (hT.st.below hv) HLJ.out;rw[hE,BQ] at h9;exact h9)
    have F8:=hT.X;have Nx:=hT.Q_;have rb:=MU.size;have Mc:ba<wr.heap.size:=o_
    have HFD0:=h_ uZ;have HCST:=h_ hcst;clear hE1 k0 k1 k2 uL hacI hT hE BQ HDN BU HLJ Rh uZ hcst Rg;generalize hZ:wo.heap.size=Z at*;obtain⟨Q,hQ⟩:∃q,q=Z+1:=⟨_,rfl⟩;rw[<-hQ] at Nx⊢;have hQZ:Q≠Z:=o_
    have HQ:=h_ hQ;clear hQ;obtain⟨w0,GG⟩:∃v:World,v=wr:=⟨_,rfl⟩;subst GG;have FI:Below w0.heap.size w0 w0:=aaj _ _;have q00:=q0;have q10:=q1;have q20:=q2;have CR:ba<w0.heap.size:=Mc;obtain⟨xb_0,xb_1,xb_2,xb_3,xb_4,xb_5,xb_6,xb_7⟩:=F8.c8;have xlt:=F8.lt
    go_upto_region 10 with (fail)
    go_cut [9,10] (fun s6 s7 wx=>∃(y:Nat) (G0:Option Addr) (gc0:Nat) (G1:Option Addr) (gc1:Nat) (G2:Option Addr) (gc2:Nat) (G3:Option Addr) (gc3:Nat) (G4:Option Addr) (gc4:Nat) (G5:Option Addr) (gc5:Nat) (G6:Option Addr) (gc6:Nat),s6= .pointer (some ⟨y,0,none⟩)/\s7= .int .i64 nn/\BoxTp w0 y (.slice G0 E.D.fn.length gc0) (.slice G1 E.D.fl.length gc1) (.slice G2 E.D.nn.length gc2) (.slice G3 E.D.nl.length gc3) (.slice G4 E.D.ss.length gc4) (.slice G5 E.cs.length gc5) (.slice G6 E.ds.length gc6) E wx)
    case first=>
     have GB:Below w0.heap.size w0 w0.drew:=(aaj _ _).drew;refine qD (n:=10) (S:=fun w'=>w'.cell? ⟨Z,0,none⟩=some (.slice B0 S1.D.fn.length bc0)/\w'.cell? ⟨Z,1,none⟩=some (.slice B1 S1.D.fl.length bc1)/\w'.cell? ⟨Z,2,none⟩=some (.slice B2 S1.D.nn.length bc2)/\w'.cell? ⟨Z,3,none⟩=some (.slice B3 S1.D.nl.length bc3)/\w'.cell? ⟨Z,4,none⟩=some (.slice B4 S1.D.ss.length bc4)/\w'.cell? ⟨Z,5,none⟩=some (.slice B5 S1.cs.length bc5)/\w'.cell? ⟨Z,6,none⟩=some (.slice B6 S1.ds.length bc6)/\w'.cell? ⟨Z,7,none⟩=some (.int .i64 S1.fund)/\w'.cell? ⟨ba,oa+j*3,none⟩=some (.int .i64 ak)/\w'.cell? ⟨ba,oa+j*3+1,none⟩=some (.int .i64 aa)/\w'.cell? ⟨ba,oa+j*3+2,none⟩=some (.int .i64 ab)) k_ ⟨xb_0,xb_1,xb_2,xb_3,xb_4,xb_5,xb_6,xb_7,q00,q10,q20⟩ (fun hS=>?_)
     have HS:=h_ (fun (v:World) (hb:Below w0.heap.size w0 v)=>(⟨(hb.cell (p:=⟨Z,0,none⟩) xlt).trans xb_0,(hb.cell (p:=⟨Z,1,none⟩) xlt).trans xb_1,(hb.cell (p:=⟨Z,2,none⟩) xlt).trans xb_2,(hb.cell (p:=⟨Z,3,none⟩) xlt).trans xb_3,(hb.cell (p:=⟨Z,4,none⟩) xlt).trans xb_4,(hb.cell (p:=⟨Z,5,none⟩) xlt).trans xb_5,(hb.cell (p:=⟨Z,6,none⟩) xlt).trans xb_6,(hb.cell (p:=⟨Z,7,none⟩) xlt).trans xb_7,(hb.cell (p:=⟨ba,oa+j*3,none⟩) CR).trans q00,(hb.cell (p:=⟨ba,oa+j*3+1,none⟩) CR).trans q10,(hb.cell (p:=⟨ba,oa+j*3+2,none⟩) CR).trans q20⟩:v.cell? ⟨Z,0,none⟩=some (.slice B0 S1.D.fn.length bc0)/\v.cell? ⟨Z,1,none⟩=some (.slice B1 S1.D.fl.length bc1)/\v.cell? ⟨Z,2,none⟩=some (.slice B2 S1.D.nn.length bc2)/\v.cell? ⟨Z,3,none⟩=some (.slice B3 S1.D.nl.length bc3)/\v.cell? ⟨Z,4,none⟩=some (.slice B4 S1.D.ss.length bc4)/\v.cell? ⟨Z,5,none⟩=some (.slice B5 S1.cs.length bc5)/\v.cell? ⟨Z,6,none⟩=some (.slice B6 S1.ds.length bc6)/\v.cell? ⟨Z,7,none⟩=some (.int .i64 S1.fund)/\v.cell? ⟨ba,oa+j*3,none⟩=some (.int .i64 ak)/\v.cell? ⟨ba,oa+j*3+1,none⟩=some (.int .i64 aa)/\v.cell? ⟨ba,oa+j*3+2,none⟩=some (.int .i64 ab)));have hbds:=GB.size;generalize w0.drew=wd at*;refine tE_ 0 rfl rfl ?_;(try simp only[lp_])
     refine tE_ 1 rfl rfl ?_;(try simp only[lp_])
     refine tE_ 2 rfl rfl ?_;(try simp only[lp_])
     refine tE_ 3 rfl rfl ?_;(try simp only[lp_])
     refine tE_ 4 rfl rfl ?_;(try simp only[lp_])
     refine z86 (i:=5) (j:=9) rfl rfl k_ (fun K hK=>?_) (fun K hK=>?_)
     ·rw[aao (by rfl)]
      go_simp
      go_at_call 15
      refine(HCi.out _ (FI.trans (GB.mono FI.size))).mono ?_
      rintro e w7 ⟨G0,gc0,G1,gc1,G2,gc2,G3,gc3,G4,gc4,G5,gc5,G6,gc6,fs,rfl,ho,f9⟩;have Md:=GB.trans (f9.mono GB.size)
      go_wp2_with fail
      refine hK _ _ (fun _=>HS.out _ Md) (fun gh=>?_)
      have hS:=gh k_;clear hK K gh
      (try simp only[lp_])
      refine tE_ 6 rfl rfl ?_;(try simp only[lp_])
      refine tE_ 7 rfl rfl ?_;(try simp only[lp_])
      refine tF_ 8 rfl ?_;(try simp only[lp_])
      (refine zm (i:=9) rfl k_ (fun K hK=>?_));(rw[aao (by rfl)])
      go_simp;refine hK _ _ (fun _=>HS.out _ (Md.alloc Md.size _)) (fun gh=>?_)
      have hS:=gh k_;clear hK K gh
      (try simp only[lp_])
      have cX:=Blk.newAt (w:=w7) (g:=w7.heap.size) (t:=34) (cs:= z8_) rfl;obtain⟨z_0,z_1,z_2,z_3,z_4,z_5,z_6,z_7,z_f0,z_f1,z_f2,z_f3,z_f4,z_f5,z_f6,z_f7⟩:=cX.b8;have Hd:=cX.lt
      (refine zm (i:=10) rfl k_ (fun K hK=>?_));(rw[aao (by rfl)])
      go_simp;refine hK _ _ (fun h=>by cases h) (fun _=>?_)
      clear hK K z_0 z_1 z_2 z_3 z_4 z_5 z_6 z_7 z_f0 z_f1 z_f2 z_f3 z_f4 z_f5 z_f6 z_f7
      (try simp only[lp_])
      (refine zm (i:=11) rfl k_ (fun K hK=>?_));(rw[aao (by rfl)])
      go_simp;refine hK _ _ (fun h=>by cases h) (fun _=>?_)
      clear hK K
      (try simp only[lp_])
      refine jr k_ ?_ _
      go_wp2;go_meet
      exact⟨_,_,_,_,_,_,_,_,_,_,_,_,_,_,_,rfl,rfl,BoxTp.last Md ho GB.size⟩
     ·rw[aao (by rfl)]
      go_simp;have cX:=Blk.newAt (w:=wd) (g:=wd.heap.size) (t:=34) (cs:= z8_) rfl;have Cc:=GB.alloc GB.size (.cells z8_ 34);have hyg:=GB.size;have wh:=cX.lt;obtain⟨wA,Rb⟩:∃v,v=wd.alloc (.cells z8_ 34):=⟨_,rfl⟩;rw[<-Rb] at cX Cc wh⊢;clear Rb;refine hK _ _ (fun _=>HS.out _ Cc) (fun gh=>?_)
      have hS:=gh k_;clear hK K gh
      (try simp only[lp_])
      (refine zm (i:=5) rfl k_ (fun K hK=>?_));(rw[aao (by rfl)])
      go_simp
      go_at_call 15
      refine(HCi.out _ (FI.trans (Cc.mono FI.size))).mono ?_
      rintro e w7 ⟨G0,gc0,G1,gc1,G2,gc2,G3,gc3,G4,gc4,G5,gc5,G6,gc6,fs,rfl,ho,f9⟩;have Md:=Cc.trans (f9.mono Cc.size);have cX:=cX.below f9 cX.lt
      go_wp2_with fail
      refine hK _ _ (fun _=>HS.out _ Md) (fun gh=>?_)
      have hS:=gh k_;clear hK K gh
      (try simp only[lp_])
      refine tE_ 6 rfl rfl ?_;(try simp only[lp_])
      refine tE_ 7 rfl rfl ?_;(try simp only[lp_])
      refine tF_ 8 rfl ?_;(try simp only[lp_])
      obtain⟨z_0,z_1,z_2,z_3,z_4,z_5,z_6,z_7,z_f0,z_f1,z_f2,z_f3,z_f4,z_f5,z_f6,z_f7⟩:=cX.b8;have Hd:=cX.lt
      (refine zm (i:=10) rfl k_ (fun K hK=>?_));(rw[aao (by rfl)])
      go_simp;refine hK _ _ (fun h=>by cases h) (fun _=>?_)
      clear hK K z_0 z_1 z_2 z_3 z_4 z_5 z_6 z_7 z_f0 z_f1 z_f2 z_f3 z_f4 z_f5 z_f6 z_f7
      (try simp only[lp_])
      (refine zm (i:=11) rfl k_ (fun K hK=>?_));(rw[aao (by rfl)])
      go_simp;refine hK _ _ (fun h=>by cases h) (fun _=>?_)
      clear hK K
      (try simp only[lp_])
      refine jr k_ ?_ _
      go_wp2;go_meet
      exact⟨_,_,_,_,_,_,_,_,_,_,_,_,_,_,_,rfl,rfl,BoxTp.first Md ho cX hyg wh⟩
    case rest=>
     obtain⟨yG,G0,gc0,G1,gc1,G2,gc2,G3,gc3,G4,gc4,G5,gc5,G6,gc6,rfl,rfl,Fl⟩:=hcut;obtain⟨hG_,⟨gfs,hoG_⟩,gp⟩:=Fl;obtain⟨w1,F9⟩:∃v:World,v=wc:=⟨_,rfl⟩;subst F9;have gB:=F8.below gp F8.lt;have BZ:=Nx.below gp Nx.lt;have Ha:=FI.trans (gp.mono FI.size);clear F8 Nx FI gp xb_0 xb_1 xb_2 xb_3 xb_4 xb_5 xb_6 xb_7 xlt q00 q10 q20 CR;have CZ:=hG_;have hoG1:=hoG_;clear hG_ hoG_;have q01:=(Ha.cell (p:=⟨ba,oa+j*3,none⟩) Mc).trans q0;have q11:=(Ha.cell (p:=⟨ba,oa+j*3+1,none⟩) Mc).trans q1;have q21:=(Ha.cell (p:=⟨ba,oa+j*3+2,none⟩) Mc).trans q2;have CR:ba<w1.heap.size:=aaD Mc Ha.size;obtain⟨xb_0,xb_1,xb_2,xb_3,xb_4,xb_5,xb_6,xb_7⟩:=gB.c8;have xlt:=gB.lt;have hZW:Z<w1.heap.size:=xlt
     go_upto_region 11 with (fail)
     go_cut [11,12] (fun s6 s7 wx=>∃(y:Nat) (W0:Option Addr) (wc0:Nat) (W1:Option Addr) (wc1:Nat) (W2:Option Addr) (wc2:Nat) (W3:Option Addr) (wc3:Nat) (W4:Option Addr) (wc4:Nat) (W5:Option Addr) (wc5:Nat) (W6:Option Addr) (wc6:Nat),s6= .pointer (some ⟨y,0,none⟩)/\s7= .int .i64 nn/\BoxTp w1 y (.slice W0 E.D.fn.length wc0) (.slice W1 E.D.fl.length wc1) (.slice W2 E.D.nn.length wc2) (.slice W3 E.D.nl.length wc3) (.slice W4 E.D.ss.length wc4) (.slice W5 E.cs.length wc5) (.slice W6 E.ds.length wc6) E wx)
     case first=>
      have GB:Below w1.heap.size w1 w1.drew:=(aaj _ _).drew;refine qD (n:=10) (S:=fun w'=>w'.cell? ⟨Z,0,none⟩=some (.slice B0 S1.D.fn.length bc0)/\w'.cell? ⟨Z,1,none⟩=some (.slice B1 S1.D.fl.length bc1)/\w'.cell? ⟨Z,2,none⟩=some (.slice B2 S1.D.nn.length bc2)/\w'.cell? ⟨Z,3,none⟩=some (.slice B3 S1.D.nl.length bc3)/\w'.cell? ⟨Z,4,none⟩=some (.slice B4 S1.D.ss.length bc4)/\w'.cell? ⟨Z,5,none⟩=some (.slice B5 S1.cs.length bc5)/\w'.cell? ⟨Z,6,none⟩=some (.slice B6 S1.ds.length bc6)/\w'.cell? ⟨Z,7,none⟩=some (.int .i64 S1.fund)/\w'.cell? ⟨ba,oa+j*3,none⟩=some (.int .i64 ak)/\w'.cell? ⟨ba,oa+j*3+1,none⟩=some (.int .i64 aa)/\w'.cell? ⟨ba,oa+j*3+2,none⟩=some (.int .i64 ab)) k_ ⟨xb_0,xb_1,xb_2,xb_3,xb_4,xb_5,xb_6,xb_7,q01,q11,q21⟩ (fun hS=>?_)
      have HS:=h_ (fun (v:World) (hb:Below w1.heap.size w1 v)=>(⟨(hb.cell (p:=⟨Z,0,none⟩) xlt).trans xb_0,(hb.cell (p:=⟨Z,1,none⟩) xlt).trans xb_1,(hb.cell (p:=⟨Z,2,none⟩) xlt).trans xb_2,(hb.cell (p:=⟨Z,3,none⟩) xlt).trans xb_3,(hb.cell (p:=⟨Z,4,none⟩) xlt).trans xb_4,(hb.cell (p:=⟨Z,5,none⟩) xlt).trans xb_5,(hb.cell (p:=⟨Z,6,none⟩) xlt).trans xb_6,(hb.cell (p:=⟨Z,7,none⟩) xlt).trans xb_7,(hb.cell (p:=⟨ba,oa+j*3,none⟩) CR).trans q01,(hb.cell (p:=⟨ba,oa+j*3+1,none⟩) CR).trans q11,(hb.cell (p:=⟨ba,oa+j*3+2,none⟩) CR).trans q21⟩:v.cell? ⟨Z,0,none⟩=some (.slice B0 S1.D.fn.length bc0)/\v.cell? ⟨Z,1,none⟩=some (.slice B1 S1.D.fl.length bc1)/\v.cell? ⟨Z,2,none⟩=some (.slice B2 S1.D.nn.length bc2)/\v.cell? ⟨Z,3,none⟩=some (.slice B3 S1.D.nl.length bc3)/\v.cell? ⟨Z,4,none⟩=some (.slice B4 S1.D.ss.length bc4)/\v.cell? ⟨Z,5,none⟩=some (.slice B5 S1.cs.length bc5)/\v.cell? ⟨Z,6,none⟩=some (.slice B6 S1.ds.length bc6)/\v.cell? ⟨Z,7,none⟩=some (.int .i64 S1.fund)/\v.cell? ⟨ba,oa+j*3,none⟩=some (.int .i64 ak)/\v.cell? ⟨ba,oa+j*3+1,none⟩=some (.int .i64 aa)/\v.cell? ⟨ba,oa+j*3+2,none⟩=some (.int .i64 ab)));have hbds:=GB.size;generalize w1.drew=wd at*;refine tE_ 0 rfl rfl ?_;(try simp only[lp_])
      refine tE_ 1 rfl rfl ?_;(try simp only[lp_])
      refine tE_ 2 rfl rfl ?_;(try simp only[lp_])
      refine tE_ 3 rfl rfl ?_;(try simp only[lp_])
      refine tE_ 4 rfl rfl ?_;(try simp only[lp_])
      refine z86 (i:=5) (j:=9) rfl rfl k_ (fun K hK=>?_) (fun K hK=>?_)
      ·rw[aao (by rfl)]
       go_simp
       go_at_call 16
       refine(HCs.out _ (Ha.trans (GB.mono Ha.size))).mono ?_
       rintro e w7 ⟨W0,wc0,W1,wc1,W2,wc2,W3,wc3,W4,wc4,W5,wc5,W6,wc6,fs,rfl,ho,f9⟩;have Md:=GB.trans (f9.mono GB.size)
       go_wp2_with fail
       refine hK _ _ (fun _=>HS.out _ Md) (fun gh=>?_)
       have hS:=gh k_;clear hK K gh
       (try simp only[lp_])
       refine tE_ 6 rfl rfl ?_;(try simp only[lp_])
       refine tE_ 7 rfl rfl ?_;(try simp only[lp_])
       refine tF_ 8 rfl ?_;(try simp only[lp_])
       (refine zm (i:=9) rfl k_ (fun K hK=>?_));(rw[aao (by rfl)])
       go_simp;refine hK _ _ (fun _=>HS.out _ (Md.alloc Md.size _)) (fun gh=>?_)
       have hS:=gh k_;clear hK K gh
       (try simp only[lp_])
       have cX:=Blk.newAt (w:=w7) (g:=w7.heap.size) (t:=34) (cs:= z8_) rfl;obtain⟨z_0,z_1,z_2,z_3,z_4,z_5,z_6,z_7,z_f0,z_f1,z_f2,z_f3,z_f4,z_f5,z_f6,z_f7⟩:=cX.b8;have Hd:=cX.lt
       (refine zm (i:=10) rfl k_ (fun K hK=>?_));(rw[aao (by rfl)])
       go_simp;refine hK _ _ (fun h=>by cases h) (fun _=>?_)
       clear hK K z_0 z_1 z_2 z_3 z_4 z_5 z_6 z_7 z_f0 z_f1 z_f2 z_f3 z_f4 z_f5 z_f6 z_f7
       (try simp only[lp_])
       (refine zm (i:=11) rfl k_ (fun K hK=>?_));(rw[aao (by rfl)])
       go_simp;refine hK _ _ (fun h=>by cases h) (fun _=>?_)
       clear hK K
       (try simp only[lp_])
       refine jr k_ ?_ _
       go_wp2;go_meet
       exact⟨_,_,_,_,_,_,_,_,_,_,_,_,_,_,_,rfl,rfl,BoxTp.last Md ho GB.size⟩
      ·rw[aao (by rfl)]
       go_simp;have cX:=Blk.newAt (w:=wd) (g:=wd.heap.size) (t:=34) (cs:= z8_) rfl;have Cc:=GB.alloc GB.size (.cells z8_ 34);have hyg:=GB.size;have wh:=cX.lt;obtain⟨wA,Rb⟩:∃v,v=wd.alloc (.cells z8_ 34):=⟨_,rfl⟩;rw[<-Rb] at cX Cc wh⊢;clear Rb;refine hK _ _ (fun _=>HS.out _ Cc) (fun gh=>?_)
       have hS:=gh k_;clear hK K gh
       (try simp only[lp_])
       (refine zm (i:=5) rfl k_ (fun K hK=>?_));(rw[aao (by rfl)])
       go_simp
       go_at_call 16
       refine(HCs.out _ (Ha.trans (Cc.mono Ha.size))).mono ?_
       rintro e w7 ⟨W0,wc0,W1,wc1,W2,wc2,W3,wc3,W4,wc4,W5,wc5,W6,wc6,fs,rfl,ho,f9⟩;have Md:=Cc.trans (f9.mono Cc.size);have cX:=cX.below f9 cX.lt
       go_wp2_with fail
       refine hK _ _ (fun _=>HS.out _ Md) (fun gh=>?_)
       have hS:=gh k_;clear hK K gh
       (try simp only[lp_])
       refine tE_ 6 rfl rfl ?_;(try simp only[lp_])
       refine tE_ 7 rfl rfl ?_;(try simp only[lp_])
       refine tF_ 8 rfl ?_;(try simp only[lp_])
       obtain⟨z_0,z_1,z_2,z_3,z_4,z_5,z_6,z_7,z_f0,z_f1,z_f2,z_f3,z_f4,z_f5,z_f6,z_f7⟩:=cX.b8;have Hd:=cX.lt
       (refine zm (i:=10) rfl k_ (fun K hK=>?_));(rw[aao (by rfl)])
       go_simp;refine hK _ _ (fun h=>by cases h) (fun _=>?_)
       clear hK K z_0 z_1 z_2 z_3 z_4 z_5 z_6 z_7 z_f0 z_f1 z_f2 z_f3 z_f4 z_f5 z_f6 z_f7
       (try simp only[lp_])
       (refine zm (i:=11) rfl k_ (fun K hK=>?_));(rw[aao (by rfl)])
       go_simp;refine hK _ _ (fun h=>by cases h) (fun _=>?_)
       clear hK K
       (try simp only[lp_])
       refine jr k_ ?_ _
       go_wp2;go_meet
       exact⟨_,_,_,_,_,_,_,_,_,_,_,_,_,_,_,rfl,rfl,BoxTp.first Md ho cX hyg wh⟩
     case rest=>
      obtain⟨yW,W0,wc0,W1,wc1,W2,wc2,W3,wc3,W4,wc4,W5,wc5,W6,wc6,rfl,rfl,Fl⟩:=hcut;obtain⟨hW_,⟨wfs,hoW_⟩,gp⟩:=Fl;obtain⟨w2,gw⟩:∃v:World,v=wc:=⟨_,rfl⟩;subst gw;have fi:=gB.below gp gB.lt;have Wz:=BZ.below gp BZ.lt;have By:=CZ.below gp CZ.lt;have wK:=hoG1.kept gp
      have Hc:=Ha.trans (gp.mono Ha.size);clear gB BZ CZ hoG1 Ha gp xb_0 xb_1 xb_2 xb_3 xb_4 xb_5 xb_6 xb_7 xlt q01 q11 q21 CR;have gX:=hW_;have hoW2:=hoW_;clear hW_ hoW_;have M1:Hid (qN E.D.nn E.D.nl E.D.nn E.D.nl=true):=h_ (yp.2 ⟨rfl,rfl⟩);have HSF:Hid (qN F FL F FL=true):=h_ (yp.2 ⟨rfl,rfl⟩);obtain⟨gb_0,gb_1,gb_2,gb_3,gb_4,gb_5,gb_6,gb_7⟩:=By.c8;have glt:=By.lt
      go_wp2_with fail
      refine(qA _ _ _ _ _ _ _ E true _ wK.reads NM).mono ?_
      rintro e w3 ⟨rfl,gp⟩;have gS:=fi.below gp fi.lt;have hQ3:=Wz.below gp Wz.lt;have ni:=By.below gp By.lt;have Gz:=gX.below gp gX.lt;have wL:=wK.kept gp
      have mI:=hoW2.kept gp
      have He:=Hc.trans (gp.mono Hc.size);clear fi Wz By gX wK hoW2 Hc gp gb_0 gb_1 gb_2 gb_3 gb_4 gb_5 gb_6 gb_7 glt;obtain⟨gb_0,gb_1,gb_2,gb_3,gb_4,gb_5,gb_6,gb_7⟩:=ni.c8;obtain⟨wb_0,wb_1,wb_2,wb_3,wb_4,wb_5,wb_6,wb_7⟩:=Gz.c8;have glt:=ni.lt;have wlt:=Gz.lt
      go_wp2_with fail
      refine(Xv _ _ E.cs _ wL.reads.cs mI.reads.cs).mono ?_
      rintro e w4 ⟨rfl,gp⟩;have G7:=gS.below gp gS.lt;have hQ4:=hQ3.below gp hQ3.lt;have hG4:=ni.below gp ni.lt;have bj:=Gz.below gp Gz.lt;have Ri:=wL.kept gp
      have fG:=mI.kept gp
      have Ho:=He.trans (gp.mono He.size);clear gS hQ3 ni Gz wL mI He gp gb_0 gb_1 gb_2 gb_3 gb_4 gb_5 gb_6 gb_7 wb_0 wb_1 wb_2 wb_3 wb_4 wb_5 wb_6 wb_7 glt wlt;obtain⟨gb_0,gb_1,gb_2,gb_3,gb_4,gb_5,gb_6,gb_7⟩:=hG4.c8;obtain⟨wb_0,wb_1,wb_2,wb_3,wb_4,wb_5,wb_6,wb_7⟩:=bj.c8;have glt:=hG4.lt;have wlt:=bj.lt
      go_wp2_with fail
      refine(yy _ _ _ _ E.D.nn E.D.nl E.D.nn E.D.nl true _ Ri.reads.dr.nn Ri.reads.dr.nl fG.reads.dr.nn fG.reads.dr.nl M1).mono ?_
      rintro e w5 ⟨rfl,gp⟩;have Ca:=G7.below gp G7.lt;have hQ5:=hQ4.below gp hQ4.lt;have R5:=hG4.below gp hG4.lt;have Mm:=bj.below gp bj.lt;have wM:=Ri.kept gp
      have Fj:=fG.kept gp
      have H8:=Ho.trans (gp.mono Ho.size);clear G7 hQ4 hG4 bj Ri fG Ho gp gb_0 gb_1 gb_2 gb_3 gb_4 gb_5 gb_6 gb_7 wb_0 wb_1 wb_2 wb_3 wb_4 wb_5 wb_6 wb_7 glt wlt;have q05:=(H8.cell (p:=⟨ba,oa+j*3,none⟩) Mc).trans q0;have CR:ba<w5.heap.size:=aaD Mc H8.size;obtain⟨gb_0,gb_1,gb_2,gb_3,gb_4,gb_5,gb_6,gb_7⟩:=R5.c8;obtain⟨wb_0,wb_1,wb_2,wb_3,wb_4,wb_5,wb_6,wb_7⟩:=Mm.c8;have glt:=R5.lt;have wlt:=Mm.lt;have wN:IntKind.i64.wrap (ch+1)=ch+1:=aaP _ o_;obtain⟨bb,H4⟩:∃q:Bool,q=(decide (ak<=3)&&(nn==1)):=⟨_,rfl⟩;have H9:=h_ H4;have HCB:Hid (cst=if bb=true then 1 else 0):=h_ (by rw[HCST.out,H4];by_cases h3:ak<=3<;>by_cases h1:nn=1<;>simp[h3,h1]);clear H4
      go_upto_region 14 with (fail)
      go_cut [115] (fun s wx=>s= .bool bb/\wx=w5)
      case first=>
       by_cases h3:ak<=3
       ·by_cases h1:nn=1
        ·have Hb:(nn==1)=true:=beq_iff_eq.2 h1
         go_wp2;go_meet
         first|exact⟨by rw[H9.out];simp[h3,h1],rfl⟩|(rw[H9.out];simp[h3,h1])
        ·have Hb:(nn==1)=false:=beq_eq_false_iff_ne.2 h1
         go_wp2;go_meet
         first|exact⟨by rw[H9.out];simp[h3,h1],rfl⟩|(rw[H9.out];simp[h3,h1])
       ·have M6:decide (ak<=3)=false:=aaO h3
        go_wp2;go_meet
        first|exact⟨by rw[H9.out,M6];rfl,rfl⟩|(rw[H9.out,M6];rfl)
      case rest=>
       obtain⟨rfl,hw9⟩:=hcut;subst hw9;obtain⟨w5,MZ⟩:∃v:World,v=wc:=⟨_,rfl⟩;subst MZ
       go_upto_if 115 with (fail)
       go_cut [6] (fun c wx=>c= .int .i64 (ch+cst)/\wx=w5)
       case first=>
        cases bb
        ·have gl:cst=0:=HCB.out
         subst gl;go_wp2;go_meet
         first|exact⟨rfl,rfl⟩|(refine⟨?_,rfl⟩;simp)|simp
        ·have gl:cst=1:=HCB.out
         subst gl;go_wp2;go_meet
         first|exact⟨rfl,rfl⟩|(refine⟨?_,rfl⟩;simp[wN])|simp[wN]
       case rest=>
        obtain⟨rfl,hw9⟩:=hcut;subst hw9;obtain⟨w5,MZ⟩:∃v:World,v=wc:=⟨_,rfl⟩;subst MZ;have hchN:0<=ch+cst/\ch+cst<=((j+1:Nat):Int):=o_
        have HFD:Hid (E.fund=S.fund -10*(ch+cst)):=h_ (by rw[Mt.out,HFD0.out];omega);generalize hchc:ch+cst=ch2 at*;clear wN HCST HCB H9 M8 Mt hch HFD0 hchc q05 CR;obtain⟨U,hU⟩:∃q,k5 E.D=q:=⟨_,rfl⟩;have wO:okD E.D=true:=(jp.1 NM.out).1;have HU:Hid (U.nn=F/\U.nl=FL):=h_ (by rw[<-hU,XF wO];exact r7.out);have HUC:=z2S _ _ _ _ _ E.D _ wM.reads.dr (z3D wO);rw[hU] at HUC;clear hU wO
        go_wp2_with fail
        refine HUC.mono ?_
        rintro e w6 ⟨T0,t0,T1,t1,T2,t2,T3,t3,T4,t4,tfs,rfl,hoU_,gp⟩;clear HUC;have bB:=Ca.below gp Ca.lt;have hQ6:=hQ5.below gp hQ5.lt;have hG6:=R5.below gp R5.lt;have hW6:=Mm.below gp Mm.lt;have hoG6:=wM.kept gp
        have CD:=Fj.kept gp
        have Gi:=H8.trans (gp.mono H8.size);clear Ca hQ5 R5 Mm wM Fj H8 gp gb_0 gb_1 gb_2 gb_3 gb_4 gb_5 gb_6 gb_7 wb_0 wb_1 wb_2 wb_3 wb_4 wb_5 wb_6 wb_7 glt wlt;have hrU:=hoU_.reads;clear hoU_
        go_upto_region 17 with (fail)
        obtain⟨w7,hu⟩:∃v,v=w6.alloc (.cells #[.slice T0 U.fn.length t0,.slice T1 U.fl.length t1,.slice T2 U.nn.length t2,.slice T3 U.nl.length t3,.slice T4 U.ss.length t4] 30):=⟨_,rfl⟩;have Bz:Below w6.heap.size w6 w7:=hu▸(aaj _ _).alloc (aaa _) _;have hU_:Blk w7 w6.heap.size 30 #[.slice T0 U.fn.length t0,.slice T1 U.fl.length t1,.slice T2 U.nn.length t2,.slice T3 U.nl.length t3,.slice T4 U.ss.length t4]:=hu▸Blk.newAt rfl;rw[<-hu];clear hu;obtain⟨YU,hYU⟩:∃q,q=w6.heap.size:=⟨_,rfl⟩;rw[<-hYU] at hU_⊢;have wP:=hrU.below Bz;clear hrU hYU;have hX7:=bB.below Bz bB.lt;have hQ7:=hQ6.below Bz hQ6.lt;have hG7:=hG6.below Bz hG6.lt;have WB:=hW6.below Bz hW6.lt;have hoG7:=hoG6.kept Bz;have rx:=CD.kept Bz;have GC:=Gi.trans (Bz.mono Gi.size);clear bB hQ6 hG6 hW6 hoG6 CD Gi Bz;have hU7:=hU_;clear hU_;obtain⟨ub_0,ub_1,ub_2,ub_3,ub_4⟩:=hU7.c5;obtain⟨qb_0,qb_1⟩:=hQ7.c2;have ult:=hU7.lt;have qlt:=hQ7.lt
        go_wp2_with fail
        have rj:RP w7 (.slice T2 U.nn.length t2) F:=by have h9:=wP.nn;rw[HU.out.1] at h9⊢;exact h9
        have hlu:RP w7 (.slice T3 U.nl.length t3) FL:=by have h9:=wP.nl;rw[HU.out.2] at h9⊢;exact h9
        have wQ:Below wo.heap.size wo w7:=by have h9:=MU;rw[<-hZ] at h9;exact h9.trans (GC.mono h9.size)
        refine(yy _ _ _ _ F FL F FL true _ rj hlu (Yi.out.below wQ) (nS.out.below wQ) HSF).mono ?_
        rintro e w8 ⟨rfl,gp⟩;clear rj hlu wP HU wQ;clear hU7;have hX8:=hX7.below gp hX7.lt;have hQ8:=hQ7.below gp hQ7.lt;have hG8:=hG7.below gp hG7.lt;have hW8:=WB.below gp WB.lt;have hoG8:=hoG7.kept gp
        have BI:=rx.kept gp
        have C3:=GC.trans (gp.mono GC.size);clear hX7 hQ7 hG7 WB hoG7 rx GC gp ub_0 ub_1 ub_2 ub_3 ub_4 qb_0 qb_1 ult qlt;obtain⟨wb_0,wb_1,wb_2,wb_3,wb_4,wb_5,wb_6,wb_7⟩:=hW8.c8;have wlt:=hW8.lt
        go_upto_region 20 with (fail)
        obtain⟨w9,hu⟩:∃v,v=w8.alloc (.cells #[.slice W2 E.D.nn.length wc2,.slice W3 E.D.nl.length wc3] 27):=⟨_,rfl⟩;have Bz:Below w8.heap.size w8 w9:=hu▸(aaj _ _).alloc (aaa _) _;have hN_:Blk w9 w8.heap.size 27 #[.slice W2 E.D.nn.length wc2,.slice W3 E.D.nl.length wc3]:=hu▸Blk.newAt rfl;rw[<-hu];clear hu;obtain⟨YN,hYN⟩:∃q,q=w8.heap.size:=⟨_,rfl⟩;rw[<-hYN] at hN_⊢;clear hYN;have hX9:=hX8.below Bz hX8.lt;have hQ9:=hQ8.below Bz hQ8.lt;have hG9:=hG8.below Bz hG8.lt;have hW9:=hW8.below Bz hW8.lt;have wR:=hoG8.kept Bz;have be:=BI.kept Bz;have Ci:=C3.trans (Bz.mono C3.size);clear hX8 hQ8 hG8 hW8 hoG8 BI C3 Bz wb_0 wb_1 wb_2 wb_3 wb_4 wb_5 wb_6 wb_7 wlt;have hN9:=hN_;clear hN_
        go_cut [139] (fun s wx=>s= .bool false/\Below w9.heap.size w9 wx)
        case first=>
         obtain⟨gb_0,gb_1,gb_2,gb_3,gb_4,gb_5,gb_6,gb_7⟩:=hG9.c8;obtain⟨nb_0,nb_1⟩:=hN9.c2;have glt:=hG9.lt;have nlt:=hN9.lt
         by_cases Fm:E.cs.length=0
         ·have hcs2:¬(0:Int)<(E.cs.length:Int):=o_
          go_wp2;go_meet
          exact⟨rfl,aaj _ _⟩
         ·have hcs2:(0:Int)<(E.cs.length:Int):=o_
          have hpr:q7 E.D.nn E.D.nl E.cs=true:=by rcases(jp.1 NM.out).2.2.2.1 with h9|h9;exact absurd h9 Fm;exact h9
          go_wp2_with fail
          refine(yS _ _ _ E.D.nn E.D.nl E.cs true _ be.reads.dr.nn be.reads.dr.nl wR.reads.cs hpr).mono ?_
          rintro e w99 ⟨rfl,hb99⟩;go_wp2;go_meet
          exact⟨rfl,hb99⟩
        case rest=>
         obtain⟨rfl,Bd⟩:=hcut;obtain⟨w10,hw9⟩:∃v:World,v=wc:=⟨_,rfl⟩;subst hw9;have wS:=hX9.below Bd hX9.lt;have wT:=hQ9.below Bd hQ9.lt;have wU:=hG9.below Bd hG9.lt;have wV:=hW9.below Bd hW9.lt;have wW:=hN9.below Bd hN9.lt;have R6:=wR.kept Bd;have R7:=be.kept Bd;have F7:=Ci.trans (Bd.mono Ci.size);clear hX9 hQ9 hG9 hW9 hN9 wR be Ci Bd
         go_wp2_with fail
         go_loopw [15] (fun i wr=>∃m:Nat,m<=E.ds.length/\i= .int .i64 m/\Below w10.heap.size w10 wr) (fun i _=>E.ds.length -(intOf i).toNat)
         case atStart=>exact⟨0,aab _,rfl,aaj _ _⟩
         case round=>
          obtain⟨m,hm,rfl,M9⟩:=hrel;obtain⟨wm,hwm⟩:∃v:World,v=wr:=⟨_,rfl⟩;subst hwm;have hXm:=wS.below M9 wS.lt;have hQm:=wT.below M9 wT.lt;have Wc:=wU.below M9 wU.lt;have hWm:=wV.below M9 wV.lt;have hNm:=wW.below M9 wW.lt;have hoGm:=R6.kept M9;have Rj:=R7.kept M9;have hbwm:=F7.trans (M9.mono F7.size);clear wS wT wU wV wW R6 R7;obtain⟨GA,gca,Yb,y9,rF,hgat⟩:=hoGm.reads.ds.form
          cases Yb
          unfold maxLen at rF
          by_cases hmt:m<E.ds.length
          ·obtain⟨bd,od,rfl,GB,hdc⟩:=hgat o_
           have d0:=(hdc m hmt).1;obtain⟨p0,p1,p40,f,pf,pn⟩:=z6f NM.out ra.out (abg hmt);obtain⟨x,hx⟩:∃q,qF E.D.nn E.D.nl=q:=⟨_,rfl⟩;rw[hx] at p1;have HX:=h_ hx;have HPF:=h_ pf;have NZ:=h_ pn;generalize E.ds[m].k =p at*;have im0:(0:Int)<=(m:Int):=o_
           have im1:(m:Int)<(E.ds.length:Int):=o_
           clear hgat hdc hx pf pn;obtain⟨gb_0,gb_1,gb_2,gb_3,gb_4,gb_5,gb_6,gb_7⟩:=Wc.c8;have glt:=Wc.lt;obtain⟨nb_0,nb_1⟩:=hNm.c2;have nlt:=hNm.lt;have c1:decide (p<1)=false:=aaO o_;have c2:decide (x<p)=false:=aaO o_;have c3:¬p<1:=o_
           have c4:¬x<p:=o_
           have Mj:=Rj.reads.dr.nn;have Bk:=Rj.reads.dr.nl
           go_upto_region 26 with (fail)
           (refine z7 k_ k_ (fun hG=>?_))
           repeat (go_big_quiet_step (first|(go_at_call 22;exact zE (yO _ _ E.D.nn E.D.nl x _ (Mj.below (Grw.below _)) (Bk.below (Grw.below _)) HX.out))|(go_at_call 24;exact zE (z8D _ _ E.D.nn E.D.nl p f _ (Mj.below (Grw.below _)) (Bk.below (Grw.below _)) HPF.out))|(go_at_call 23;exact zE (z8R _ _ E.D.nn E.D.nl f p _ (Mj.below (Grw.below _)) (Bk.below (Grw.below _)) NZ.out))))
           refine wpQuiet_nil ?_
           clear hG;rintro wq ⟨⟨_,bv⟩,rfl⟩;have hbmq:=M9.trans (bv.mono M9.size);clear gb_0 gb_1 gb_2 gb_3 gb_4 gb_5 gb_6 gb_7 nb_0 nb_1 d0;go_wp2;go_roundw
           case rel=>exact⟨m+1,by omega,by go_num,hbmq⟩
           case measure=>simp[intOf];omega
          ·have im1:¬(m:Int)<(E.ds.length:Int):=o_
           obtain⟨gb_0,gb_1,gb_2,gb_3,gb_4,gb_5,gb_6,gb_7⟩:=Wc.c8;have glt:=Wc.lt;obtain⟨wb_0,wb_1,wb_2,wb_3,wb_4,wb_5,wb_6,wb_7⟩:=hWm.c8;have wlt:=hWm.lt;obtain⟨xb_0,xb_1,xb_2,xb_3,xb_4,xb_5,xb_6,xb_7,xb_f0,xb_f1,xb_f2,xb_f3,xb_f4,xb_f5,xb_f6,xb_f7⟩:=hXm.b8;have xlt:=hXm.lt;have hbW:Below wo.heap.size wo wm:=by have h9:=MU;rw[<-hZ] at h9;exact h9.trans (hbwm.mono h9.size)
           have Gb:wo.heap.size<=Z:=Nat.le_of_eq hZ;have HN:=h_ (TopAt.next hXm hQm Rj hbW hZW hQZ Gb);have ij2:IntKind.i64.wrap ((j:Int)+1)=((j+1:Nat):Int):=by rw[show(j:Int)+1=((j+1:Nat):Int) by omega];exact aaP _ o_
           clear hXm hQm Wc hWm hNm hoGm Rj;go_wp2;go_roundw
           case rel=>exact⟨j+1,ch2,by omega,rfl,by go_num,hchN,_,_,_,_,_,_,_,_,_,_,_,_,_,_,by rw[HSS.out];exact HN.out,by rw[HSS.out];exact r7.out,by rw[HSS.out];exact HFD.out⟩
           case measure=>simp[intOf];omega
   ·have GS:j=l.length:=o_
    subst GS;have Hu:¬(l.length:Int)<(l.length:Int):=o_
    have Bc:ze (runS S l l.length)=true:=z0Q Fq.out _;have HOKE:=h_ Bc;have HOKD:=h_ (jp.1 Bc).1;have hX:=hT.X;have cd:=hT.st;have Hd:=hT.blw;generalize runS S l l.length=E at*;obtain⟨xb_0,xb_1,xb_2,xb_3,xb_4,xb_5,xb_6,xb_7⟩:=hX.c8;have xlt:=hX.lt;have hw10:IntKind.i64.wrap (10*ch)=10*ch:=aaP _ o_;have hw11:IntKind.i64.wrap (S.fund -10*ch)=S.fund -10*ch:=aaP _ o_;have MC:(E.fund==S.fund -10*ch)=true:=beq_iff_eq.2 uZ;clear hT Bc uZ Rg
    go_wp2_with fail
    refine(qA _ _ _ _ _ _ _ E true _ cd HOKE).mono ?_
    rintro e w2 ⟨rfl,Hh⟩;have fi:=hX.below Hh hX.lt;have hst2:=cd.below Hh;have Ge:=Hd.trans (Hh.mono Hd.size);clear xb_0 xb_1 xb_2 xb_3 xb_4 xb_5 xb_6 xb_7 xlt hX cd Hd Hh;obtain⟨xb_0,xb_1,xb_2,xb_3,xb_4,xb_5,xb_6,xb_7⟩:=fi.c8;have xlt:=fi.lt
    go_wp2_with fail
    refine(Z0 _ _ _ _ _ E.D true _ hst2.dr HOKD).mono ?_
    rintro e w3 ⟨rfl,Hg⟩;have hbf:=Hb.trans ((Ge.trans (Hg.mono Ge.size)).mono Hb.size);clear xb_0 xb_1 xb_2 xb_3 xb_4 xb_5 xb_6 xb_7 xlt fi hst2;go_wp2;go_ret
    exact⟨rfl,hbf⟩
end Go.Proofs.YtnjcpljhmhdhkaaGreat
