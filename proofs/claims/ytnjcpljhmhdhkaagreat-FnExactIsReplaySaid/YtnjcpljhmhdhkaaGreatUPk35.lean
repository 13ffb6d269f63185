/- part 35 -/
import Derived.Test.YtnjcpljhmhdhkaaGreatUPk32
import Derived.Test.YtnjcpljhmhdhkaaGreatUPk34
import Derived.Deep.DeepCutAuto
import Derived.Deep.CutBlock
set_option linter.unusedSimpArgs false
set_option linter.unusedVariables false
set_option maxRecDepth 100000
set_option maxHeartbeats 16000000
namespace Go.Proofs.YtnjcpljhmhdhkaaGreat
open Go.RowKit
def z5L (S:St) (n:Int) (w:World) (e:Ending) (w':World):Prop:=∃A0 ac0 A1 ac1 A2 ac2 A3 ac3 A4 ac4 A5 ac5 A6 ac6 fs,e= .returned (.tuple #[.agg #[.slice A0 S.D.fn.length ac0,.slice A1 S.D.fl.length ac1,.slice A2 S.D.nn.length ac2,.slice A3 S.D.nl.length ac3,.slice A4 S.D.ss.length ac4,.slice A5 S.cs.length ac5,.slice A6 S.ds.length ac6,.int .i64 S.fund],.int .i64 n])/\
 OwnSt w.heap.size w' (.slice A0 S.D.fn.length ac0) (.slice A1 S.D.fl.length ac1) (.slice A2 S.D.nn.length ac2) (.slice A3 S.D.nl.length ac3) (.slice A4 S.D.ss.length ac4) (.slice A5 S.cs.length ac5) (.slice A6 S.ds.length ac6) S fs/\Below w.heap.size w w'
section
variable {base R:Nat} {w wr:World} {a b c d e f g:Value} {S:St} {fs:List SF}
theorem far8 (h:OwnSt base wr a b c d e f g S fs) (hR:R<base) (u0 u1 u2 u3 u4 u5 u6 u7:Value):
  OwnSt base ((((((((wr.setCell ⟨R,0,none⟩ u0).setCell ⟨R,1,none⟩ u1).setCell ⟨R,2,none⟩ u2).setCell ⟨R,3,none⟩ u3).setCell ⟨R,4,none⟩ u4).setCell ⟨R,5,none⟩ u5).setCell ⟨R,6,none⟩ u6).setCell ⟨R,7,none⟩ u7) a b c d e f g S fs:=by
 have hR:¬qv a b c d e f g fs R:=fun hk=>by have:=(h.lt _ hk).1;omega
 have step:∀(W:World) (j:Nat) (u:Value),OwnSt base W a b c d e f g S fs->OwnSt base (W.setCell ⟨R,j,none⟩ u) a b c d e f g S fs:=fun W j u hW=>hW.setFar (p:=⟨R,j,none⟩) hR u
 exact step _ _ _ (step _ _ _ (step _ _ _ (step _ _ _ (step _ _ _ (step _ _ _ (step _ _ _ (step _ _ _ h)))))))
theorem bel8 (hb:Below base w wr) (hR:base<=R) (u0 u1 u2 u3 u4 u5 u6 u7:Value):
  Below base w ((((((((wr.setCell ⟨R,0,none⟩ u0).setCell ⟨R,1,none⟩ u1).setCell ⟨R,2,none⟩ u2).setCell ⟨R,3,none⟩ u3).setCell ⟨R,4,none⟩ u4).setCell ⟨R,5,none⟩ u5).setCell ⟨R,6,none⟩ u6).setCell ⟨R,7,none⟩ u7):=by
 have step:∀(W:World) (j:Nat) (u:Value),Below base w W->Below base w (W.setCell ⟨R,j,none⟩ u):=fun W j u hW=>hW.setCell (p:=⟨R,j,none⟩) hR u
 exact step _ _ _ (step _ _ _ (step _ _ _ (step _ _ _ (step _ _ _ (step _ _ _ (step _ _ _ (step _ _ _ hb)))))))
theorem blk8 {u0 u1 u2 u3 u4 u5 u6 u7 v0 v1 v2 v3 v4 v5 v6 v7:Value} {t:TypeId} (h:Blk wr R t #[u0,u1,u2,u3,u4,u5,u6,u7]):
  Blk ((((((((wr.setCell ⟨R,0,none⟩ v0).setCell ⟨R,1,none⟩ v1).setCell ⟨R,2,none⟩ v2).setCell ⟨R,3,none⟩ v3).setCell ⟨R,4,none⟩ v4).setCell ⟨R,5,none⟩ v5).setCell ⟨R,6,none⟩ v6).setCell ⟨R,7,none⟩ v7) R t #[v0,v1,v2,v3,v4,v5,v6,v7]:=by
 have h0:Blk _ R t #[v0,u1,u2,u3,u4,u5,u6,u7]:=h.set_ 0 v0;have h1:Blk _ R t #[v0,v1,u2,u3,u4,u5,u6,u7]:=h0.set_ 1 v1;have h2:Blk _ R t #[v0,v1,v2,u3,u4,u5,u6,u7]:=h1.set_ 2 v2;have h3:Blk _ R t #[v0,v1,v2,v3,u4,u5,u6,u7]:=h2.set_ 3 v3;have h4:Blk _ R t #[v0,v1,v2,v3,v4,u5,u6,u7]:=h3.set_ 4 v4;have h5:Blk _ R t #[v0,v1,v2,v3,v4,v5,u6,u7]:=h4.set_ 5 v5;have h6:Blk _ R t #[v0,v1,v2,v3,v4,v5,v6,u7]:=h5.set_ 6 v6;exact h6.set_ 7 v7
theorem V9 {B:Nat} {cs:Array Value} {v0 v1 v2 v3 v4 v5 v6 v7:Value} {t:TypeId} (h:Blk wr B t cs) (gr:B≠R):
  Blk ((((((((wr.setCell ⟨R,0,none⟩ v0).setCell ⟨R,1,none⟩ v1).setCell ⟨R,2,none⟩ v2).setCell ⟨R,3,none⟩ v3).setCell ⟨R,4,none⟩ v4).setCell ⟨R,5,none⟩ v5).setCell ⟨R,6,none⟩ v6).setCell ⟨R,7,none⟩ v7) B t cs:=
 (((((((h.far (p:=⟨R,0,none⟩) gr v0).far (p:=⟨R,1,none⟩) gr v1).far (p:=⟨R,2,none⟩) gr v2).far (p:=⟨R,3,none⟩) gr v3).far (p:=⟨R,4,none⟩) gr v4).far (p:=⟨R,5,none⟩) gr v5).far (p:=⟨R,6,none⟩) gr v6).far (p:=⟨R,7,none⟩) gr v7
end
theorem z0X {k a b:Int} (h:actB k a b=true):k=9∨k=1∨k=2∨k=3∨k=4∨k=5∨k=6∨k=7∨k=8:=by
 have:=(z9Z h).1;omega
section
variable {S:St} {a b:Int}
theorem QI {k:Int} (hk:k=1∨k=2∨k=3) (h1:ze S=true) (h2:actB k a b=true):doS S k a b=chgS S k a b/\doN S k a b=b01 (chgB S k a b):=by
 unfold doS doN;rw[h1,h2];rcases hk with rfl|rfl|rfl<;>exact⟨rfl,rfl⟩
theorem z6r (h1:ze S=true) (h2:actB 4 a b=true):doS S 4 a b=jM S/\doN S 4 a b=b01 (js S):=by
 unfold doS doN;rw[h1,h2];exact⟨rfl,rfl⟩
theorem z6q (h1:ze S=true) (h2:actB 5 a b=true):doS S 5 a b=colS S a/\doN S 5 a b=b01 (colB S a):=by
 unfold doS doN;rw[h1,h2];exact⟨rfl,rfl⟩
theorem z5P (h1:ze S=true) (h2:actB 6 a b=true):doS S 6 a b=swpS S a b/\doN S 6 a b=b01 (swpB S a b):=by
 unfold doS doN;rw[h1,h2];exact⟨rfl,rfl⟩
theorem z6m (h1:ze S=true) (h2:actB 7 a b=true):doS S 7 a b=stoS S a b/\doN S 7 a b=b01 (stoB S a b):=by
 unfold doS doN;rw[h1,h2];exact⟨rfl,rfl⟩
theorem z5X (h1:ze S=true) (h2:actB 8 a b=true):doS S 8 a b=yC S a/\doN S 8 a b=b01 (yp S a):=by
 unfold doS doN;rw[h1,h2];exact⟨rfl,rfl⟩
theorem z6d (h1:ze S=true) (h2:actB 9 a b=true):doS S 9 a b=S/\doN S 9 a b=jr S.D.nn S.D.nl:=by
 unfold doS doN;rw[h1,h2];exact⟨rfl,rfl⟩
end
theorem z6N (b:Bool) (w:World):
  Calls Tryz.prog 76 #[.bool b] w fun e w'=>e= .returned (.int .i64 (b01 b))/\w=w':=by
 cases b
 ·go_enter Tryz.func76,Tryz.ntmps76
  go_wp2;go_ret
  exact⟨rfl,rfl⟩
 ·go_enter Tryz.func76,Tryz.ntmps76
  go_wp2;go_ret
  exact⟨rfl,rfl⟩
theorem z7Y (v0 v1 v2 v3 v4 v5 v6:Value) (S:St) (k a b:Int) (w:World) (h:RSt w v0 v1 v2 v3 v4 v5 v6 S) (hle:StLe S):
  Calls Tryz.prog 15 #[.agg #[v0,v1,v2,v3,v4,v5,v6,.int .i64 S.fund],.agg #[.int .i64 k,.int .i64 a,.int .i64 b]] w (z5L (doS S k a b) (doN S k a b) w):=by
 obtain⟨r,hr⟩:∃x,ze S=x:=⟨_,rfl⟩;obtain⟨q,hq⟩:∃x,actB k a b=x:=⟨_,rfl⟩;obtain⟨E,hE⟩:∃x,doS S k a b=x:=⟨_,rfl⟩;obtain⟨n,hn⟩:∃x,doN S k a b=x:=⟨_,rfl⟩;rw[hE,hn];have HR:=h_ hr;have HQ:=h_ hq;have HE:=h_ hE;have HN:=h_ hn;have HH:=h_ h;have gi:=h_ hle;clear hr hq hE hn h hle
 go_enter Tryz.func15,Tryz.ntmps15
 go_wp2_with fail
 refine(qM _ _ _ _ _ _ _ S r _ (HH.out.below bel_) HR).mono ?_
 rintro e w1 ⟨rfl,h9⟩;have gh:Blk w1 w.heap.size 34 #[v0,v1,v2,v3,v4,v5,v6,.int .i64 S.fund]:=Blk.below (((Blk.newAt rfl).alloc _).alloc _) h9 sz_;have fc:Blk w1 (w.heap.size+1) 41 #[.int .i64 k,.int .i64 a,.int .i64 b]:=Blk.below ((Blk.newAt (by simp)).alloc _) h9 sz_;have gu:Blk w1 (w.heap.size+1+1) 34 z8_:=Blk.below (Blk.newAt (by simp)) h9 sz_;have h8:Below w.heap.size w w1:=bel_
 clear h9;obtain⟨x_0,x_1,x_2,x_3,x_4,x_5,x_6,x_7⟩:=gh.c8;obtain⟨a_0,a_1,a_2⟩:=fc.c3
 cases r
 ·obtain⟨d1,d2⟩:=z2i (S:=S) (k:=k) (a:=a) (b:=b) (by rw[HR.out];rfl)
  obtain rfl:S=E:=by rw[<-HE.out];exact d1.symm
  obtain rfl:n= -1:=by rw[<-HN.out];exact d2
  clear d1 d2 HE HN
  go_wp2_with fail
  refine(qw _ _ _ _ _ _ _ S _ (HH.out.below h8) gi.out).mono ?_
  rintro e w9 ⟨A0,a0,A1,a1,A2,a2,A3,a3,A4,a4,A5,a5,A6,a6,fs,rfl,ho,hb⟩;have uC:=gu.below hb gu.lt;obtain⟨r_0,r_1,r_2,r_3,r_4,r_5,r_6,r_7,r_f0,r_f1,r_f2,r_f3,r_f4,r_f5,r_f6,r_f7⟩:=uC.b8;have FC:=uC.lt;have Fb:=h8.trans (hb.mono h8.size);have hRk:=gu.lt;have HO:=h_ ho;have HB9:=h_ Fb;have HF:=h_ (fun u0 u1 u2 u3 u4 u5 u6 u7=>(far8 (R:=w.heap.size+1+1) HO.out hRk u0 u1 u2 u3 u4 u5 u6 u7).mono h8.size);have HG:=h_ (fun u0 u1 u2 u3 u4 u5 u6 u7=>bel8 (R:=w.heap.size+1+1) HB9.out o_ u0 u1 u2 u3 u4 u5 u6 u7);clear ho hb Fb h8 gh fc gu uC hRk HO HB9 x_0 x_1 x_2 x_3 x_4 x_5 x_6 x_7 a_0 a_1 a_2;go_wp2;exact bodyPost_ret (v:= .tuple #[.agg (s8_ A0 A1 A2 A3 A4 A5 A6 a0 a1 a2 a3 a4 a5 a6 S),.int .i64 (-1)]) (by simp[results,Tryz.results15,go_sem,r_0,r_1,r_2,r_3,r_4,r_5,r_6,r_7,FC]) rfl ⟨_,_,_,_,_,_,_,_,_,_,_,_,_,_,_,rfl,HF.out _ _ _ _ _ _ _ _,HG.out _ _ _ _ _ _ _ _⟩
 ·go_wp2_with fail
  refine(z7O k a b q _ HQ.out).mono ?_
  rintro e w2 ⟨rfl,He⟩;have G7:=gh.below He gh.lt;have Fn:=fc.below He fc.lt;have GF:=gu.below He gu.lt;have Ha:=h8.trans (He.mono h8.size);clear gh fc gu h8 He x_0 x_1 x_2 x_3 x_4 x_5 x_6 x_7 a_0 a_1 a_2;obtain⟨x_0,x_1,x_2,x_3,x_4,x_5,x_6,x_7⟩:=G7.c8;obtain⟨a_0,a_1,a_2⟩:=Fn.c3;have mH:=G7.lt;have hAl:=Fn.lt
  cases q
  ·obtain⟨d1,d2⟩:=z2i (S:=S) (k:=k) (a:=a) (b:=b) (by rw[HR.out,HQ.out];rfl)
   obtain rfl:S=E:=by rw[<-HE.out];exact d1.symm
   obtain rfl:n= -1:=by rw[<-HN.out];exact d2
   clear d1 d2 HE HN
   go_wp2_with fail
   refine(qw _ _ _ _ _ _ _ S _ (HH.out.below Ha) gi.out).mono ?_
   rintro e w9 ⟨A0,a0,A1,a1,A2,a2,A3,a3,A4,a4,A5,a5,A6,a6,fs,rfl,ho,hb⟩;have uC:=GF.below hb GF.lt;obtain⟨r_0,r_1,r_2,r_3,r_4,r_5,r_6,r_7,r_f0,r_f1,r_f2,r_f3,r_f4,r_f5,r_f6,r_f7⟩:=uC.b8;have FC:=uC.lt;have Fb:=Ha.trans (hb.mono Ha.size);have hRk:=GF.lt;have HO:=h_ ho;have HB9:=h_ Fb;have HF:=h_ (fun u0 u1 u2 u3 u4 u5 u6 u7=>(far8 (R:=w.heap.size+1+1) HO.out hRk u0 u1 u2 u3 u4 u5 u6 u7).mono Ha.size);have HG:=h_ (fun u0 u1 u2 u3 u4 u5 u6 u7=>bel8 (R:=w.heap.size+1+1) HB9.out o_ u0 u1 u2 u3 u4 u5 u6 u7);clear ho hb Fb Ha G7 Fn GF uC hRk HO HB9 x_0 x_1 x_2 x_3 x_4 x_5 x_6 x_7 a_0 a_1 a_2 mH hAl;go_wp2;exact bodyPost_ret (v:= .tuple #[.agg (s8_ A0 A1 A2 A3 A4 A5 A6 a0 a1 a2 a3 a4 a5 a6 S),.int .i64 (-1)]) (by simp[results,Tryz.results15,go_sem,r_0,r_1,r_2,r_3,r_4,r_5,r_6,r_7,FC]) rfl ⟨_,_,_,_,_,_,_,_,_,_,_,_,_,_,_,rfl,HF.out _ _ _ _ _ _ _ _,HG.out _ _ _ _ _ _ _ _⟩
  ·rcases z0X HQ.out with rfl|hk
   ·obtain⟨d1,d2⟩:=z6d HR.out HQ.out
    obtain rfl:S=E:=by rw[<-HE.out];exact d1.symm
    have HP:Hid (jr S.D.nn S.D.nl=n):=h_ (by rw[<-HN.out];exact d2.symm);clear d1 d2 HE HN;obtain⟨w3,FW⟩:∃v,v=w2.alloc (.cells z8_ 34):=⟨_,rfl⟩;have GS:Below w2.heap.size w2 w3:=FW▸(aaj _ _).alloc (aaa _) _
    go_upto_region 6 with (fail)
    rw[<-FW];clear FW;have gU:=G7.below GS G7.lt;have GK:=GF.below GS GF.lt;have Hc:=Ha.trans (GS.mono Ha.size);clear G7 Fn GF Ha GS x_0 x_1 x_2 x_3 x_4 x_5 x_6 x_7 a_0 a_1 a_2 mH hAl;obtain⟨x_0,x_1,x_2,x_3,x_4,x_5,x_6,x_7⟩:=gU.c8;have Gt:=gU.lt;have nJ:=GK.lt;have fE:Below w3.heap.size w3 w3.drew:=(aaj _ _).drew;refine vo (n:=6) (S:=fun w'=>w'.cell? ⟨w.heap.size,0,none⟩=some (v0)/\w'.cell? ⟨w.heap.size,1,none⟩=some (v1)/\w'.cell? ⟨w.heap.size,2,none⟩=some (v2)/\w'.cell? ⟨w.heap.size,3,none⟩=some (v3)/\w'.cell? ⟨w.heap.size,4,none⟩=some (v4)/\w'.cell? ⟨w.heap.size,5,none⟩=some (v5)/\w'.cell? ⟨w.heap.size,6,none⟩=some (v6)/\w'.cell? ⟨w.heap.size,7,none⟩=some (.int .i64 S.fund)) k_ ⟨x_0,x_1,x_2,x_3,x_4,x_5,x_6,x_7⟩ (fun hS=>?_)
    refine tE_ 0 rfl rfl ?_;(try simp only[lp_])
    refine tF_ 2 rfl ?_;(try simp only[lp_])
    refine tF_ 3 rfl ?_;(try simp only[lp_])
    refine zaz (i:=1) (j:=4) rfl rfl k_ (fun K hK=>?_) (fun K hK=>?_)
    ·rw[aao (by rfl)]
     go_simp
     go_at_call 68
     refine(qw _ _ _ _ _ _ _ S _ (HH.out.below (Hc.trans (fE.mono Hc.size))) gi.out).mono ?_
     rintro e w5 ⟨A0,a0,A1,a1,A2,a2,A3,a3,A4,a4,A5,a5,A6,a6,fs,rfl,ho,gf⟩;have gL:Below w3.heap.size w3 w5:=fE.trans (gf.mono fE.size);have HO:=h_ ho;clear gf ho
     go_wp2_with fail
     refine hK _ _ (fun _=>⟨(gL.cell (p:=⟨w.heap.size,0,none⟩) Gt).trans x_0,(gL.cell (p:=⟨w.heap.size,1,none⟩) Gt).trans x_1,(gL.cell (p:=⟨w.heap.size,2,none⟩) Gt).trans x_2,(gL.cell (p:=⟨w.heap.size,3,none⟩) Gt).trans x_3,(gL.cell (p:=⟨w.heap.size,4,none⟩) Gt).trans x_4,(gL.cell (p:=⟨w.heap.size,5,none⟩) Gt).trans x_5,(gL.cell (p:=⟨w.heap.size,6,none⟩) Gt).trans x_6,(gL.cell (p:=⟨w.heap.size,7,none⟩) Gt).trans x_7⟩) (fun gl=>?_)
     have hS:=gl k_;clear hK K gl
     (try simp only[lp_])
     obtain⟨y_0,y_1,y_2,y_3,y_4,y_5,y_6,y_7⟩:=hS
     (refine qg (i:=4) rfl k_ (fun K hK=>?_));(rw[aao (by rfl)])
     go_simp;refine hK _ _ (fun _=>⟨y_0,y_1,y_2,y_3,y_4,y_5,y_6,y_7⟩) (fun gl=>?_)
     clear hK K gl
     (try simp only[lp_])
     clear y_0 y_1 y_2 y_3 y_4 y_5 y_6 y_7
     (refine qg (i:=5) rfl k_ (fun K hK=>?_));(rw[aao (by rfl)])
     go_simp
     go_at_call 22
     refine(vJ v2 v3 S.D.nn S.D.nl n _ (HH.out.dr.nn.below (Hc.trans (gL.mono Hc.size))) (HH.out.dr.nl.below (Hc.trans (gL.mono Hc.size))) HP.out).mono ?_
     rintro e w6 ⟨rfl,gk⟩;have gE:=gL.trans (gk.mono gL.size);have b9:=h_ (HO.out.kept gk);clear gk HO
     go_wp2_with fail
     refine hK _ _ (fun _=>⟨(gE.cell (p:=⟨w.heap.size,0,none⟩) Gt).trans x_0,(gE.cell (p:=⟨w.heap.size,1,none⟩) Gt).trans x_1,(gE.cell (p:=⟨w.heap.size,2,none⟩) Gt).trans x_2,(gE.cell (p:=⟨w.heap.size,3,none⟩) Gt).trans x_3,(gE.cell (p:=⟨w.heap.size,4,none⟩) Gt).trans x_4,(gE.cell (p:=⟨w.heap.size,5,none⟩) Gt).trans x_5,(gE.cell (p:=⟨w.heap.size,6,none⟩) Gt).trans x_6,(gE.cell (p:=⟨w.heap.size,7,none⟩) Gt).trans x_7⟩) (fun gl=>?_)
     clear hK K gl
     (try simp only[lp_])
     have Fo:=GK.below gE nJ;obtain⟨r_0,r_1,r_2,r_3,r_4,r_5,r_6,r_7,r_f0,r_f1,r_f2,r_f3,r_f4,r_f5,r_f6,r_f7⟩:=Fo.b8;have FC:=Fo.lt;have gJ:=Hc.trans (gE.mono Hc.size);have ri:=h_ gJ;have GL:=Hc.size;have HF:=h_ (fun u0 u1 u2 u3 u4 u5 u6 u7=>(far8 (R:=w.heap.size+1+1) b9.out nJ u0 u1 u2 u3 u4 u5 u6 u7).mono GL);have HG:=h_ (fun u0 u1 u2 u3 u4 u5 u6 u7=>bel8 (R:=w.heap.size+1+1) ri.out o_ u0 u1 u2 u3 u4 u5 u6 u7);clear b9 ri gJ Fo gE gL fE gU GK Hc Gt nJ x_0 x_1 x_2 x_3 x_4 x_5 x_6 x_7 GL
     (refine qg (i:=6) rfl k_ (fun K hK=>?_));(rw[aao (by rfl)])
     go_simp;refine hK _ _ (fun h=>by cases h) (fun _=>?_)
     clear hK K
     (try simp only[lp_])
     (refine qg (i:=7) rfl k_ (fun K hK=>?_));(rw[aao (by rfl)])
     go_simp;refine hK _ _ (fun h=>by cases h) (fun _=>?_)
     clear hK K
     (try simp only[lp_])
     refine ky k_ ?_ _
     go_wp2;exact bodyPost_ret (v:= .tuple #[.agg (s8_ A0 A1 A2 A3 A4 A5 A6 a0 a1 a2 a3 a4 a5 a6 S),.int .i64 n]) (by simp[results,Tryz.results15,go_sem,r_0,r_1,r_2,r_3,r_4,r_5,r_6,r_7,FC]) rfl ⟨_,_,_,_,_,_,_,_,_,_,_,_,_,_,_,rfl,HF.out _ _ _ _ _ _ _ _,HG.out _ _ _ _ _ _ _ _⟩
    ·rw[aao (by rfl)]
     go_simp;refine hK _ _ (fun _=>hS) (fun gl=>?_)
     clear hK K gl
     (try simp only[lp_])
     (refine qg (i:=1) rfl k_ (fun K hK=>?_));(rw[aao (by rfl)])
     go_simp
     go_at_call 68
     refine(qw _ _ _ _ _ _ _ S _ (HH.out.below (Hc.trans (fE.mono Hc.size))) gi.out).mono ?_
     rintro e w5 ⟨A0,a0,A1,a1,A2,a2,A3,a3,A4,a4,A5,a5,A6,a6,fs,rfl,ho,gf⟩;have gL:Below w3.heap.size w3 w5:=fE.trans (gf.mono fE.size);have HO:=h_ ho;clear gf ho
     go_wp2_with fail
     refine hK _ _ (fun _=>⟨(gL.cell (p:=⟨w.heap.size,0,none⟩) Gt).trans x_0,(gL.cell (p:=⟨w.heap.size,1,none⟩) Gt).trans x_1,(gL.cell (p:=⟨w.heap.size,2,none⟩) Gt).trans x_2,(gL.cell (p:=⟨w.heap.size,3,none⟩) Gt).trans x_3,(gL.cell (p:=⟨w.heap.size,4,none⟩) Gt).trans x_4,(gL.cell (p:=⟨w.heap.size,5,none⟩) Gt).trans x_5,(gL.cell (p:=⟨w.heap.size,6,none⟩) Gt).trans x_6,(gL.cell (p:=⟨w.heap.size,7,none⟩) Gt).trans x_7⟩) (fun gl=>?_)
     clear hK K gl
     (try simp only[lp_])
     (refine qg (i:=5) rfl k_ (fun K hK=>?_));(rw[aao (by rfl)])
     go_simp
     go_at_call 22
     refine(vJ v2 v3 S.D.nn S.D.nl n _ (HH.out.dr.nn.below (Hc.trans (gL.mono Hc.size))) (HH.out.dr.nl.below (Hc.trans (gL.mono Hc.size))) HP.out).mono ?_
     rintro e w6 ⟨rfl,gk⟩;have gE:=gL.trans (gk.mono gL.size);have b9:=h_ (HO.out.kept gk);clear gk HO
     go_wp2_with fail
     refine hK _ _ (fun _=>⟨(gE.cell (p:=⟨w.heap.size,0,none⟩) Gt).trans x_0,(gE.cell (p:=⟨w.heap.size,1,none⟩) Gt).trans x_1,(gE.cell (p:=⟨w.heap.size,2,none⟩) Gt).trans x_2,(gE.cell (p:=⟨w.heap.size,3,none⟩) Gt).trans x_3,(gE.cell (p:=⟨w.heap.size,4,none⟩) Gt).trans x_4,(gE.cell (p:=⟨w.heap.size,5,none⟩) Gt).trans x_5,(gE.cell (p:=⟨w.heap.size,6,none⟩) Gt).trans x_6,(gE.cell (p:=⟨w.heap.size,7,none⟩) Gt).trans x_7⟩) (fun gl=>?_)
     clear hK K gl
     (try simp only[lp_])
     have Fo:=GK.below gE nJ;obtain⟨r_0,r_1,r_2,r_3,r_4,r_5,r_6,r_7,r_f0,r_f1,r_f2,r_f3,r_f4,r_f5,r_f6,r_f7⟩:=Fo.b8;have FC:=Fo.lt;have gJ:=Hc.trans (gE.mono Hc.size);have ri:=h_ gJ;have GL:=Hc.size;have HF:=h_ (fun u0 u1 u2 u3 u4 u5 u6 u7=>(far8 (R:=w.heap.size+1+1) b9.out nJ u0 u1 u2 u3 u4 u5 u6 u7).mono GL);have HG:=h_ (fun u0 u1 u2 u3 u4 u5 u6 u7=>bel8 (R:=w.heap.size+1+1) ri.out o_ u0 u1 u2 u3 u4 u5 u6 u7);clear b9 ri gJ Fo gE gL fE gU GK Hc Gt nJ x_0 x_1 x_2 x_3 x_4 x_5 x_6 x_7 GL
     (refine qg (i:=6) rfl k_ (fun K hK=>?_));(rw[aao (by rfl)])
     go_simp;refine hK _ _ (fun h=>by cases h) (fun _=>?_)
     clear hK K
     (try simp only[lp_])
     (refine qg (i:=7) rfl k_ (fun K hK=>?_));(rw[aao (by rfl)])
     go_simp;refine hK _ _ (fun h=>by cases h) (fun _=>?_)
     clear hK K
     (try simp only[lp_])
     refine ky k_ ?_ _
     go_wp2;exact bodyPost_ret (v:= .tuple #[.agg (s8_ A0 A1 A2 A3 A4 A5 A6 a0 a1 a2 a3 a4 a5 a6 S),.int .i64 n]) (by simp[results,Tryz.results15,go_sem,r_0,r_1,r_2,r_3,r_4,r_5,r_6,r_7,FC]) rfl ⟨_,_,_,_,_,_,_,_,_,_,_,_,_,_,_,rfl,HF.out _ _ _ _ _ _ _ _,HG.out _ _ _ _ _ _ _ _⟩
   ·have HNW:=h_ (fun (w4:World) (hb:Below (w2.alloc (.cells z8_ 34)).heap.size (w2.alloc (.cells z8_ 34)) w4)=>(⟨Blk.below (Blk.newAt rfl) hb (by simp),Blk.below (GF.alloc _) hb (by have:=GF.lt;simp;omega),by have h2:=Ha.size;exact(Ha.alloc h2 _).trans (hb.mono (by simp;omega))⟩:Blk w4 w2.heap.size 34 z8_/\Blk w4 (w.heap.size+1+1) 34 z8_/\Below w.heap.size w w4))
    have C9:=h_ (HH.out.below (Ha.alloc Ha.size (.cells z8_ 34)));have hR2l:=GF.lt;have hb2s:=Ha.size
    go_upto_block 0 with (fail)
    go_cut [7] (fun s7 wx=>∃(bb:Bool) (B0:Option Addr) (b0:Nat) (B1:Option Addr) (b1:Nat) (B2:Option Addr) (b2:Nat) (B3:Option Addr) (b3:Nat) (B4:Option Addr) (b4:Nat) (B5:Option Addr) (b5:Nat) (B6:Option Addr) (b6:Nat) (fs:List SF),s7= .bool bb/\b01 bb=n/\OwnSt (w2.heap.size+1) wx (.slice B0 E.D.fn.length b0) (.slice B1 E.D.fl.length b1) (.slice B2 E.D.nn.length b2) (.slice B3 E.D.nl.length b3) (.slice B4 E.D.ss.length b4) (.slice B5 E.cs.length b5) (.slice B6 E.ds.length b6) E fs/\Blk wx w2.heap.size 34 #[.slice B0 E.D.fn.length b0,.slice B1 E.D.fl.length b1,.slice B2 E.D.nn.length b2,.slice B3 E.D.nl.length b3,.slice B4 E.D.ss.length b4,.slice B5 E.cs.length b5,.slice B6 E.ds.length b6,.int .i64 E.fund]/\Blk wx (w.heap.size+1+1) 34 z8_/\Below w.heap.size w wx)
    case first=>
     have Gv:¬w.heap.size+1+1=w2.heap.size:=o_
     rcases hk with rfl|rfl|rfl|rfl|rfl|rfl|rfl|rfl
     obtain⟨d1,d2⟩:=QI (.inl rfl) HR.out HQ.out;obtain⟨bb,gc⟩:∃x,chgB S 1 a b=x:=⟨_,rfl⟩;have HC:=h_ (yQ _ _ _ _ _ _ _ S 1 a b _ C9.out gi.out);rw[show chgS S 1 a b=E by rw[<-HE.out];exact d1.symm,gc] at HC;rw[HN.out,gc] at d2
     rotate_left
     obtain⟨d1,d2⟩:=QI (.inr (.inl rfl)) HR.out HQ.out;obtain⟨bb,gc⟩:∃x,chgB S 2 a b=x:=⟨_,rfl⟩;have HC:=h_ (yQ _ _ _ _ _ _ _ S 2 a b _ C9.out gi.out);rw[show chgS S 2 a b=E by rw[<-HE.out];exact d1.symm,gc] at HC;rw[HN.out,gc] at d2
     rotate_left
     obtain⟨d1,d2⟩:=QI (.inr (.inr rfl)) HR.out HQ.out;obtain⟨bb,gc⟩:∃x,chgB S 3 a b=x:=⟨_,rfl⟩;have HC:=h_ (yQ _ _ _ _ _ _ _ S 3 a b _ C9.out gi.out);rw[show chgS S 3 a b=E by rw[<-HE.out];exact d1.symm,gc] at HC;rw[HN.out,gc] at d2
     rotate_left
     obtain⟨d1,d2⟩:=z6r HR.out HQ.out;obtain⟨bb,gc⟩:∃x,js S=x:=⟨_,rfl⟩;have HC:=h_ (XG _ _ _ _ _ _ _ S _ C9.out gi.out);rw[show jM S=E by rw[<-HE.out];exact d1.symm,gc] at HC;rw[HN.out,gc] at d2
     rotate_left
     obtain⟨d1,d2⟩:=z6q HR.out HQ.out;obtain⟨bb,gc⟩:∃x,colB S a=x:=⟨_,rfl⟩;have HC:=h_ (z2x _ _ _ _ _ _ _ S a _ C9.out gi.out);rw[show colS S a=E by rw[<-HE.out];exact d1.symm,gc] at HC;rw[HN.out,gc] at d2
     rotate_left
     obtain⟨d1,d2⟩:=z5P HR.out HQ.out;obtain⟨bb,gc⟩:∃x,swpB S a b=x:=⟨_,rfl⟩;have HC:=h_ (Xq _ _ _ _ _ _ _ S a b _ C9.out gi.out);rw[show swpS S a b=E by rw[<-HE.out];exact d1.symm,gc] at HC;rw[HN.out,gc] at d2
     rotate_left
     obtain⟨d1,d2⟩:=z6m HR.out HQ.out;obtain⟨bb,gc⟩:∃x,stoB S a b=x:=⟨_,rfl⟩;have HC:=h_ (z0e _ _ _ _ _ _ _ S a b _ C9.out gi.out);rw[show stoS S a b=E by rw[<-HE.out];exact d1.symm,gc] at HC;rw[HN.out,gc] at d2
     rotate_left
     obtain⟨d1,d2⟩:=z5X HR.out HQ.out;obtain⟨bb,gc⟩:∃x,yp S a=x:=⟨_,rfl⟩;have HC:=h_ (z0a _ _ _ _ _ _ _ S a _ C9.out gi.out);rw[show yC S a=E by rw[<-HE.out];exact d1.symm,gc] at HC;rw[HN.out,gc] at d2
     rotate_left
     all_goals
      have HD:Hid (b01 bb=n):=h_ d2.symm;clear d1 d2 gc HE HN HR HQ
      go_wp2_with fail
      refine HC.out.mono ?_
      rintro e w4 ⟨B0,b0,B1,b1,B2,b2,B3,b3,B4,b4,B5,b5,B6,b6,fs,rfl,ho,hb⟩;obtain⟨BW,fd,Hp⟩:=HNW.out w4 hb;have HO:=h_ (ho.mono (show w2.heap.size+1<=_ by simp));have HB:=h_ Hp;have Uf:=h_ fd;have HZ4:=h_ BW;obtain⟨z_0,z_1,z_2,z_3,z_4,z_5,z_6,z_7,z_f0,z_f1,z_f2,z_f3,z_f4,z_f5,z_f6,z_f7⟩:=BW.b8;clear HC ho hb Hp fd BW HNW C9 x_0 x_1 x_2 x_3 x_4 x_5 x_6 x_7 a_0 a_1 a_2 mH hAl;go_wp2;go_meet
      exact⟨bb,_,_,_,_,_,_,_,_,_,_,_,_,_,_,fs,rfl,HD.out,far8 (R:=w2.heap.size) HO.out (aaC _) _ _ _ _ _ _ _ _,blk8 HZ4.out,V9 Uf.out Gv,bel8 HB.out hb2s _ _ _ _ _ _ _ _⟩
    case rest=>
     obtain⟨bb,B0,b0,B1,b1,B2,b2,B3,b3,B4,b4,B5,b5,B6,b6,fs,rfl,GE,hO,hZ,hR,hB⟩:=hcut;obtain⟨z_0,z_1,z_2,z_3,z_4,z_5,z_6,z_7⟩:=hZ.c8;obtain⟨r_0,r_1,r_2,r_3,r_4,r_5,r_6,r_7,r_f0,r_f1,r_f2,r_f3,r_f4,r_f5,r_f6,r_f7⟩:=hR.b8;have FC:=hR.lt;have HF:=h_ (fun u0 u1 u2 u3 u4 u5 u6 u7=>(far8 (R:=w.heap.size+1+1) hO o_ u0 u1 u2 u3 u4 u5 u6 u7).mono (show w.heap.size<=w2.heap.size+1 by omega));have HG:=h_ (fun u0 u1 u2 u3 u4 u5 u6 u7=>bel8 (R:=w.heap.size+1+1) hB o_ u0 u1 u2 u3 u4 u5 u6 u7);clear hO hZ hR hB HNW C9 G7 Fn GF Ha hR2l hb2s hk HR HQ HE HN HH gi x_0 x_1 x_2 x_3 x_4 x_5 x_6 x_7 a_0 a_1 a_2 mH hAl
     cases bb
     ·obtain rfl:n=0:=GE.symm
      go_wp2;exact bodyPost_ret (v:= .tuple #[.agg (s8_ B0 B1 B2 B3 B4 B5 B6 b0 b1 b2 b3 b4 b5 b6 E),.int .i64 0]) (by simp[results,Tryz.results15,go_sem,r_0,r_1,r_2,r_3,r_4,r_5,r_6,r_7,FC]) rfl ⟨_,_,_,_,_,_,_,_,_,_,_,_,_,_,_,rfl,HF.out _ _ _ _ _ _ _ _,HG.out _ _ _ _ _ _ _ _⟩
     ·obtain rfl:n=1:=GE.symm
      go_wp2;exact bodyPost_ret (v:= .tuple #[.agg (s8_ B0 B1 B2 B3 B4 B5 B6 b0 b1 b2 b3 b4 b5 b6 E),.int .i64 1]) (by simp[results,Tryz.results15,go_sem,r_0,r_1,r_2,r_3,r_4,r_5,r_6,r_7,FC]) rfl ⟨_,_,_,_,_,_,_,_,_,_,_,_,_,_,_,rfl,HF.out _ _ _ _ _ _ _ _,HG.out _ _ _ _ _ _ _ _⟩
theorem z6E (v0 v1 v2 v3 v4 v5 v6:Value) (S:St) (k a b:Int) (w:World) (h:RSt w v0 v1 v2 v3 v4 v5 v6 S) (hle:StLe S):
  Calls Tryz.prog 16 #[.agg #[v0,v1,v2,v3,v4,v5,v6,.int .i64 S.fund],.agg #[.int .i64 k,.int .i64 a,.int .i64 b]] w (z5L (doS S k a b) (doN S k a b) w):=by
 obtain⟨r,hr⟩:∃x,ze S=x:=⟨_,rfl⟩;obtain⟨q,hq⟩:∃x,actB k a b=x:=⟨_,rfl⟩;obtain⟨E,hE⟩:∃x,doS S k a b=x:=⟨_,rfl⟩;obtain⟨n,hn⟩:∃x,doN S k a b=x:=⟨_,rfl⟩;rw[hE,hn];have HR:=h_ hr;have HQ:=h_ hq;have HE:=h_ hE;have HN:=h_ hn;have HH:=h_ h;have gi:=h_ hle;clear hr hq hE hn h hle
 go_enter Tryz.func16,Tryz.ntmps16
 go_wp2_with fail
 refine(jm _ _ _ _ _ _ _ S _ (HH.out.below bel_) gi.out).mono ?_
 rintro e w1 ⟨A0,a0,A1,a1,A2,a2,A3,a3,A4,a4,A5,a5,A6,a6,fs,rfl,Hj,h9⟩;have gh:Blk w1 w.heap.size 34 #[v0,v1,v2,v3,v4,v5,v6,.int .i64 S.fund]:=Blk.below (((Blk.newAt rfl).alloc _).alloc _) h9 sz_;have fc:Blk w1 (w.heap.size+1) 41 #[.int .i64 k,.int .i64 a,.int .i64 b]:=Blk.below ((Blk.newAt (by simp)).alloc _) h9 sz_;have gu:Blk w1 (w.heap.size+1+1) 34 z8_:=Blk.below (Blk.newAt (by simp)) h9 sz_;have h8:Below w.heap.size w w1:=bel_
 have Gi:OwnSt (w.heap.size+1+1+1) w1 (.slice A0 S.D.fn.length a0) (.slice A1 S.D.fl.length a1) (.slice A2 S.D.nn.length a2) (.slice A3 S.D.nl.length a3) (.slice A4 S.D.ss.length a4) (.slice A5 S.cs.length a5) (.slice A6 S.ds.length a6) S fs:=by simpa using Hj
 clear h9 Hj;obtain⟨x_0,x_1,x_2,x_3,x_4,x_5,x_6,x_7⟩:=gh.c8;obtain⟨a_0,a_1,a_2⟩:=fc.c3;have mH:=gh.lt
 go_wp2_with fail
 obtain⟨w2,gS⟩:∃v,v=w1.alloc (.cells #[.slice A0 S.D.fn.length a0,.slice A1 S.D.fl.length a1,.slice A2 S.D.nn.length a2,.slice A3 S.D.nl.length a3,.slice A4 S.D.ss.length a4,.slice A5 S.cs.length a5,.slice A6 S.ds.length a6,.int .i64 S.fund] 34):=⟨_,rfl⟩;have GS:Below w1.heap.size w1 w2:=gS▸(aaj _ _).alloc (aaa _) _;have YM:Blk w2 w1.heap.size 34 #[.slice A0 S.D.fn.length a0,.slice A1 S.D.fl.length a1,.slice A2 S.D.nn.length a2,.slice A3 S.D.nl.length a3,.slice A4 S.D.ss.length a4,.slice A5 S.cs.length a5,.slice A6 S.ds.length a6,.int .i64 S.fund]:=gS▸Blk.newAt rfl;rw[<-gS];clear gS;have G7:=gh.below GS gh.lt;have Fn:=fc.below GS fc.lt;have GF:=gu.below GS gu.lt;have Cd:=Gi.kept GS;have Ha:=h8.trans (GS.mono h8.size);have hRZ:=gu.lt;clear gh fc gu Gi h8 GS x_0 x_1 x_2 x_3 x_4 x_5 x_6 x_7 a_0 a_1 a_2 mH;generalize w1.heap.size=Z at*;refine(j8 _ _ _ _ _ _ _ S r _ (HH.out.below Ha) HR).mono ?_
 rintro e w3 ⟨rfl,Hf⟩;have gU:=G7.below Hf G7.lt;have FE:=Fn.below Hf Fn.lt;have GK:=GF.below Hf GF.lt;have cZ:=YM.below Hf YM.lt;have GM:=Cd.kept Hf;have Hc:=Ha.trans (Hf.mono Ha.size);clear G7 Fn GF YM Cd Ha Hf;obtain⟨x_0,x_1,x_2,x_3,x_4,x_5,x_6,x_7⟩:=gU.c8;obtain⟨a_0,a_1,a_2⟩:=FE.c3;obtain⟨z_0,z_1,z_2,z_3,z_4,z_5,z_6,z_7⟩:=cZ.c8
 cases r
 ·obtain⟨d1,d2⟩:=z2i (S:=S) (k:=k) (a:=a) (b:=b) (by rw[HR.out];rfl)
  obtain rfl:S=E:=by rw[<-HE.out];exact d1.symm
  obtain rfl:n= -1:=by rw[<-HN.out];exact d2
  clear d1 d2 HE HN;obtain⟨r_0,r_1,r_2,r_3,r_4,r_5,r_6,r_7,r_f0,r_f1,r_f2,r_f3,r_f4,r_f5,r_f6,r_f7⟩:=GK.b8;have FC:=GK.lt;have HO:=h_ GM;have HB:=h_ Hc;have HF:=h_ (fun u0 u1 u2 u3 u4 u5 u6 u7=>(far8 (R:=w.heap.size+1+1) HO.out (aaC _) u0 u1 u2 u3 u4 u5 u6 u7).mono (show w.heap.size<=w.heap.size+1+1+1 by omega));have HG:=h_ (fun u0 u1 u2 u3 u4 u5 u6 u7=>bel8 (R:=w.heap.size+1+1) HB.out o_ u0 u1 u2 u3 u4 u5 u6 u7);clear Hc gU FE GK cZ GM HO HB x_0 x_1 x_2 x_3 x_4 x_5 x_6 x_7 a_0 a_1 a_2;go_wp2;exact bodyPost_ret (v:= .tuple #[.agg (s8_ A0 A1 A2 A3 A4 A5 A6 a0 a1 a2 a3 a4 a5 a6 S),.int .i64 (-1)]) (by simp[results,Tryz.results16,go_sem,r_0,r_1,r_2,r_3,r_4,r_5,r_6,r_7,FC]) rfl ⟨_,_,_,_,_,_,_,_,_,_,_,_,_,_,_,rfl,HF.out _ _ _ _ _ _ _ _,HG.out _ _ _ _ _ _ _ _⟩
 ·go_wp2_with fail
  refine(z7M k a b q _ HQ.out).mono ?_
  rintro e w4 ⟨rfl,Hv⟩;have G8:=gU.below Hv gU.lt;have Ca:=FE.below Hv FE.lt;have fd:=GK.below Hv GK.lt;have BW:=cZ.below Hv cZ.lt;have MP:=GM.kept Hv;have Hp:=Hc.trans (Hv.mono Hc.size);clear gU FE GK cZ GM Hc Hv x_0 x_1 x_2 x_3 x_4 x_5 x_6 x_7 a_0 a_1 a_2 z_0 z_1 z_2 z_3 z_4 z_5 z_6 z_7;obtain⟨x_0,x_1,x_2,x_3,x_4,x_5,x_6,x_7⟩:=G8.c8;obtain⟨a_0,a_1,a_2⟩:=Ca.c3;have mH:=G8.lt;obtain⟨z_0,z_1,z_2,z_3,z_4,z_5,z_6,z_7⟩:=BW.c8;have Ga:=BW.lt
  cases q
  ·obtain⟨d1,d2⟩:=z2i (S:=S) (k:=k) (a:=a) (b:=b) (by rw[HR.out,HQ.out];rfl)
   obtain rfl:S=E:=by rw[<-HE.out];exact d1.symm
   obtain rfl:n= -1:=by rw[<-HN.out];exact d2
   clear d1 d2 HE HN;obtain⟨r_0,r_1,r_2,r_3,r_4,r_5,r_6,r_7,r_f0,r_f1,r_f2,r_f3,r_f4,r_f5,r_f6,r_f7⟩:=fd.b8;have FC:=fd.lt;have HO:=h_ MP;have HB:=h_ Hp;have HF:=h_ (fun u0 u1 u2 u3 u4 u5 u6 u7=>(far8 (R:=w.heap.size+1+1) HO.out (aaC _) u0 u1 u2 u3 u4 u5 u6 u7).mono (show w.heap.size<=w.heap.size+1+1+1 by omega));have HG:=h_ (fun u0 u1 u2 u3 u4 u5 u6 u7=>bel8 (R:=w.heap.size+1+1) HB.out o_ u0 u1 u2 u3 u4 u5 u6 u7);clear Hp G8 Ca fd BW MP HO HB x_0 x_1 x_2 x_3 x_4 x_5 x_6 x_7 a_0 a_1 a_2;go_wp2;exact bodyPost_ret (v:= .tuple #[.agg (s8_ A0 A1 A2 A3 A4 A5 A6 a0 a1 a2 a3 a4 a5 a6 S),.int .i64 (-1)]) (by simp[results,Tryz.results16,go_sem,r_0,r_1,r_2,r_3,r_4,r_5,r_6,r_7,FC]) rfl ⟨_,_,_,_,_,_,_,_,_,_,_,_,_,_,_,rfl,HF.out _ _ _ _ _ _ _ _,HG.out _ _ _ _ _ _ _ _⟩
  ·rcases z0X HQ.out with rfl|hk
   ·obtain⟨d1,d2⟩:=z6d HR.out HQ.out
    obtain rfl:S=E:=by rw[<-HE.out];exact d1.symm
    have HP:Hid (jr S.D.nn S.D.nl=n):=h_ (by rw[<-HN.out];exact d2.symm);clear d1 d2 HE HN;have rB:=fd.lt;have fE:Below w4.heap.size w4 w4.drew:=(aaj _ _).drew
    go_upto_region 23 with (fail)
    refine vo (n:=5) (S:=fun w'=>w'.cell? ⟨Z,0,none⟩=some (.slice A0 S.D.fn.length a0)/\w'.cell? ⟨Z,1,none⟩=some (.slice A1 S.D.fl.length a1)/\w'.cell? ⟨Z,2,none⟩=some (.slice A2 S.D.nn.length a2)/\w'.cell? ⟨Z,3,none⟩=some (.slice A3 S.D.nl.length a3)/\w'.cell? ⟨Z,4,none⟩=some (.slice A4 S.D.ss.length a4)/\w'.cell? ⟨Z,5,none⟩=some (.slice A5 S.cs.length a5)/\w'.cell? ⟨Z,6,none⟩=some (.slice A6 S.ds.length a6)/\w'.cell? ⟨Z,7,none⟩=some (.int .i64 S.fund)/\w'.cell? ⟨w.heap.size,2,none⟩=some v2/\w'.cell? ⟨w.heap.size,3,none⟩=some v3) k_ ⟨z_0,z_1,z_2,z_3,z_4,z_5,z_6,z_7,x_2,x_3⟩ (fun hS=>?_)
    refine tE_ 0 rfl rfl ?_;(try simp only[lp_])
    refine tF_ 1 rfl ?_;(try simp only[lp_])
    refine tF_ 2 rfl ?_;(try simp only[lp_])
    (refine qg (i:=3) rfl k_ (fun K hK=>?_));(rw[aao (by rfl)])
    obtain⟨y_0,y_1,y_2,y_3,y_4,y_5,y_6,y_7,y_8,y_9⟩:=hS;go_simp;refine hK _ _ (fun _=>⟨y_0,y_1,y_2,y_3,y_4,y_5,y_6,y_7,y_8,y_9⟩) (fun gl=>?_)
    clear hK K gl y_0 y_1 y_2 y_3 y_4 y_5 y_6 y_7 y_8 y_9
    (try simp only[lp_])
    (refine qg (i:=4) rfl k_ (fun K hK=>?_));(rw[aao (by rfl)])
    go_simp
    go_at_call 75
    refine(J1 v2 v3 S.D.nn S.D.nl n _ (HH.out.dr.nn.below (Hp.trans (fE.mono Hp.size))) (HH.out.dr.nl.below (Hp.trans (fE.mono Hp.size))) HP.out).mono ?_
    rintro e w6 ⟨rfl,gk⟩;have gE:Below w4.heap.size w4 w6:=fE.trans (gk.mono fE.size);have b9:=h_ (MP.kept gE);clear gk
    go_wp2_with fail
    refine hK _ _ (fun _=>⟨(gE.cell (p:=⟨Z,0,none⟩) Ga).trans z_0,(gE.cell (p:=⟨Z,1,none⟩) Ga).trans z_1,(gE.cell (p:=⟨Z,2,none⟩) Ga).trans z_2,(gE.cell (p:=⟨Z,3,none⟩) Ga).trans z_3,(gE.cell (p:=⟨Z,4,none⟩) Ga).trans z_4,(gE.cell (p:=⟨Z,5,none⟩) Ga).trans z_5,(gE.cell (p:=⟨Z,6,none⟩) Ga).trans z_6,(gE.cell (p:=⟨Z,7,none⟩) Ga).trans z_7,(gE.cell (p:=⟨w.heap.size,2,none⟩) mH).trans x_2,(gE.cell (p:=⟨w.heap.size,3,none⟩) mH).trans x_3⟩) (fun gl=>?_)
    clear hK K gl
    (try simp only[lp_])
    have Fo:=fd.below gE rB;obtain⟨r_0,r_1,r_2,r_3,r_4,r_5,r_6,r_7,r_f0,r_f1,r_f2,r_f3,r_f4,r_f5,r_f6,r_f7⟩:=Fo.b8;have FC:=Fo.lt;have gJ:=Hp.trans (gE.mono Hp.size);have ri:=h_ gJ;have HF:=h_ (fun u0 u1 u2 u3 u4 u5 u6 u7=>(far8 (R:=w.heap.size+1+1) b9.out (aaC _) u0 u1 u2 u3 u4 u5 u6 u7).mono (show w.heap.size<=w.heap.size+1+1+1 by omega));have HG:=h_ (fun u0 u1 u2 u3 u4 u5 u6 u7=>bel8 (R:=w.heap.size+1+1) ri.out o_ u0 u1 u2 u3 u4 u5 u6 u7);clear b9 ri gJ Fo gE fE G8 Ca fd Hp BW MP rB x_0 x_1 x_2 x_3 x_4 x_5 x_6 x_7 a_0 a_1 a_2 mH z_0 z_1 z_2 z_3 z_4 z_5 z_6 z_7 Ga
    (refine qg (i:=5) rfl k_ (fun K hK=>?_));(rw[aao (by rfl)])
    go_simp;refine hK _ _ (fun h=>by cases h) (fun _=>?_)
    clear hK K
    (try simp only[lp_])
    (refine qg (i:=6) rfl k_ (fun K hK=>?_));(rw[aao (by rfl)])
    go_simp;refine hK _ _ (fun h=>by cases h) (fun _=>?_)
    clear hK K
    (try simp only[lp_])
    refine ky k_ ?_ _
    go_wp2;exact bodyPost_ret (v:= .tuple #[.agg (s8_ A0 A1 A2 A3 A4 A5 A6 a0 a1 a2 a3 a4 a5 a6 S),.int .i64 n]) (by simp[results,Tryz.results16,go_sem,r_0,r_1,r_2,r_3,r_4,r_5,r_6,r_7,FC]) rfl ⟨_,_,_,_,_,_,_,_,_,_,_,_,_,_,_,rfl,HF.out _ _ _ _ _ _ _ _,HG.out _ _ _ _ _ _ _ _⟩
   ·have C9:=h_ (HH.out.below Hp)
    have rB:=fd.lt;have hb4s:=Hp.size;have HZ:=h_ BW;have wj:=h_ fd;have cH:=h_ Hp;clear G8 Ca fd BW Hp
    go_upto_block 0 with (fail)
    go_cut [7] (fun s7 wx=>∃(bb:Bool) (B0:Option Addr) (b0:Nat) (B1:Option Addr) (b1:Nat) (B2:Option Addr) (b2:Nat) (B3:Option Addr) (b3:Nat) (B4:Option Addr) (b4:Nat) (B5:Option Addr) (b5:Nat) (B6:Option Addr) (b6:Nat) (fs:List SF),s7= .bool bb/\b01 bb=n/\OwnSt (Z+1) wx (.slice B0 E.D.fn.length b0) (.slice B1 E.D.fl.length b1) (.slice B2 E.D.nn.length b2) (.slice B3 E.D.nl.length b3) (.slice B4 E.D.ss.length b4) (.slice B5 E.cs.length b5) (.slice B6 E.ds.length b6) E fs/\Blk wx Z 34 #[.slice B0 E.D.fn.length b0,.slice B1 E.D.fl.length b1,.slice B2 E.D.nn.length b2,.slice B3 E.D.nl.length b3,.slice B4 E.D.ss.length b4,.slice B5 E.cs.length b5,.slice B6 E.ds.length b6,.int .i64 E.fund]/\Blk wx (w.heap.size+1+1) 34 z8_/\Below w.heap.size w wx)
    case first=>
     have Gv:¬w.heap.size+1+1=Z:=o_
     rcases hk with rfl|rfl|rfl|rfl|rfl|rfl|rfl|rfl
     obtain⟨d1,d2⟩:=QI (.inl rfl) HR.out HQ.out;obtain⟨bb,gc⟩:∃x,chgB S 1 a b=x:=⟨_,rfl⟩;have HC:=h_ (yO _ _ _ _ _ _ _ S 1 a b _ C9.out gi.out);rw[show chgS S 1 a b=E by rw[<-HE.out];exact d1.symm,gc] at HC;rw[HN.out,gc] at d2
     rotate_left
     obtain⟨d1,d2⟩:=QI (.inr (.inl rfl)) HR.out HQ.out;obtain⟨bb,gc⟩:∃x,chgB S 2 a b=x:=⟨_,rfl⟩;have HC:=h_ (yO _ _ _ _ _ _ _ S 2 a b _ C9.out gi.out);rw[show chgS S 2 a b=E by rw[<-HE.out];exact d1.symm,gc] at HC;rw[HN.out,gc] at d2
     rotate_left
     obtain⟨d1,d2⟩:=QI (.inr (.inr rfl)) HR.out HQ.out;obtain⟨bb,gc⟩:∃x,chgB S 3 a b=x:=⟨_,rfl⟩;have HC:=h_ (yO _ _ _ _ _ _ _ S 3 a b _ C9.out gi.out);rw[show chgS S 3 a b=E by rw[<-HE.out];exact d1.symm,gc] at HC;rw[HN.out,gc] at d2
     rotate_left
     obtain⟨d1,d2⟩:=z6r HR.out HQ.out;obtain⟨bb,gc⟩:∃x,js S=x:=⟨_,rfl⟩;have HC:=h_ (XN _ _ _ _ _ _ _ S _ C9.out gi.out);rw[show jM S=E by rw[<-HE.out];exact d1.symm,gc] at HC;rw[HN.out,gc] at d2
     rotate_left
     obtain⟨d1,d2⟩:=z6q HR.out HQ.out;obtain⟨bb,gc⟩:∃x,colB S a=x:=⟨_,rfl⟩;have HC:=h_ (z24 _ _ _ _ _ _ _ S a _ C9.out gi.out);rw[show colS S a=E by rw[<-HE.out];exact d1.symm,gc] at HC;rw[HN.out,gc] at d2
     rotate_left
     obtain⟨d1,d2⟩:=z5P HR.out HQ.out;obtain⟨bb,gc⟩:∃x,swpB S a b=x:=⟨_,rfl⟩;have HC:=h_ (Vs _ _ _ _ _ _ _ S a b _ C9.out gi.out);rw[show swpS S a b=E by rw[<-HE.out];exact d1.symm,gc] at HC;rw[HN.out,gc] at d2
     rotate_left
     obtain⟨d1,d2⟩:=z6m HR.out HQ.out;obtain⟨bb,gc⟩:∃x,stoB S a b=x:=⟨_,rfl⟩;have HC:=h_ (z0d _ _ _ _ _ _ _ S a b _ C9.out gi.out);rw[show stoS S a b=E by rw[<-HE.out];exact d1.symm,gc] at HC;rw[HN.out,gc] at d2
     rotate_left
     obtain⟨d1,d2⟩:=z5X HR.out HQ.out;obtain⟨bb,gc⟩:∃x,yp S a=x:=⟨_,rfl⟩;have HC:=h_ (z0l _ _ _ _ _ _ _ S a _ C9.out gi.out);rw[show yC S a=E by rw[<-HE.out];exact d1.symm,gc] at HC;rw[HN.out,gc] at d2
     rotate_left
     all_goals
      have HD:Hid (b01 bb=n):=h_ d2.symm;clear d1 d2 gc HE HN HR HQ
      go_wp2_with fail
      refine HC.out.mono ?_
      rintro e w5 ⟨B0,b0,B1,b1,B2,b2,B3,b3,B4,b4,B5,b5,B6,b6,fs,rfl,ho,hb⟩;have uE:=HZ.out.below hb Ga;have HR5:=h_ (wj.out.below hb rB);have HO:=h_ (ho.mono (show Z+1<=_ from Ga));have HB:=h_ (cH.out.trans (hb.mono hb4s));have HZ5:=h_ uE;clear HC ho hb HZ wj cH C9 x_0 x_1 x_2 x_3 x_4 x_5 x_6 x_7 a_0 a_1 a_2 mH z_0 z_1 z_2 z_3 z_4 z_5 z_6 z_7;obtain⟨z_0,z_1,z_2,z_3,z_4,z_5,z_6,z_7,z_f0,z_f1,z_f2,z_f3,z_f4,z_f5,z_f6,z_f7⟩:=uE.b8;clear uE;go_wp2;go_meet
      exact⟨bb,_,_,_,_,_,_,_,_,_,_,_,_,_,_,fs,rfl,HD.out,far8 (R:=Z) HO.out (aaC _) _ _ _ _ _ _ _ _,blk8 HZ5.out,V9 HR5.out Gv,bel8 HB.out (show w.heap.size<=Z by omega) _ _ _ _ _ _ _ _⟩
    case rest=>
     obtain⟨bb,B0,b0,B1,b1,B2,b2,B3,b3,B4,b4,B5,b5,B6,b6,fs,rfl,GE,hO,hZ,hR,hB⟩:=hcut;clear C9 rB hb4s HZ wj cH HR HQ HE HN HH gi hk MP x_0 x_1 x_2 x_3 x_4 x_5 x_6 x_7 a_0 a_1 a_2 mH z_0 z_1 z_2 z_3 z_4 z_5 z_6 z_7 Ga;obtain⟨z_0,z_1,z_2,z_3,z_4,z_5,z_6,z_7⟩:=hZ.c8;obtain⟨r_0,r_1,r_2,r_3,r_4,r_5,r_6,r_7,r_f0,r_f1,r_f2,r_f3,r_f4,r_f5,r_f6,r_f7⟩:=hR.b8;have FC:=hR.lt;have HBN:=h_ GE;clear GE r_0 r_1 r_2 r_3 r_4 r_5 r_6 r_7 r_f0 r_f1 r_f2 r_f3 r_f4 r_f5 r_f6 r_f7;have fr:Below wc.heap.size wc wc.drew:=(aaj _ _).drew
     go_upto_region 24 with (fail)
     refine vo (n:=3) (S:=fun w'=>w'.cell? ⟨Z,0,none⟩=some (.slice B0 E.D.fn.length b0)/\w'.cell? ⟨Z,1,none⟩=some (.slice B1 E.D.fl.length b1)/\w'.cell? ⟨Z,2,none⟩=some (.slice B2 E.D.nn.length b2)/\w'.cell? ⟨Z,3,none⟩=some (.slice B3 E.D.nl.length b3)/\w'.cell? ⟨Z,4,none⟩=some (.slice B4 E.D.ss.length b4)/\w'.cell? ⟨Z,5,none⟩=some (.slice B5 E.cs.length b5)/\w'.cell? ⟨Z,6,none⟩=some (.slice B6 E.ds.length b6)/\w'.cell? ⟨Z,7,none⟩=some (.int .i64 E.fund)) k_ ⟨z_0,z_1,z_2,z_3,z_4,z_5,z_6,z_7⟩ (fun hS=>?_)
     generalize wc.drew=w5 at*;have f9:=hR.below fr FC;obtain⟨r_0,r_1,r_2,r_3,r_4,r_5,r_6,r_7,r_f0,r_f1,r_f2,r_f3,r_f4,r_f5,r_f6,r_f7⟩:=f9.b8;have hRl5:=f9.lt;have HO:=h_ (hO.kept fr);have HB:=h_ (hB.trans (fr.mono hB.size));have HF:=h_ (fun u0 u1 u2 u3 u4 u5 u6 u7=>(far8 (R:=w.heap.size+1+1) HO.out o_ u0 u1 u2 u3 u4 u5 u6 u7).mono (show w.heap.size<=Z+1 by omega));have HG:=h_ (fun u0 u1 u2 u3 u4 u5 u6 u7=>bel8 (R:=w.heap.size+1+1) HB.out o_ u0 u1 u2 u3 u4 u5 u6 u7);clear hO hB HO HB fr hZ hR f9 z_0 z_1 z_2 z_3 z_4 z_5 z_6 z_7 FC;refine tE_ 0 rfl rfl ?_;(try simp only[lp_])
     refine tF_ 1 rfl ?_;(try simp only[lp_])
     (refine qg (i:=2) rfl k_ (fun K hK=>?_));(rw[aao (by rfl)])
     go_simp
     go_at_call 76
     refine(z6N bb _).mono ?_
     rintro e w6 ⟨rfl,rfl⟩;rw[HBN.out]
     go_wp2_with fail
     refine hK _ _ (fun _=>hS) (fun _=>?_)
     clear hK K
     (try simp only[lp_])
     (refine qg (i:=3) rfl k_ (fun K hK=>?_));(rw[aao (by rfl)])
     go_simp;refine hK _ _ (fun h=>by cases h) (fun _=>?_)
     clear hK K
     (try simp only[lp_])
     (refine qg (i:=4) rfl k_ (fun K hK=>?_));(rw[aao (by rfl)])
     go_simp;refine hK _ _ (fun h=>by cases h) (fun _=>?_)
     clear hK K
     (try simp only[lp_])
     refine ky k_ ?_ _
     go_wp2;exact bodyPost_ret (v:= .tuple #[.agg (s8_ B0 B1 B2 B3 B4 B5 B6 b0 b1 b2 b3 b4 b5 b6 E),.int .i64 n]) (by simp[results,Tryz.results16,go_sem,r_0,r_1,r_2,r_3,r_4,r_5,r_6,r_7,hRl5]) rfl ⟨_,_,_,_,_,_,_,_,_,_,_,_,_,_,_,rfl,HF.out _ _ _ _ _ _ _ _,HG.out _ _ _ _ _ _ _ _⟩
end Go.Proofs.YtnjcpljhmhdhkaaGreat
