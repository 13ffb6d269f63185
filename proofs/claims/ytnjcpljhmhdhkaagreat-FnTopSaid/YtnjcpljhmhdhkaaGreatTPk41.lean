/- part 41 -/
import Derived.Test.YtnjcpljhmhdhkaaGreatTPk38
import Derived.Test.YtnjcpljhmhdhkaaGreatTPk40
import Derived.Deep.DeepCutAuto
import Derived.Deep.CutBlock
set_option linter.unusedSimpArgs false
set_option linter.unusedVariables false
set_option maxRecDepth 100000
set_option maxHeartbeats 16000000
namespace Go.Proofs.YtnjcpljhmhdhkaaGreat
open Go.RowKit
def Jq (S:St) (n:Int) (w:World) (e:Ending) (w':World):Prop:=∃A0 ac0 A1 ac1 A2 ac2 A3 ac3 A4 ac4 A5 ac5 A6 ac6 fs,e= .returned (.tuple #[.agg #[.slice A0 S.D.fn.length ac0,.slice A1 S.D.fl.length ac1,.slice A2 S.D.nn.length ac2,.slice A3 S.D.nl.length ac3,.slice A4 S.D.ss.length ac4,.slice A5 S.cs.length ac5,.slice A6 S.ds.length ac6,.int .i64 S.fund],.int .i64 n])/\
 OwnSt w.heap.size w' (.slice A0 S.D.fn.length ac0) (.slice A1 S.D.fl.length ac1) (.slice A2 S.D.nn.length ac2) (.slice A3 S.D.nl.length ac3) (.slice A4 S.D.ss.length ac4) (.slice A5 S.cs.length ac5) (.slice A6 S.ds.length ac6) S fs/\Below w.heap.size w w'
section
variable {base R:Nat} {w wr:World} {a b c d e f g:Value} {S:St} {fs:List SF}
theorem far8 (h:OwnSt base wr a b c d e f g S fs) (hR:R<base) (u0 u1 u2 u3 u4 u5 u6 u7:Value):
  OwnSt base ((((((((wr.setCell ⟨R,0,none⟩ u0).setCell ⟨R,1,none⟩ u1).setCell ⟨R,2,none⟩ u2).setCell ⟨R,3,none⟩ u3).setCell ⟨R,4,none⟩ u4).setCell ⟨R,5,none⟩ u5).setCell ⟨R,6,none⟩ u6).setCell ⟨R,7,none⟩ u7) a b c d e f g S fs:=by
 have hR:¬vp a b c d e f g fs R:=fun hk=>by have:=(h.lt _ hk).1;omega
 have step:∀(W:World) (j:Nat) (u:Value),OwnSt base W a b c d e f g S fs->OwnSt base (W.setCell ⟨R,j,none⟩ u) a b c d e f g S fs:=fun W j u hW=>hW.setFar (p:=⟨R,j,none⟩) hR u
 exact step _ _ _ (step _ _ _ (step _ _ _ (step _ _ _ (step _ _ _ (step _ _ _ (step _ _ _ (step _ _ _ h)))))))
theorem bel8 (hb:Below base w wr) (hR:base<=R) (u0 u1 u2 u3 u4 u5 u6 u7:Value):
  Below base w ((((((((wr.setCell ⟨R,0,none⟩ u0).setCell ⟨R,1,none⟩ u1).setCell ⟨R,2,none⟩ u2).setCell ⟨R,3,none⟩ u3).setCell ⟨R,4,none⟩ u4).setCell ⟨R,5,none⟩ u5).setCell ⟨R,6,none⟩ u6).setCell ⟨R,7,none⟩ u7):=by
 have step:∀(W:World) (j:Nat) (u:Value),Below base w W->Below base w (W.setCell ⟨R,j,none⟩ u):=fun W j u hW=>hW.setCell (p:=⟨R,j,none⟩) hR u
 exact step _ _ _ (step _ _ _ (step _ _ _ (step _ _ _ (step _ _ _ (step _ _ _ (step _ _ _ (step _ _ _ hb)))))))
theorem blk8 {u0 u1 u2 u3 u4 u5 u6 u7 v0 v1 v2 v3 v4 v5 v6 v7:Value} {t:TypeId} (h:Blk wr R t #[u0,u1,u2,u3,u4,u5,u6,u7]):
  Blk ((((((((wr.setCell ⟨R,0,none⟩ v0).setCell ⟨R,1,none⟩ v1).setCell ⟨R,2,none⟩ v2).setCell ⟨R,3,none⟩ v3).setCell ⟨R,4,none⟩ v4).setCell ⟨R,5,none⟩ v5).setCell ⟨R,6,none⟩ v6).setCell ⟨R,7,none⟩ v7) R t #[v0,v1,v2,v3,v4,v5,v6,v7]:=by
 have h0:Blk _ R t #[v0,u1,u2,u3,u4,u5,u6,u7]:=h.set_ 0 v0;have h1:Blk _ R t #[v0,v1,u2,u3,u4,u5,u6,u7]:=h0.set_ 1 v1;have h2:Blk _ R t #[v0,v1,v2,u3,u4,u5,u6,u7]:=h1.set_ 2 v2;have h3:Blk _ R t #[v0,v1,v2,v3,u4,u5,u6,u7]:=h2.set_ 3 v3;have h4:Blk _ R t #[v0,v1,v2,v3,v4,u5,u6,u7]:=h3.set_ 4 v4;have h5:Blk _ R t #[v0,v1,v2,v3,v4,v5,u6,u7]:=h4.set_ 5 v5;have h6:Blk _ R t #[v0,v1,v2,v3,v4,v5,v6,u7]:=h5.set_ 6 v6;exact h6.set_ 7 v7
theorem JD {B:Nat} {cs:Array Value} {v0 v1 v2 v3 v4 v5 v6 v7:Value} {t:TypeId} (h:Blk wr B t cs) (Hv:B≠R):
  Blk ((((((((wr.setCell ⟨R,0,none⟩ v0).setCell ⟨R,1,none⟩ v1).setCell ⟨R,2,none⟩ v2).setCell ⟨R,3,none⟩ v3).setCell ⟨R,4,none⟩ v4).setCell ⟨R,5,none⟩ v5).setCell ⟨R,6,none⟩ v6).setCell ⟨R,7,none⟩ v7) B t cs:=
 (((((((h.far (p:=⟨R,0,none⟩) Hv v0).far (p:=⟨R,1,none⟩) Hv v1).far (p:=⟨R,2,none⟩) Hv v2).far (p:=⟨R,3,none⟩) Hv v3).far (p:=⟨R,4,none⟩) Hv v4).far (p:=⟨R,5,none⟩) Hv v5).far (p:=⟨R,6,none⟩) Hv v6).far (p:=⟨R,7,none⟩) Hv v7
end
theorem z0J {k a b:Int} (h:actB k a b=true):k=9∨k=1∨k=2∨k=3∨k=4∨k=5∨k=6∨k=7∨k=8:=by
 have:=(z1J h).1;omega
section
variable {S:St} {a b:Int}
theorem Q7 {k:Int} (hk:k=1∨k=2∨k=3) (h1:ze S=true) (h2:actB k a b=true):doS S k a b=chgS S k a b/\doN S k a b=b01 (chgB S k a b):=by
 unfold doS doN;rw[h1,h2];rcases hk with rfl|rfl|rfl<;>exact⟨rfl,rfl⟩
theorem z4z (h1:ze S=true) (h2:actB 4 a b=true):doS S 4 a b=jk S/\doN S 4 a b=b01 (jy S):=by
 unfold doS doN;rw[h1,h2];exact⟨rfl,rfl⟩
theorem z59 (h1:ze S=true) (h2:actB 5 a b=true):doS S 5 a b=colS S a/\doN S 5 a b=b01 (colB S a):=by
 unfold doS doN;rw[h1,h2];exact⟨rfl,rfl⟩
theorem z4H (h1:ze S=true) (h2:actB 6 a b=true):doS S 6 a b=swpS S a b/\doN S 6 a b=b01 (swpB S a b):=by
 unfold doS doN;rw[h1,h2];exact⟨rfl,rfl⟩
theorem z4p (h1:ze S=true) (h2:actB 7 a b=true):doS S 7 a b=stoS S a b/\doN S 7 a b=b01 (stoB S a b):=by
 unfold doS doN;rw[h1,h2];exact⟨rfl,rfl⟩
theorem z4P (h1:ze S=true) (h2:actB 8 a b=true):doS S 8 a b=yc S a/\doN S 8 a b=b01 (yk S a):=by
 unfold doS doN;rw[h1,h2];exact⟨rfl,rfl⟩
theorem z4U (h1:ze S=true) (h2:actB 9 a b=true):doS S 9 a b=S/\doN S 9 a b=qF S.D.nn S.D.nl:=by
 unfold doS doN;rw[h1,h2];exact⟨rfl,rfl⟩
end
theorem z5p (b:Bool) (w:World):
  Calls Tryz.prog 76 #[.bool b] w fun e w'=>e= .returned (.int .i64 (b01 b))/\w=w':=by
 cases b
 ·go_enter Tryz.func76,Tryz.ntmps76
  go_wp2;go_ret
  exact⟨rfl,rfl⟩
 ·go_enter Tryz.func76,Tryz.ntmps76
  go_wp2;go_ret
  exact⟨rfl,rfl⟩
theorem z5w (v0 v1 v2 v3 v4 v5 v6:Value) (S:St) (k a b:Int) (w:World) (h:RSt w v0 v1 v2 v3 v4 v5 v6 S) (hle:StLe S):
  Calls Tryz.prog 15 #[.agg #[v0,v1,v2,v3,v4,v5,v6,.int .i64 S.fund],.agg #[.int .i64 k,.int .i64 a,.int .i64 b]] w (Jq (doS S k a b) (doN S k a b) w):=by
 obtain⟨r,hr⟩:∃x,ze S=x:=⟨_,rfl⟩;obtain⟨q,hq⟩:∃x,actB k a b=x:=⟨_,rfl⟩;obtain⟨E,hE⟩:∃x,doS S k a b=x:=⟨_,rfl⟩;obtain⟨n,hn⟩:∃x,doN S k a b=x:=⟨_,rfl⟩;rw[hE,hn];have HR:=h_ hr;have HQ:=h_ hq;have HE:=h_ hE;have HN:=h_ hn;have HH:=h_ h;have gf:=h_ hle;clear hr hq hE hn h hle
 go_enter Tryz.func15,Tryz.ntmps15
 go_wp2_with fail
 refine(qA _ _ _ _ _ _ _ S r _ (HH.out.below bel_) HR).mono ?_
 rintro e w1 ⟨rfl,Hb⟩;have gB:Blk w1 w.heap.size 34 #[v0,v1,v2,v3,v4,v5,v6,.int .i64 S.fund]:=Blk.below (((Blk.newAt rfl).alloc _).alloc _) Hb sz_;have GT:Blk w1 (w.heap.size+1) 41 #[.int .i64 k,.int .i64 a,.int .i64 b]:=Blk.below ((Blk.newAt (by simp)).alloc _) Hb sz_;have H6:Blk w1 (w.heap.size+1+1) 34 z8_:=Blk.below (Blk.newAt (by simp)) Hb sz_;have Ha:Below w.heap.size w w1:=bel_
 clear Hb;obtain⟨x_0,x_1,x_2,x_3,x_4,x_5,x_6,x_7⟩:=gB.c8;obtain⟨a_0,a_1,a_2⟩:=GT.c3
 cases r
 ·obtain⟨d1,d2⟩:=z1l (S:=S) (k:=k) (a:=a) (b:=b) (by rw[HR.out];rfl)
  obtain rfl:S=E:=by rw[<-HE.out];exact d1.symm
  obtain rfl:n= -1:=by rw[<-HN.out];exact d2
  clear d1 d2 HE HN
  go_wp2_with fail
  refine(qR _ _ _ _ _ _ _ S _ (HH.out.below Ha) gf.out).mono ?_
  rintro e w9 ⟨A0,a0,A1,a1,A2,a2,A3,a3,A4,a4,A5,a5,A6,a6,fs,rfl,ho,hb⟩;have mq:=H6.below hb H6.lt;obtain⟨r_0,r_1,r_2,r_3,r_4,r_5,r_6,r_7,r_f0,r_f1,r_f2,r_f3,r_f4,r_f5,r_f6,r_f7⟩:=mq.b8;have Gx:=mq.lt;have Ci:=Ha.trans (hb.mono Ha.size);have hRk:=H6.lt;have HO:=h_ ho;have HB9:=h_ Ci;have HF:=h_ (fun u0 u1 u2 u3 u4 u5 u6 u7=>(far8 (R:=w.heap.size+1+1) HO.out hRk u0 u1 u2 u3 u4 u5 u6 u7).mono Ha.size);have HG:=h_ (fun u0 u1 u2 u3 u4 u5 u6 u7=>bel8 (R:=w.heap.size+1+1) HB9.out o_ u0 u1 u2 u3 u4 u5 u6 u7);clear ho hb Ci Ha gB GT H6 mq hRk HO HB9 x_0 x_1 x_2 x_3 x_4 x_5 x_6 x_7 a_0 a_1 a_2;go_wp2;exact bodyPost_ret (v:= .tuple #[.agg (s8_ A0 A1 A2 A3 A4 A5 A6 a0 a1 a2 a3 a4 a5 a6 S),.int .i64 (-1)]) (by simp[results,Tryz.results15,go_sem,r_0,r_1,r_2,r_3,r_4,r_5,r_6,r_7,Gx]) rfl ⟨_,_,_,_,_,_,_,_,_,_,_,_,_,_,_,rfl,HF.out _ _ _ _ _ _ _ _,HG.out _ _ _ _ _ _ _ _⟩
 ·go_wp2_with fail
  refine(z5k k a b q _ HQ.out).mono ?_
  rintro e w2 ⟨rfl,Hh⟩;have fi:=gB.below Hh gB.lt;have FA:=GT.below Hh GT.lt;have go:=H6.below Hh H6.lt;have Hc:=Ha.trans (Hh.mono Ha.size);clear gB GT H6 Ha Hh x_0 x_1 x_2 x_3 x_4 x_5 x_6 x_7 a_0 a_1 a_2;obtain⟨x_0,x_1,x_2,x_3,x_4,x_5,x_6,x_7⟩:=fi.c8;obtain⟨a_0,a_1,a_2⟩:=FA.c3;have MN:=fi.lt;have hAl:=FA.lt
  cases q
  ·obtain⟨d1,d2⟩:=z1l (S:=S) (k:=k) (a:=a) (b:=b) (by rw[HR.out,HQ.out];rfl)
   obtain rfl:S=E:=by rw[<-HE.out];exact d1.symm
   obtain rfl:n= -1:=by rw[<-HN.out];exact d2
   clear d1 d2 HE HN
   go_wp2_with fail
   refine(qR _ _ _ _ _ _ _ S _ (HH.out.below Hc) gf.out).mono ?_
   rintro e w9 ⟨A0,a0,A1,a1,A2,a2,A3,a3,A4,a4,A5,a5,A6,a6,fs,rfl,ho,hb⟩;have mq:=go.below hb go.lt;obtain⟨r_0,r_1,r_2,r_3,r_4,r_5,r_6,r_7,r_f0,r_f1,r_f2,r_f3,r_f4,r_f5,r_f6,r_f7⟩:=mq.b8;have Gx:=mq.lt;have Ci:=Hc.trans (hb.mono Hc.size);have hRk:=go.lt;have HO:=h_ ho;have HB9:=h_ Ci;have HF:=h_ (fun u0 u1 u2 u3 u4 u5 u6 u7=>(far8 (R:=w.heap.size+1+1) HO.out hRk u0 u1 u2 u3 u4 u5 u6 u7).mono Hc.size);have HG:=h_ (fun u0 u1 u2 u3 u4 u5 u6 u7=>bel8 (R:=w.heap.size+1+1) HB9.out o_ u0 u1 u2 u3 u4 u5 u6 u7);clear ho hb Ci Hc fi FA go mq hRk HO HB9 x_0 x_1 x_2 x_3 x_4 x_5 x_6 x_7 a_0 a_1 a_2 MN hAl;go_wp2;exact bodyPost_ret (v:= .tuple #[.agg (s8_ A0 A1 A2 A3 A4 A5 A6 a0 a1 a2 a3 a4 a5 a6 S),.int .i64 (-1)]) (by simp[results,Tryz.results15,go_sem,r_0,r_1,r_2,r_3,r_4,r_5,r_6,r_7,Gx]) rfl ⟨_,_,_,_,_,_,_,_,_,_,_,_,_,_,_,rfl,HF.out _ _ _ _ _ _ _ _,HG.out _ _ _ _ _ _ _ _⟩
  ·rcases z0J HQ.out with rfl|hk
   ·obtain⟨d1,d2⟩:=z4U HR.out HQ.out
    obtain rfl:S=E:=by rw[<-HE.out];exact d1.symm
    have HP:Hid (qF S.D.nn S.D.nl=n):=h_ (by rw[<-HN.out];exact d2.symm);clear d1 d2 HE HN;obtain⟨w3,f8⟩:∃v,v=w2.alloc (.cells z8_ 34):=⟨_,rfl⟩;have Cc:Below w2.heap.size w2 w3:=f8▸(aaj _ _).alloc (aaa _) _
    go_upto_region 6 with (fail)
    rw[<-f8];clear f8;have gS:=fi.below Cc fi.lt;have Ga:=go.below Cc go.lt;have He:=Hc.trans (Cc.mono Hc.size);clear fi FA go Hc Cc x_0 x_1 x_2 x_3 x_4 x_5 x_6 x_7 a_0 a_1 a_2 MN hAl;obtain⟨x_0,x_1,x_2,x_3,x_4,x_5,x_6,x_7⟩:=gS.c8;have Gs:=gS.lt;have MT:=Ga.lt;have fo:Below w3.heap.size w3 w3.drew:=(aaj _ _).drew;refine qD (n:=6) (S:=fun w'=>w'.cell? ⟨w.heap.size,0,none⟩=some (v0)/\w'.cell? ⟨w.heap.size,1,none⟩=some (v1)/\w'.cell? ⟨w.heap.size,2,none⟩=some (v2)/\w'.cell? ⟨w.heap.size,3,none⟩=some (v3)/\w'.cell? ⟨w.heap.size,4,none⟩=some (v4)/\w'.cell? ⟨w.heap.size,5,none⟩=some (v5)/\w'.cell? ⟨w.heap.size,6,none⟩=some (v6)/\w'.cell? ⟨w.heap.size,7,none⟩=some (.int .i64 S.fund)) k_ ⟨x_0,x_1,x_2,x_3,x_4,x_5,x_6,x_7⟩ (fun hS=>?_)
    refine tE_ 0 rfl rfl ?_;(try simp only[lp_])
    refine tF_ 2 rfl ?_;(try simp only[lp_])
    refine tF_ 3 rfl ?_;(try simp only[lp_])
    refine z86 (i:=1) (j:=4) rfl rfl k_ (fun K hK=>?_) (fun K hK=>?_)
    ·rw[aao (by rfl)]
     go_simp
     go_at_call 68
     refine(qR _ _ _ _ _ _ _ S _ (HH.out.below (He.trans (fo.mono He.size))) gf.out).mono ?_
     rintro e w5 ⟨A0,a0,A1,a1,A2,a2,A3,a3,A4,a4,A5,a5,A6,a6,fs,rfl,ho,gk⟩;have gQ:Below w3.heap.size w3 w5:=fo.trans (gk.mono fo.size);have HO:=h_ ho;clear gk ho
     go_wp2_with fail
     refine hK _ _ (fun _=>⟨(gQ.cell (p:=⟨w.heap.size,0,none⟩) Gs).trans x_0,(gQ.cell (p:=⟨w.heap.size,1,none⟩) Gs).trans x_1,(gQ.cell (p:=⟨w.heap.size,2,none⟩) Gs).trans x_2,(gQ.cell (p:=⟨w.heap.size,3,none⟩) Gs).trans x_3,(gQ.cell (p:=⟨w.heap.size,4,none⟩) Gs).trans x_4,(gQ.cell (p:=⟨w.heap.size,5,none⟩) Gs).trans x_5,(gQ.cell (p:=⟨w.heap.size,6,none⟩) Gs).trans x_6,(gQ.cell (p:=⟨w.heap.size,7,none⟩) Gs).trans x_7⟩) (fun gh=>?_)
     have hS:=gh k_;clear hK K gh
     (try simp only[lp_])
     obtain⟨y_0,y_1,y_2,y_3,y_4,y_5,y_6,y_7⟩:=hS
     (refine zm (i:=4) rfl k_ (fun K hK=>?_));(rw[aao (by rfl)])
     go_simp;refine hK _ _ (fun _=>⟨y_0,y_1,y_2,y_3,y_4,y_5,y_6,y_7⟩) (fun gh=>?_)
     clear hK K gh
     (try simp only[lp_])
     clear y_0 y_1 y_2 y_3 y_4 y_5 y_6 y_7
     (refine zm (i:=5) rfl k_ (fun K hK=>?_));(rw[aao (by rfl)])
     go_simp
     go_at_call 22
     refine(yO v2 v3 S.D.nn S.D.nl n _ (HH.out.dr.nn.below (He.trans (gQ.mono He.size))) (HH.out.dr.nl.below (He.trans (gQ.mono He.size))) HP.out).mono ?_
     rintro e w6 ⟨rfl,gJ⟩;have gF:=gQ.trans (gJ.mono gQ.size);have Cm:=h_ (HO.out.kept gJ);clear gJ HO
     go_wp2_with fail
     refine hK _ _ (fun _=>⟨(gF.cell (p:=⟨w.heap.size,0,none⟩) Gs).trans x_0,(gF.cell (p:=⟨w.heap.size,1,none⟩) Gs).trans x_1,(gF.cell (p:=⟨w.heap.size,2,none⟩) Gs).trans x_2,(gF.cell (p:=⟨w.heap.size,3,none⟩) Gs).trans x_3,(gF.cell (p:=⟨w.heap.size,4,none⟩) Gs).trans x_4,(gF.cell (p:=⟨w.heap.size,5,none⟩) Gs).trans x_5,(gF.cell (p:=⟨w.heap.size,6,none⟩) Gs).trans x_6,(gF.cell (p:=⟨w.heap.size,7,none⟩) Gs).trans x_7⟩) (fun gh=>?_)
     clear hK K gh
     (try simp only[lp_])
     have Fg:=Ga.below gF MT;obtain⟨r_0,r_1,r_2,r_3,r_4,r_5,r_6,r_7,r_f0,r_f1,r_f2,r_f3,r_f4,r_f5,r_f6,r_f7⟩:=Fg.b8;have Gx:=Fg.lt;have Gi:=He.trans (gF.mono He.size);have Nk:=h_ Gi;have GF:=He.size;have HF:=h_ (fun u0 u1 u2 u3 u4 u5 u6 u7=>(far8 (R:=w.heap.size+1+1) Cm.out MT u0 u1 u2 u3 u4 u5 u6 u7).mono GF);have HG:=h_ (fun u0 u1 u2 u3 u4 u5 u6 u7=>bel8 (R:=w.heap.size+1+1) Nk.out o_ u0 u1 u2 u3 u4 u5 u6 u7);clear Cm Nk Gi Fg gF gQ fo gS Ga He Gs MT x_0 x_1 x_2 x_3 x_4 x_5 x_6 x_7 GF
     (refine zm (i:=6) rfl k_ (fun K hK=>?_));(rw[aao (by rfl)])
     go_simp;refine hK _ _ (fun h=>by cases h) (fun _=>?_)
     clear hK K
     (try simp only[lp_])
     (refine zm (i:=7) rfl k_ (fun K hK=>?_));(rw[aao (by rfl)])
     go_simp;refine hK _ _ (fun h=>by cases h) (fun _=>?_)
     clear hK K
     (try simp only[lp_])
     refine jr k_ ?_ _
     go_wp2;exact bodyPost_ret (v:= .tuple #[.agg (s8_ A0 A1 A2 A3 A4 A5 A6 a0 a1 a2 a3 a4 a5 a6 S),.int .i64 n]) (by simp[results,Tryz.results15,go_sem,r_0,r_1,r_2,r_3,r_4,r_5,r_6,r_7,Gx]) rfl ⟨_,_,_,_,_,_,_,_,_,_,_,_,_,_,_,rfl,HF.out _ _ _ _ _ _ _ _,HG.out _ _ _ _ _ _ _ _⟩
    ·rw[aao (by rfl)]
     go_simp;refine hK _ _ (fun _=>hS) (fun gh=>?_)
     clear hK K gh
     (try simp only[lp_])
     (refine zm (i:=1) rfl k_ (fun K hK=>?_));(rw[aao (by rfl)])
     go_simp
     go_at_call 68
     refine(qR _ _ _ _ _ _ _ S _ (HH.out.below (He.trans (fo.mono He.size))) gf.out).mono ?_
     rintro e w5 ⟨A0,a0,A1,a1,A2,a2,A3,a3,A4,a4,A5,a5,A6,a6,fs,rfl,ho,gk⟩;have gQ:Below w3.heap.size w3 w5:=fo.trans (gk.mono fo.size);have HO:=h_ ho;clear gk ho
     go_wp2_with fail
     refine hK _ _ (fun _=>⟨(gQ.cell (p:=⟨w.heap.size,0,none⟩) Gs).trans x_0,(gQ.cell (p:=⟨w.heap.size,1,none⟩) Gs).trans x_1,(gQ.cell (p:=⟨w.heap.size,2,none⟩) Gs).trans x_2,(gQ.cell (p:=⟨w.heap.size,3,none⟩) Gs).trans x_3,(gQ.cell (p:=⟨w.heap.size,4,none⟩) Gs).trans x_4,(gQ.cell (p:=⟨w.heap.size,5,none⟩) Gs).trans x_5,(gQ.cell (p:=⟨w.heap.size,6,none⟩) Gs).trans x_6,(gQ.cell (p:=⟨w.heap.size,7,none⟩) Gs).trans x_7⟩) (fun gh=>?_)
     clear hK K gh
     (try simp only[lp_])
     (refine zm (i:=5) rfl k_ (fun K hK=>?_));(rw[aao (by rfl)])
     go_simp
     go_at_call 22
     refine(yO v2 v3 S.D.nn S.D.nl n _ (HH.out.dr.nn.below (He.trans (gQ.mono He.size))) (HH.out.dr.nl.below (He.trans (gQ.mono He.size))) HP.out).mono ?_
     rintro e w6 ⟨rfl,gJ⟩;have gF:=gQ.trans (gJ.mono gQ.size);have Cm:=h_ (HO.out.kept gJ);clear gJ HO
     go_wp2_with fail
     refine hK _ _ (fun _=>⟨(gF.cell (p:=⟨w.heap.size,0,none⟩) Gs).trans x_0,(gF.cell (p:=⟨w.heap.size,1,none⟩) Gs).trans x_1,(gF.cell (p:=⟨w.heap.size,2,none⟩) Gs).trans x_2,(gF.cell (p:=⟨w.heap.size,3,none⟩) Gs).trans x_3,(gF.cell (p:=⟨w.heap.size,4,none⟩) Gs).trans x_4,(gF.cell (p:=⟨w.heap.size,5,none⟩) Gs).trans x_5,(gF.cell (p:=⟨w.heap.size,6,none⟩) Gs).trans x_6,(gF.cell (p:=⟨w.heap.size,7,none⟩) Gs).trans x_7⟩) (fun gh=>?_)
     clear hK K gh
     (try simp only[lp_])
     have Fg:=Ga.below gF MT;obtain⟨r_0,r_1,r_2,r_3,r_4,r_5,r_6,r_7,r_f0,r_f1,r_f2,r_f3,r_f4,r_f5,r_f6,r_f7⟩:=Fg.b8;have Gx:=Fg.lt;have Gi:=He.trans (gF.mono He.size);have Nk:=h_ Gi;have GF:=He.size;have HF:=h_ (fun u0 u1 u2 u3 u4 u5 u6 u7=>(far8 (R:=w.heap.size+1+1) Cm.out MT u0 u1 u2 u3 u4 u5 u6 u7).mono GF);have HG:=h_ (fun u0 u1 u2 u3 u4 u5 u6 u7=>bel8 (R:=w.heap.size+1+1) Nk.out o_ u0 u1 u2 u3 u4 u5 u6 u7);clear Cm Nk Gi Fg gF gQ fo gS Ga He Gs MT x_0 x_1 x_2 x_3 x_4 x_5 x_6 x_7 GF
     (refine zm (i:=6) rfl k_ (fun K hK=>?_));(rw[aao (by rfl)])
     go_simp;refine hK _ _ (fun h=>by cases h) (fun _=>?_)
     clear hK K
     (try simp only[lp_])
     (refine zm (i:=7) rfl k_ (fun K hK=>?_));(rw[aao (by rfl)])
     go_simp;refine hK _ _ (fun h=>by cases h) (fun _=>?_)
     clear hK K
     (try simp only[lp_])
     refine jr k_ ?_ _
     go_wp2;exact bodyPost_ret (v:= .tuple #[.agg (s8_ A0 A1 A2 A3 A4 A5 A6 a0 a1 a2 a3 a4 a5 a6 S),.int .i64 n]) (by simp[results,Tryz.results15,go_sem,r_0,r_1,r_2,r_3,r_4,r_5,r_6,r_7,Gx]) rfl ⟨_,_,_,_,_,_,_,_,_,_,_,_,_,_,_,rfl,HF.out _ _ _ _ _ _ _ _,HG.out _ _ _ _ _ _ _ _⟩
   ·have HNW:=h_ (fun (w4:World) (hb:Below (w2.alloc (.cells z8_ 34)).heap.size (w2.alloc (.cells z8_ 34)) w4)=>(⟨Blk.below (Blk.newAt rfl) hb (by simp),Blk.below (go.alloc _) hb (by have:=go.lt;simp;omega),by have h2:=Hc.size;exact(Hc.alloc h2 _).trans (hb.mono (by simp;omega))⟩:Blk w4 w2.heap.size 34 z8_/\Blk w4 (w.heap.size+1+1) 34 z8_/\Below w.heap.size w w4))
    have bD:=h_ (HH.out.below (Hc.alloc Hc.size (.cells z8_ 34)));have hR2l:=go.lt;have hb2s:=Hc.size
    go_upto_block 0 with (fail)
    go_cut [7] (fun s7 wx=>∃(bb:Bool) (B0:Option Addr) (b0:Nat) (B1:Option Addr) (b1:Nat) (B2:Option Addr) (b2:Nat) (B3:Option Addr) (b3:Nat) (B4:Option Addr) (b4:Nat) (B5:Option Addr) (b5:Nat) (B6:Option Addr) (b6:Nat) (fs:List SF),s7= .bool bb/\b01 bb=n/\OwnSt (w2.heap.size+1) wx (.slice B0 E.D.fn.length b0) (.slice B1 E.D.fl.length b1) (.slice B2 E.D.nn.length b2) (.slice B3 E.D.nl.length b3) (.slice B4 E.D.ss.length b4) (.slice B5 E.cs.length b5) (.slice B6 E.ds.length b6) E fs/\Blk wx w2.heap.size 34 #[.slice B0 E.D.fn.length b0,.slice B1 E.D.fl.length b1,.slice B2 E.D.nn.length b2,.slice B3 E.D.nl.length b3,.slice B4 E.D.ss.length b4,.slice B5 E.cs.length b5,.slice B6 E.ds.length b6,.int .i64 E.fund]/\Blk wx (w.heap.size+1+1) 34 z8_/\Below w.heap.size w wx)
    case first=>
     have Gr:¬w.heap.size+1+1=w2.heap.size:=o_
     rcases hk with rfl|rfl|rfl|rfl|rfl|rfl|rfl|rfl
     obtain⟨d1,d2⟩:=Q7 (.inl rfl) HR.out HQ.out;obtain⟨bb,H4⟩:∃x,chgB S 1 a b=x:=⟨_,rfl⟩;have HC:=h_ (yN _ _ _ _ _ _ _ S 1 a b _ bD.out gf.out);rw[show chgS S 1 a b=E by rw[<-HE.out];exact d1.symm,H4] at HC;rw[HN.out,H4] at d2
     rotate_left
     obtain⟨d1,d2⟩:=Q7 (.inr (.inl rfl)) HR.out HQ.out;obtain⟨bb,H4⟩:∃x,chgB S 2 a b=x:=⟨_,rfl⟩;have HC:=h_ (yN _ _ _ _ _ _ _ S 2 a b _ bD.out gf.out);rw[show chgS S 2 a b=E by rw[<-HE.out];exact d1.symm,H4] at HC;rw[HN.out,H4] at d2
     rotate_left
     obtain⟨d1,d2⟩:=Q7 (.inr (.inr rfl)) HR.out HQ.out;obtain⟨bb,H4⟩:∃x,chgB S 3 a b=x:=⟨_,rfl⟩;have HC:=h_ (yN _ _ _ _ _ _ _ S 3 a b _ bD.out gf.out);rw[show chgS S 3 a b=E by rw[<-HE.out];exact d1.symm,H4] at HC;rw[HN.out,H4] at d2
     rotate_left
     obtain⟨d1,d2⟩:=z4z HR.out HQ.out;obtain⟨bb,H4⟩:∃x,jy S=x:=⟨_,rfl⟩;have HC:=h_ (VU _ _ _ _ _ _ _ S _ bD.out gf.out);rw[show jk S=E by rw[<-HE.out];exact d1.symm,H4] at HC;rw[HN.out,H4] at d2
     rotate_left
     obtain⟨d1,d2⟩:=z59 HR.out HQ.out;obtain⟨bb,H4⟩:∃x,colB S a=x:=⟨_,rfl⟩;have HC:=h_ (z0V _ _ _ _ _ _ _ S a _ bD.out gf.out);rw[show colS S a=E by rw[<-HE.out];exact d1.symm,H4] at HC;rw[HN.out,H4] at d2
     rotate_left
     obtain⟨d1,d2⟩:=z4H HR.out HQ.out;obtain⟨bb,H4⟩:∃x,swpB S a b=x:=⟨_,rfl⟩;have HC:=h_ (JX _ _ _ _ _ _ _ S a b _ bD.out gf.out);rw[show swpS S a b=E by rw[<-HE.out];exact d1.symm,H4] at HC;rw[HN.out,H4] at d2
     rotate_left
     obtain⟨d1,d2⟩:=z4p HR.out HQ.out;obtain⟨bb,H4⟩:∃x,stoB S a b=x:=⟨_,rfl⟩;have HC:=h_ (Xt _ _ _ _ _ _ _ S a b _ bD.out gf.out);rw[show stoS S a b=E by rw[<-HE.out];exact d1.symm,H4] at HC;rw[HN.out,H4] at d2
     rotate_left
     obtain⟨d1,d2⟩:=z4P HR.out HQ.out;obtain⟨bb,H4⟩:∃x,yk S a=x:=⟨_,rfl⟩;have HC:=h_ (Xx _ _ _ _ _ _ _ S a _ bD.out gf.out);rw[show yc S a=E by rw[<-HE.out];exact d1.symm,H4] at HC;rw[HN.out,H4] at d2
     rotate_left
     all_goals
      have HD:Hid (b01 bb=n):=h_ d2.symm;clear d1 d2 H4 HE HN HR HQ
      go_wp2_with fail
      refine HC.out.mono ?_
      rintro e w4 ⟨B0,b0,B1,b1,B2,b2,B3,b3,B4,b4,B5,b5,B6,b6,fs,rfl,ho,hb⟩;obtain⟨CL,GY,Ho⟩:=HNW.out w4 hb;have HO:=h_ (ho.mono (show w2.heap.size+1<=_ by simp));have HB:=h_ Ho;have rA:=h_ GY;have HZ4:=h_ CL;obtain⟨z_0,z_1,z_2,z_3,z_4,z_5,z_6,z_7,z_f0,z_f1,z_f2,z_f3,z_f4,z_f5,z_f6,z_f7⟩:=CL.b8;clear HC ho hb Ho GY CL HNW bD x_0 x_1 x_2 x_3 x_4 x_5 x_6 x_7 a_0 a_1 a_2 MN hAl;go_wp2;go_meet
      exact⟨bb,_,_,_,_,_,_,_,_,_,_,_,_,_,_,fs,rfl,HD.out,far8 (R:=w2.heap.size) HO.out (aaB _) _ _ _ _ _ _ _ _,blk8 HZ4.out,JD rA.out Gr,bel8 HB.out hb2s _ _ _ _ _ _ _ _⟩
    case rest=>
     obtain⟨bb,B0,b0,B1,b1,B2,b2,B3,b3,B4,b4,B5,b5,B6,b6,fs,rfl,Gh,hO,hZ,hR,hB⟩:=hcut;obtain⟨z_0,z_1,z_2,z_3,z_4,z_5,z_6,z_7⟩:=hZ.c8;obtain⟨r_0,r_1,r_2,r_3,r_4,r_5,r_6,r_7,r_f0,r_f1,r_f2,r_f3,r_f4,r_f5,r_f6,r_f7⟩:=hR.b8;have Gx:=hR.lt;have HF:=h_ (fun u0 u1 u2 u3 u4 u5 u6 u7=>(far8 (R:=w.heap.size+1+1) hO o_ u0 u1 u2 u3 u4 u5 u6 u7).mono (show w.heap.size<=w2.heap.size+1 by omega));have HG:=h_ (fun u0 u1 u2 u3 u4 u5 u6 u7=>bel8 (R:=w.heap.size+1+1) hB o_ u0 u1 u2 u3 u4 u5 u6 u7);clear hO hZ hR hB HNW bD fi FA go Hc hR2l hb2s hk HR HQ HE HN HH gf x_0 x_1 x_2 x_3 x_4 x_5 x_6 x_7 a_0 a_1 a_2 MN hAl
     cases bb
     ·obtain rfl:n=0:=Gh.symm
      go_wp2;exact bodyPost_ret (v:= .tuple #[.agg (s8_ B0 B1 B2 B3 B4 B5 B6 b0 b1 b2 b3 b4 b5 b6 E),.int .i64 0]) (by simp[results,Tryz.results15,go_sem,r_0,r_1,r_2,r_3,r_4,r_5,r_6,r_7,Gx]) rfl ⟨_,_,_,_,_,_,_,_,_,_,_,_,_,_,_,rfl,HF.out _ _ _ _ _ _ _ _,HG.out _ _ _ _ _ _ _ _⟩
     ·obtain rfl:n=1:=Gh.symm
      go_wp2;exact bodyPost_ret (v:= .tuple #[.agg (s8_ B0 B1 B2 B3 B4 B5 B6 b0 b1 b2 b3 b4 b5 b6 E),.int .i64 1]) (by simp[results,Tryz.results15,go_sem,r_0,r_1,r_2,r_3,r_4,r_5,r_6,r_7,Gx]) rfl ⟨_,_,_,_,_,_,_,_,_,_,_,_,_,_,_,rfl,HF.out _ _ _ _ _ _ _ _,HG.out _ _ _ _ _ _ _ _⟩
theorem z69 (v0 v1 v2 v3 v4 v5 v6:Value) (S:St) (k a b:Int) (w:World) (h:RSt w v0 v1 v2 v3 v4 v5 v6 S) (hle:StLe S):
  Calls Tryz.prog 16 #[.agg #[v0,v1,v2,v3,v4,v5,v6,.int .i64 S.fund],.agg #[.int .i64 k,.int .i64 a,.int .i64 b]] w (Jq (doS S k a b) (doN S k a b) w):=by
 obtain⟨r,hr⟩:∃x,ze S=x:=⟨_,rfl⟩;obtain⟨q,hq⟩:∃x,actB k a b=x:=⟨_,rfl⟩;obtain⟨E,hE⟩:∃x,doS S k a b=x:=⟨_,rfl⟩;obtain⟨n,hn⟩:∃x,doN S k a b=x:=⟨_,rfl⟩;rw[hE,hn];have HR:=h_ hr;have HQ:=h_ hq;have HE:=h_ hE;have HN:=h_ hn;have HH:=h_ h;have gf:=h_ hle;clear hr hq hE hn h hle
 go_enter Tryz.func16,Tryz.ntmps16
 go_wp2_with fail
 refine(jV _ _ _ _ _ _ _ S _ (HH.out.below bel_) gf.out).mono ?_
 rintro e w1 ⟨A0,a0,A1,a1,A2,a2,A3,a3,A4,a4,A5,a5,A6,a6,fs,rfl,Hj,Hb⟩;have gB:Blk w1 w.heap.size 34 #[v0,v1,v2,v3,v4,v5,v6,.int .i64 S.fund]:=Blk.below (((Blk.newAt rfl).alloc _).alloc _) Hb sz_;have GT:Blk w1 (w.heap.size+1) 41 #[.int .i64 k,.int .i64 a,.int .i64 b]:=Blk.below ((Blk.newAt (by simp)).alloc _) Hb sz_;have H6:Blk w1 (w.heap.size+1+1) 34 z8_:=Blk.below (Blk.newAt (by simp)) Hb sz_;have Ha:Below w.heap.size w w1:=bel_
 have Gt:OwnSt (w.heap.size+1+1+1) w1 (.slice A0 S.D.fn.length a0) (.slice A1 S.D.fl.length a1) (.slice A2 S.D.nn.length a2) (.slice A3 S.D.nl.length a3) (.slice A4 S.D.ss.length a4) (.slice A5 S.cs.length a5) (.slice A6 S.ds.length a6) S fs:=by simpa using Hj
 clear Hb Hj;obtain⟨x_0,x_1,x_2,x_3,x_4,x_5,x_6,x_7⟩:=gB.c8;obtain⟨a_0,a_1,a_2⟩:=GT.c3;have MN:=gB.lt
 go_wp2_with fail
 obtain⟨w2,gw⟩:∃v,v=w1.alloc (.cells #[.slice A0 S.D.fn.length a0,.slice A1 S.D.fl.length a1,.slice A2 S.D.nn.length a2,.slice A3 S.D.nl.length a3,.slice A4 S.D.ss.length a4,.slice A5 S.cs.length a5,.slice A6 S.ds.length a6,.int .i64 S.fund] 34):=⟨_,rfl⟩;have Cc:Below w1.heap.size w1 w2:=gw▸(aaj _ _).alloc (aaa _) _;have Nf:Blk w2 w1.heap.size 34 #[.slice A0 S.D.fn.length a0,.slice A1 S.D.fl.length a1,.slice A2 S.D.nn.length a2,.slice A3 S.D.nl.length a3,.slice A4 S.D.ss.length a4,.slice A5 S.cs.length a5,.slice A6 S.ds.length a6,.int .i64 S.fund]:=gw▸Blk.newAt rfl;rw[<-gw];clear gw;have fi:=gB.below Cc gB.lt;have FA:=GT.below Cc GT.lt;have go:=H6.below Cc H6.lt;have CW:=Gt.kept Cc;have Hc:=Ha.trans (Cc.mono Ha.size);have hRZ:=H6.lt;clear gB GT H6 Gt Ha Cc x_0 x_1 x_2 x_3 x_4 x_5 x_6 x_7 a_0 a_1 a_2 MN;generalize w1.heap.size=Z at*;refine(jc _ _ _ _ _ _ _ S r _ (HH.out.below Hc) HR).mono ?_
 rintro e w3 ⟨rfl,Hg⟩;have gS:=fi.below Hg fi.lt;have F0:=FA.below Hg FA.lt;have Ga:=go.below Hg go.lt;have Fh:=Nf.below Hg Nf.lt;have GI:=CW.kept Hg;have He:=Hc.trans (Hg.mono Hc.size);clear fi FA go Nf CW Hc Hg;obtain⟨x_0,x_1,x_2,x_3,x_4,x_5,x_6,x_7⟩:=gS.c8;obtain⟨a_0,a_1,a_2⟩:=F0.c3;obtain⟨z_0,z_1,z_2,z_3,z_4,z_5,z_6,z_7⟩:=Fh.c8
 cases r
 ·obtain⟨d1,d2⟩:=z1l (S:=S) (k:=k) (a:=a) (b:=b) (by rw[HR.out];rfl)
  obtain rfl:S=E:=by rw[<-HE.out];exact d1.symm
  obtain rfl:n= -1:=by rw[<-HN.out];exact d2
  clear d1 d2 HE HN;obtain⟨r_0,r_1,r_2,r_3,r_4,r_5,r_6,r_7,r_f0,r_f1,r_f2,r_f3,r_f4,r_f5,r_f6,r_f7⟩:=Ga.b8;have Gx:=Ga.lt;have HO:=h_ GI;have HB:=h_ He;have HF:=h_ (fun u0 u1 u2 u3 u4 u5 u6 u7=>(far8 (R:=w.heap.size+1+1) HO.out (aaB _) u0 u1 u2 u3 u4 u5 u6 u7).mono (show w.heap.size<=w.heap.size+1+1+1 by omega));have HG:=h_ (fun u0 u1 u2 u3 u4 u5 u6 u7=>bel8 (R:=w.heap.size+1+1) HB.out o_ u0 u1 u2 u3 u4 u5 u6 u7);clear He gS F0 Ga Fh GI HO HB x_0 x_1 x_2 x_3 x_4 x_5 x_6 x_7 a_0 a_1 a_2;go_wp2;exact bodyPost_ret (v:= .tuple #[.agg (s8_ A0 A1 A2 A3 A4 A5 A6 a0 a1 a2 a3 a4 a5 a6 S),.int .i64 (-1)]) (by simp[results,Tryz.results16,go_sem,r_0,r_1,r_2,r_3,r_4,r_5,r_6,r_7,Gx]) rfl ⟨_,_,_,_,_,_,_,_,_,_,_,_,_,_,_,rfl,HF.out _ _ _ _ _ _ _ _,HG.out _ _ _ _ _ _ _ _⟩
 ·go_wp2_with fail
  refine(z5m k a b q _ HQ.out).mono ?_
  rintro e w4 ⟨rfl,H5⟩;have G7:=gS.below H5 gS.lt;have bX:=F0.below H5 F0.lt;have GY:=Ga.below H5 Ga.lt;have CL:=Fh.below H5 Fh.lt;have Mq:=GI.kept H5;have Ho:=He.trans (H5.mono He.size);clear gS F0 Ga Fh GI He H5 x_0 x_1 x_2 x_3 x_4 x_5 x_6 x_7 a_0 a_1 a_2 z_0 z_1 z_2 z_3 z_4 z_5 z_6 z_7;obtain⟨x_0,x_1,x_2,x_3,x_4,x_5,x_6,x_7⟩:=G7.c8;obtain⟨a_0,a_1,a_2⟩:=bX.c3;have MN:=G7.lt;obtain⟨z_0,z_1,z_2,z_3,z_4,z_5,z_6,z_7⟩:=CL.c8;have Gb:=CL.lt
  cases q
  ·obtain⟨d1,d2⟩:=z1l (S:=S) (k:=k) (a:=a) (b:=b) (by rw[HR.out,HQ.out];rfl)
   obtain rfl:S=E:=by rw[<-HE.out];exact d1.symm
   obtain rfl:n= -1:=by rw[<-HN.out];exact d2
   clear d1 d2 HE HN;obtain⟨r_0,r_1,r_2,r_3,r_4,r_5,r_6,r_7,r_f0,r_f1,r_f2,r_f3,r_f4,r_f5,r_f6,r_f7⟩:=GY.b8;have Gx:=GY.lt;have HO:=h_ Mq;have HB:=h_ Ho;have HF:=h_ (fun u0 u1 u2 u3 u4 u5 u6 u7=>(far8 (R:=w.heap.size+1+1) HO.out (aaB _) u0 u1 u2 u3 u4 u5 u6 u7).mono (show w.heap.size<=w.heap.size+1+1+1 by omega));have HG:=h_ (fun u0 u1 u2 u3 u4 u5 u6 u7=>bel8 (R:=w.heap.size+1+1) HB.out o_ u0 u1 u2 u3 u4 u5 u6 u7);clear Ho G7 bX GY CL Mq HO HB x_0 x_1 x_2 x_3 x_4 x_5 x_6 x_7 a_0 a_1 a_2;go_wp2;exact bodyPost_ret (v:= .tuple #[.agg (s8_ A0 A1 A2 A3 A4 A5 A6 a0 a1 a2 a3 a4 a5 a6 S),.int .i64 (-1)]) (by simp[results,Tryz.results16,go_sem,r_0,r_1,r_2,r_3,r_4,r_5,r_6,r_7,Gx]) rfl ⟨_,_,_,_,_,_,_,_,_,_,_,_,_,_,_,rfl,HF.out _ _ _ _ _ _ _ _,HG.out _ _ _ _ _ _ _ _⟩
  ·rcases z0J HQ.out with rfl|hk
   ·obtain⟨d1,d2⟩:=z4U HR.out HQ.out
    obtain rfl:S=E:=by rw[<-HE.out];exact d1.symm
    have HP:Hid (qF S.D.nn S.D.nl=n):=h_ (by rw[<-HN.out];exact d2.symm);clear d1 d2 HE HN;have NK:=GY.lt;have fo:Below w4.heap.size w4 w4.drew:=(aaj _ _).drew
    go_upto_region 23 with (fail)
    refine qD (n:=5) (S:=fun w'=>w'.cell? ⟨Z,0,none⟩=some (.slice A0 S.D.fn.length a0)/\w'.cell? ⟨Z,1,none⟩=some (.slice A1 S.D.fl.length a1)/\w'.cell? ⟨Z,2,none⟩=some (.slice A2 S.D.nn.length a2)/\w'.cell? ⟨Z,3,none⟩=some (.slice A3 S.D.nl.length a3)/\w'.cell? ⟨Z,4,none⟩=some (.slice A4 S.D.ss.length a4)/\w'.cell? ⟨Z,5,none⟩=some (.slice A5 S.cs.length a5)/\w'.cell? ⟨Z,6,none⟩=some (.slice A6 S.ds.length a6)/\w'.cell? ⟨Z,7,none⟩=some (.int .i64 S.fund)/\w'.cell? ⟨w.heap.size,2,none⟩=some v2/\w'.cell? ⟨w.heap.size,3,none⟩=some v3) k_ ⟨z_0,z_1,z_2,z_3,z_4,z_5,z_6,z_7,x_2,x_3⟩ (fun hS=>?_)
    refine tE_ 0 rfl rfl ?_;(try simp only[lp_])
    refine tF_ 1 rfl ?_;(try simp only[lp_])
    refine tF_ 2 rfl ?_;(try simp only[lp_])
    (refine zm (i:=3) rfl k_ (fun K hK=>?_));(rw[aao (by rfl)])
    obtain⟨y_0,y_1,y_2,y_3,y_4,y_5,y_6,y_7,y_8,y_9⟩:=hS;go_simp;refine hK _ _ (fun _=>⟨y_0,y_1,y_2,y_3,y_4,y_5,y_6,y_7,y_8,y_9⟩) (fun gh=>?_)
    clear hK K gh y_0 y_1 y_2 y_3 y_4 y_5 y_6 y_7 y_8 y_9
    (try simp only[lp_])
    (refine zm (i:=4) rfl k_ (fun K hK=>?_));(rw[aao (by rfl)])
    go_simp
    go_at_call 75
    refine(Zu v2 v3 S.D.nn S.D.nl n _ (HH.out.dr.nn.below (Ho.trans (fo.mono Ho.size))) (HH.out.dr.nl.below (Ho.trans (fo.mono Ho.size))) HP.out).mono ?_
    rintro e w6 ⟨rfl,gJ⟩;have gF:Below w4.heap.size w4 w6:=fo.trans (gJ.mono fo.size);have Cm:=h_ (Mq.kept gF);clear gJ
    go_wp2_with fail
    refine hK _ _ (fun _=>⟨(gF.cell (p:=⟨Z,0,none⟩) Gb).trans z_0,(gF.cell (p:=⟨Z,1,none⟩) Gb).trans z_1,(gF.cell (p:=⟨Z,2,none⟩) Gb).trans z_2,(gF.cell (p:=⟨Z,3,none⟩) Gb).trans z_3,(gF.cell (p:=⟨Z,4,none⟩) Gb).trans z_4,(gF.cell (p:=⟨Z,5,none⟩) Gb).trans z_5,(gF.cell (p:=⟨Z,6,none⟩) Gb).trans z_6,(gF.cell (p:=⟨Z,7,none⟩) Gb).trans z_7,(gF.cell (p:=⟨w.heap.size,2,none⟩) MN).trans x_2,(gF.cell (p:=⟨w.heap.size,3,none⟩) MN).trans x_3⟩) (fun gh=>?_)
    clear hK K gh
    (try simp only[lp_])
    have Fg:=GY.below gF NK;obtain⟨r_0,r_1,r_2,r_3,r_4,r_5,r_6,r_7,r_f0,r_f1,r_f2,r_f3,r_f4,r_f5,r_f6,r_f7⟩:=Fg.b8;have Gx:=Fg.lt;have Gi:=Ho.trans (gF.mono Ho.size);have Nk:=h_ Gi;have HF:=h_ (fun u0 u1 u2 u3 u4 u5 u6 u7=>(far8 (R:=w.heap.size+1+1) Cm.out (aaB _) u0 u1 u2 u3 u4 u5 u6 u7).mono (show w.heap.size<=w.heap.size+1+1+1 by omega));have HG:=h_ (fun u0 u1 u2 u3 u4 u5 u6 u7=>bel8 (R:=w.heap.size+1+1) Nk.out o_ u0 u1 u2 u3 u4 u5 u6 u7);clear Cm Nk Gi Fg gF fo G7 bX GY Ho CL Mq NK x_0 x_1 x_2 x_3 x_4 x_5 x_6 x_7 a_0 a_1 a_2 MN z_0 z_1 z_2 z_3 z_4 z_5 z_6 z_7 Gb
    (refine zm (i:=5) rfl k_ (fun K hK=>?_));(rw[aao (by rfl)])
    go_simp;refine hK _ _ (fun h=>by cases h) (fun _=>?_)
    clear hK K
    (try simp only[lp_])
    (refine zm (i:=6) rfl k_ (fun K hK=>?_));(rw[aao (by rfl)])
    go_simp;refine hK _ _ (fun h=>by cases h) (fun _=>?_)
    clear hK K
    (try simp only[lp_])
    refine jr k_ ?_ _
    go_wp2;exact bodyPost_ret (v:= .tuple #[.agg (s8_ A0 A1 A2 A3 A4 A5 A6 a0 a1 a2 a3 a4 a5 a6 S),.int .i64 n]) (by simp[results,Tryz.results16,go_sem,r_0,r_1,r_2,r_3,r_4,r_5,r_6,r_7,Gx]) rfl ⟨_,_,_,_,_,_,_,_,_,_,_,_,_,_,_,rfl,HF.out _ _ _ _ _ _ _ _,HG.out _ _ _ _ _ _ _ _⟩
   ·have bD:=h_ (HH.out.below Ho)
    have NK:=GY.lt;have hb4s:=Ho.size;have HZ:=h_ CL;have RX:=h_ GY;have fY:=h_ Ho;clear G7 bX GY CL Ho
    go_upto_block 0 with (fail)
    go_cut [7] (fun s7 wx=>∃(bb:Bool) (B0:Option Addr) (b0:Nat) (B1:Option Addr) (b1:Nat) (B2:Option Addr) (b2:Nat) (B3:Option Addr) (b3:Nat) (B4:Option Addr) (b4:Nat) (B5:Option Addr) (b5:Nat) (B6:Option Addr) (b6:Nat) (fs:List SF),s7= .bool bb/\b01 bb=n/\OwnSt (Z+1) wx (.slice B0 E.D.fn.length b0) (.slice B1 E.D.fl.length b1) (.slice B2 E.D.nn.length b2) (.slice B3 E.D.nl.length b3) (.slice B4 E.D.ss.length b4) (.slice B5 E.cs.length b5) (.slice B6 E.ds.length b6) E fs/\Blk wx Z 34 #[.slice B0 E.D.fn.length b0,.slice B1 E.D.fl.length b1,.slice B2 E.D.nn.length b2,.slice B3 E.D.nl.length b3,.slice B4 E.D.ss.length b4,.slice B5 E.cs.length b5,.slice B6 E.ds.length b6,.int .i64 E.fund]/\Blk wx (w.heap.size+1+1) 34 z8_/\Below w.heap.size w wx)
    case first=>
     have Gr:¬w.heap.size+1+1=Z:=o_
     rcases hk with rfl|rfl|rfl|rfl|rfl|rfl|rfl|rfl
     obtain⟨d1,d2⟩:=Q7 (.inl rfl) HR.out HQ.out;obtain⟨bb,H4⟩:∃x,chgB S 1 a b=x:=⟨_,rfl⟩;have HC:=h_ (yL _ _ _ _ _ _ _ S 1 a b _ bD.out gf.out);rw[show chgS S 1 a b=E by rw[<-HE.out];exact d1.symm,H4] at HC;rw[HN.out,H4] at d2
     rotate_left
     obtain⟨d1,d2⟩:=Q7 (.inr (.inl rfl)) HR.out HQ.out;obtain⟨bb,H4⟩:∃x,chgB S 2 a b=x:=⟨_,rfl⟩;have HC:=h_ (yL _ _ _ _ _ _ _ S 2 a b _ bD.out gf.out);rw[show chgS S 2 a b=E by rw[<-HE.out];exact d1.symm,H4] at HC;rw[HN.out,H4] at d2
     rotate_left
     obtain⟨d1,d2⟩:=Q7 (.inr (.inr rfl)) HR.out HQ.out;obtain⟨bb,H4⟩:∃x,chgB S 3 a b=x:=⟨_,rfl⟩;have HC:=h_ (yL _ _ _ _ _ _ _ S 3 a b _ bD.out gf.out);rw[show chgS S 3 a b=E by rw[<-HE.out];exact d1.symm,H4] at HC;rw[HN.out,H4] at d2
     rotate_left
     obtain⟨d1,d2⟩:=z4z HR.out HQ.out;obtain⟨bb,H4⟩:∃x,jy S=x:=⟨_,rfl⟩;have HC:=h_ (Vz _ _ _ _ _ _ _ S _ bD.out gf.out);rw[show jk S=E by rw[<-HE.out];exact d1.symm,H4] at HC;rw[HN.out,H4] at d2
     rotate_left
     obtain⟨d1,d2⟩:=z59 HR.out HQ.out;obtain⟨bb,H4⟩:∃x,colB S a=x:=⟨_,rfl⟩;have HC:=h_ (Zb _ _ _ _ _ _ _ S a _ bD.out gf.out);rw[show colS S a=E by rw[<-HE.out];exact d1.symm,H4] at HC;rw[HN.out,H4] at d2
     rotate_left
     obtain⟨d1,d2⟩:=z4H HR.out HQ.out;obtain⟨bb,H4⟩:∃x,swpB S a b=x:=⟨_,rfl⟩;have HC:=h_ (Vk _ _ _ _ _ _ _ S a b _ bD.out gf.out);rw[show swpS S a b=E by rw[<-HE.out];exact d1.symm,H4] at HC;rw[HN.out,H4] at d2
     rotate_left
     obtain⟨d1,d2⟩:=z4p HR.out HQ.out;obtain⟨bb,H4⟩:∃x,stoB S a b=x:=⟨_,rfl⟩;have HC:=h_ (Qs _ _ _ _ _ _ _ S a b _ bD.out gf.out);rw[show stoS S a b=E by rw[<-HE.out];exact d1.symm,H4] at HC;rw[HN.out,H4] at d2
     rotate_left
     obtain⟨d1,d2⟩:=z4P HR.out HQ.out;obtain⟨bb,H4⟩:∃x,yk S a=x:=⟨_,rfl⟩;have HC:=h_ (Xr _ _ _ _ _ _ _ S a _ bD.out gf.out);rw[show yc S a=E by rw[<-HE.out];exact d1.symm,H4] at HC;rw[HN.out,H4] at d2
     rotate_left
     all_goals
      have HD:Hid (b01 bb=n):=h_ d2.symm;clear d1 d2 H4 HE HN HR HQ
      go_wp2_with fail
      refine HC.out.mono ?_
      rintro e w5 ⟨B0,b0,B1,b1,B2,b2,B3,b3,B4,b4,B5,b5,B6,b6,fs,rfl,ho,hb⟩;have M7:=HZ.out.below hb Gb;have HR5:=h_ (RX.out.below hb NK);have HO:=h_ (ho.mono (show Z+1<=_ from Gb));have HB:=h_ (fY.out.trans (hb.mono hb4s));have rk:=h_ M7;clear HC ho hb HZ RX fY bD x_0 x_1 x_2 x_3 x_4 x_5 x_6 x_7 a_0 a_1 a_2 MN z_0 z_1 z_2 z_3 z_4 z_5 z_6 z_7;obtain⟨z_0,z_1,z_2,z_3,z_4,z_5,z_6,z_7,z_f0,z_f1,z_f2,z_f3,z_f4,z_f5,z_f6,z_f7⟩:=M7.b8;clear M7;go_wp2;go_meet
      exact⟨bb,_,_,_,_,_,_,_,_,_,_,_,_,_,_,fs,rfl,HD.out,far8 (R:=Z) HO.out (aaB _) _ _ _ _ _ _ _ _,blk8 rk.out,JD HR5.out Gr,bel8 HB.out (show w.heap.size<=Z by omega) _ _ _ _ _ _ _ _⟩
    case rest=>
     obtain⟨bb,B0,b0,B1,b1,B2,b2,B3,b3,B4,b4,B5,b5,B6,b6,fs,rfl,Gh,hO,hZ,hR,hB⟩:=hcut;clear bD NK hb4s HZ RX fY HR HQ HE HN HH gf hk Mq x_0 x_1 x_2 x_3 x_4 x_5 x_6 x_7 a_0 a_1 a_2 MN z_0 z_1 z_2 z_3 z_4 z_5 z_6 z_7 Gb;obtain⟨z_0,z_1,z_2,z_3,z_4,z_5,z_6,z_7⟩:=hZ.c8;obtain⟨r_0,r_1,r_2,r_3,r_4,r_5,r_6,r_7,r_f0,r_f1,r_f2,r_f3,r_f4,r_f5,r_f6,r_f7⟩:=hR.b8;have Gx:=hR.lt;have HBN:=h_ Gh;clear Gh r_0 r_1 r_2 r_3 r_4 r_5 r_6 r_7 r_f0 r_f1 r_f2 r_f3 r_f4 r_f5 r_f6 r_f7;have GB:Below wc.heap.size wc wc.drew:=(aaj _ _).drew
     go_upto_region 24 with (fail)
     refine qD (n:=3) (S:=fun w'=>w'.cell? ⟨Z,0,none⟩=some (.slice B0 E.D.fn.length b0)/\w'.cell? ⟨Z,1,none⟩=some (.slice B1 E.D.fl.length b1)/\w'.cell? ⟨Z,2,none⟩=some (.slice B2 E.D.nn.length b2)/\w'.cell? ⟨Z,3,none⟩=some (.slice B3 E.D.nl.length b3)/\w'.cell? ⟨Z,4,none⟩=some (.slice B4 E.D.ss.length b4)/\w'.cell? ⟨Z,5,none⟩=some (.slice B5 E.cs.length b5)/\w'.cell? ⟨Z,6,none⟩=some (.slice B6 E.ds.length b6)/\w'.cell? ⟨Z,7,none⟩=some (.int .i64 E.fund)) k_ ⟨z_0,z_1,z_2,z_3,z_4,z_5,z_6,z_7⟩ (fun hS=>?_)
     generalize wc.drew=w5 at*;have fJ:=hR.below GB Gx;obtain⟨r_0,r_1,r_2,r_3,r_4,r_5,r_6,r_7,r_f0,r_f1,r_f2,r_f3,r_f4,r_f5,r_f6,r_f7⟩:=fJ.b8;have hRl5:=fJ.lt;have HO:=h_ (hO.kept GB);have HB:=h_ (hB.trans (GB.mono hB.size));have HF:=h_ (fun u0 u1 u2 u3 u4 u5 u6 u7=>(far8 (R:=w.heap.size+1+1) HO.out o_ u0 u1 u2 u3 u4 u5 u6 u7).mono (show w.heap.size<=Z+1 by omega));have HG:=h_ (fun u0 u1 u2 u3 u4 u5 u6 u7=>bel8 (R:=w.heap.size+1+1) HB.out o_ u0 u1 u2 u3 u4 u5 u6 u7);clear hO hB HO HB GB hZ hR fJ z_0 z_1 z_2 z_3 z_4 z_5 z_6 z_7 Gx;refine tE_ 0 rfl rfl ?_;(try simp only[lp_])
     refine tF_ 1 rfl ?_;(try simp only[lp_])
     (refine zm (i:=2) rfl k_ (fun K hK=>?_));(rw[aao (by rfl)])
     go_simp
     go_at_call 76
     refine(z5p bb _).mono ?_
     rintro e w6 ⟨rfl,rfl⟩;rw[HBN.out]
     go_wp2_with fail
     refine hK _ _ (fun _=>hS) (fun _=>?_)
     clear hK K
     (try simp only[lp_])
     (refine zm (i:=3) rfl k_ (fun K hK=>?_));(rw[aao (by rfl)])
     go_simp;refine hK _ _ (fun h=>by cases h) (fun _=>?_)
     clear hK K
     (try simp only[lp_])
     (refine zm (i:=4) rfl k_ (fun K hK=>?_));(rw[aao (by rfl)])
     go_simp;refine hK _ _ (fun h=>by cases h) (fun _=>?_)
     clear hK K
     (try simp only[lp_])
     refine jr k_ ?_ _
     go_wp2;exact bodyPost_ret (v:= .tuple #[.agg (s8_ B0 B1 B2 B3 B4 B5 B6 b0 b1 b2 b3 b4 b5 b6 E),.int .i64 n]) (by simp[results,Tryz.results16,go_sem,r_0,r_1,r_2,r_3,r_4,r_5,r_6,r_7,hRl5]) rfl ⟨_,_,_,_,_,_,_,_,_,_,_,_,_,_,_,rfl,HF.out _ _ _ _ _ _ _ _,HG.out _ _ _ _ _ _ _ _⟩
end Go.Proofs.YtnjcpljhmhdhkaaGreat
