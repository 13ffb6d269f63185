/- part 36 -/
import Derived.Test.YtnjcpljhmhdhkaaGreatEPk33
import Derived.Test.YtnjcpljhmhdhkaaGreatEPk35
import Derived.Deep.DeepCutAuto
import Derived.Deep.CutBlock
set_option linter.unusedSimpArgs false
set_option linter.unusedVariables false
set_option maxRecDepth 100000
set_option maxHeartbeats 16000000
namespace Go.Proofs.YtnjcpljhmhdhkaaGreat
open Go.RowKit
def z7L (S:St) (n:Int) (w:World) (e:Ending) (w':World):Prop:=∃A0 ac0 A1 ac1 A2 ac2 A3 ac3 A4 ac4 A5 ac5 A6 ac6 fs,e= .returned (.tuple #[.agg #[.slice A0 S.D.fn.length ac0,.slice A1 S.D.fl.length ac1,.slice A2 S.D.nn.length ac2,.slice A3 S.D.nl.length ac3,.slice A4 S.D.ss.length ac4,.slice A5 S.cs.length ac5,.slice A6 S.ds.length ac6,.int .i64 S.fund],.int .i64 n])/\
 OwnSt w.heap.size w' (.slice A0 S.D.fn.length ac0) (.slice A1 S.D.fl.length ac1) (.slice A2 S.D.nn.length ac2) (.slice A3 S.D.nl.length ac3) (.slice A4 S.D.ss.length ac4) (.slice A5 S.cs.length ac5) (.slice A6 S.ds.length ac6) S fs/\Below w.heap.size w w'
section
variable {base R:Nat} {w wr:World} {a b c d e f g:Value} {S:St} {fs:List SF}
theorem far8 (h:OwnSt base wr a b c d e f g S fs) (hR:R<base) (u0 u1 u2 u3 u4 u5 u6 u7:Value):
  OwnSt base ((((((((wr.setCell ⟨R,0,none⟩ u0).setCell ⟨R,1,none⟩ u1).setCell ⟨R,2,none⟩ u2).setCell ⟨R,3,none⟩ u3).setCell ⟨R,4,none⟩ u4).setCell ⟨R,5,none⟩ u5).setCell ⟨R,6,none⟩ u6).setCell ⟨R,7,none⟩ u7) a b c d e f g S fs:=by
 have hR:¬jY a b c d e f g fs R:=fun hk=>by have:=(h.lt _ hk).1;omega
 have step:∀(W:World) (j:Nat) (u:Value),OwnSt base W a b c d e f g S fs->OwnSt base (W.setCell ⟨R,j,none⟩ u) a b c d e f g S fs:=fun W j u hW=>hW.setFar (p:=⟨R,j,none⟩) hR u
 exact step _ _ _ (step _ _ _ (step _ _ _ (step _ _ _ (step _ _ _ (step _ _ _ (step _ _ _ (step _ _ _ h)))))))
theorem bel8 (hb:Below base w wr) (hR:base<=R) (u0 u1 u2 u3 u4 u5 u6 u7:Value):
  Below base w ((((((((wr.setCell ⟨R,0,none⟩ u0).setCell ⟨R,1,none⟩ u1).setCell ⟨R,2,none⟩ u2).setCell ⟨R,3,none⟩ u3).setCell ⟨R,4,none⟩ u4).setCell ⟨R,5,none⟩ u5).setCell ⟨R,6,none⟩ u6).setCell ⟨R,7,none⟩ u7):=by
 have step:∀(W:World) (j:Nat) (u:Value),Below base w W->Below base w (W.setCell ⟨R,j,none⟩ u):=fun W j u hW=>hW.setCell (p:=⟨R,j,none⟩) hR u
 exact step _ _ _ (step _ _ _ (step _ _ _ (step _ _ _ (step _ _ _ (step _ _ _ (step _ _ _ (step _ _ _ hb)))))))
theorem blk8 {u0 u1 u2 u3 u4 u5 u6 u7 v0 v1 v2 v3 v4 v5 v6 v7:Value} {t:TypeId} (h:Blk wr R t #[u0,u1,u2,u3,u4,u5,u6,u7]):
  Blk ((((((((wr.setCell ⟨R,0,none⟩ v0).setCell ⟨R,1,none⟩ v1).setCell ⟨R,2,none⟩ v2).setCell ⟨R,3,none⟩ v3).setCell ⟨R,4,none⟩ v4).setCell ⟨R,5,none⟩ v5).setCell ⟨R,6,none⟩ v6).setCell ⟨R,7,none⟩ v7) R t #[v0,v1,v2,v3,v4,v5,v6,v7]:=by
 have h0:Blk _ R t #[v0,u1,u2,u3,u4,u5,u6,u7]:=h.set_ 0 v0;have h1:Blk _ R t #[v0,v1,u2,u3,u4,u5,u6,u7]:=h0.set_ 1 v1;have h2:Blk _ R t #[v0,v1,v2,u3,u4,u5,u6,u7]:=h1.set_ 2 v2;have h3:Blk _ R t #[v0,v1,v2,v3,u4,u5,u6,u7]:=h2.set_ 3 v3;have h4:Blk _ R t #[v0,v1,v2,v3,v4,u5,u6,u7]:=h3.set_ 4 v4;have h5:Blk _ R t #[v0,v1,v2,v3,v4,v5,u6,u7]:=h4.set_ 5 v5;have h6:Blk _ R t #[v0,v1,v2,v3,v4,v5,v6,u7]:=h5.set_ 6 v6;exact h6.set_ 7 v7
theorem Jf {B:Nat} {cs:Array Value} {v0 v1 v2 v3 v4 v5 v6 v7:Value} {t:TypeId} (h:Blk wr B t cs) (gd:B≠R):
  Blk ((((((((wr.setCell ⟨R,0,none⟩ v0).setCell ⟨R,1,none⟩ v1).setCell ⟨R,2,none⟩ v2).setCell ⟨R,3,none⟩ v3).setCell ⟨R,4,none⟩ v4).setCell ⟨R,5,none⟩ v5).setCell ⟨R,6,none⟩ v6).setCell ⟨R,7,none⟩ v7) B t cs:=
 (((((((h.far (p:=⟨R,0,none⟩) gd v0).far (p:=⟨R,1,none⟩) gd v1).far (p:=⟨R,2,none⟩) gd v2).far (p:=⟨R,3,none⟩) gd v3).far (p:=⟨R,4,none⟩) gd v4).far (p:=⟨R,5,none⟩) gd v5).far (p:=⟨R,6,none⟩) gd v6).far (p:=⟨R,7,none⟩) gd v7
end
theorem z59 {k a b:Int} (h:actB k a b=true):k=9∨k=1∨k=2∨k=3∨k=4∨k=5∨k=6∨k=7∨k=8:=by
 have:=(z7p h).1;omega
section
variable {S:St} {a b:Int}
theorem z0q {k:Int} (hk:k=1∨k=2∨k=3) (h1:zd S=true) (h2:actB k a b=true):doS S k a b=chgS S k a b/\doN S k a b=b01 (chgB S k a b):=by
 unfold doS doN;rw[h1,h2];rcases hk with rfl|rfl|rfl<;>exact⟨rfl,rfl⟩
theorem z7Y (h1:zd S=true) (h2:actB 4 a b=true):doS S 4 a b=yu S/\doN S 4 a b=b01 (yd S):=by
 unfold doS doN;rw[h1,h2];exact⟨rfl,rfl⟩
theorem z8w (h1:zd S=true) (h2:actB 5 a b=true):doS S 5 a b=colS S a/\doN S 5 a b=b01 (colB S a):=by
 unfold doS doN;rw[h1,h2];exact⟨rfl,rfl⟩
theorem z7E (h1:zd S=true) (h2:actB 6 a b=true):doS S 6 a b=swpS S a b/\doN S 6 a b=b01 (swpB S a b):=by
 unfold doS doN;rw[h1,h2];exact⟨rfl,rfl⟩
theorem z7G (h1:zd S=true) (h2:actB 7 a b=true):doS S 7 a b=stoS S a b/\doN S 7 a b=b01 (stoB S a b):=by
 unfold doS doN;rw[h1,h2];exact⟨rfl,rfl⟩
theorem z8n (h1:zd S=true) (h2:actB 8 a b=true):doS S 8 a b=vH S a/\doN S 8 a b=b01 (yV S a):=by
 unfold doS doN;rw[h1,h2];exact⟨rfl,rfl⟩
theorem z8m (h1:zd S=true) (h2:actB 9 a b=true):doS S 9 a b=S/\doN S 9 a b=jD S.D.nn S.D.nl:=by
 unfold doS doN;rw[h1,h2];exact⟨rfl,rfl⟩
end
theorem z4V (v0 v1 v2 v3 v4 v5 v6:Value) (S:St) (k a b:Int) (w:World) (h:RSt w v0 v1 v2 v3 v4 v5 v6 S) (hle:StLe S):
  Calls Tryz.prog 15 #[.agg #[v0,v1,v2,v3,v4,v5,v6,.int .i64 S.fund],.agg #[.int .i64 k,.int .i64 a,.int .i64 b]] w (z7L (doS S k a b) (doN S k a b) w):=by
 obtain⟨r,hr⟩:∃x,zd S=x:=⟨_,rfl⟩;obtain⟨q,hq⟩:∃x,actB k a b=x:=⟨_,rfl⟩;obtain⟨E,hE⟩:∃x,doS S k a b=x:=⟨_,rfl⟩;obtain⟨n,hn⟩:∃x,doN S k a b=x:=⟨_,rfl⟩;rw[hE,hn];have HR:=h_ hr;have HQ:=h_ hq;have HE:=h_ hE;have HN:=h_ hn;have HH:=h_ h;have gf:=h_ hle;clear hr hq hE hn h hle
 go_enter Tryz.func15,Tryz.ntmps15
 go_wp2_with fail
 refine(qb _ _ _ _ _ _ _ S r _ (HH.out.below bel_) HR).mono ?_
 rintro e w1 ⟨rfl,h9⟩;have Ga:Blk w1 w.heap.size 34 #[v0,v1,v2,v3,v4,v5,v6,.int .i64 S.fund]:=Blk.below (((Blk.newAt rfl).alloc _).alloc _) h9 sz_;have GM:Blk w1 (w.heap.size+1) 41 #[.int .i64 k,.int .i64 a,.int .i64 b]:=Blk.below ((Blk.newAt (by simp)).alloc _) h9 sz_;have Hx:Blk w1 (w.heap.size+1+1) 34 z8_:=Blk.below (Blk.newAt (by simp)) h9 sz_;have h8:Below w.heap.size w w1:=bel_
 clear h9;obtain⟨x_0,x_1,x_2,x_3,x_4,x_5,x_6,x_7⟩:=Ga.c8;obtain⟨a_0,a_1,a_2⟩:=GM.c3
 cases r
 ·obtain⟨d1,d2⟩:=z62 (S:=S) (k:=k) (a:=a) (b:=b) (by rw[HR.out];rfl)
  obtain rfl:S=E:=by rw[<-HE.out];exact d1.symm
  obtain rfl:n= -1:=by rw[<-HN.out];exact d2
  clear d1 d2 HE HN
  go_wp2_with fail
  refine(qw _ _ _ _ _ _ _ S _ (HH.out.below h8) gf.out).mono ?_
  rintro e w9 ⟨A0,a0,A1,a1,A2,a2,A3,a3,A4,a4,A5,a5,A6,a6,fs,rfl,ho,hb⟩;have Bu:=Hx.below hb Hx.lt;obtain⟨r_0,r_1,r_2,r_3,r_4,r_5,r_6,r_7,r_f0,r_f1,r_f2,r_f3,r_f4,r_f5,r_f6,r_f7⟩:=Bu.b8;have Gw:=Bu.lt;have bO:=h8.trans (hb.mono h8.size);have Yc:=Hx.lt;have HO:=h_ ho;have Yd:=h_ bO;have HF:=h_ (fun u0 u1 u2 u3 u4 u5 u6 u7=>(far8 (R:=w.heap.size+1+1) HO.out Yc u0 u1 u2 u3 u4 u5 u6 u7).mono h8.size);have HG:=h_ (fun u0 u1 u2 u3 u4 u5 u6 u7=>bel8 (R:=w.heap.size+1+1) Yd.out o_ u0 u1 u2 u3 u4 u5 u6 u7);clear ho hb bO h8 Ga GM Hx Bu Yc HO Yd x_0 x_1 x_2 x_3 x_4 x_5 x_6 x_7 a_0 a_1 a_2;go_wp2;exact bodyPost_ret (v:= .tuple #[.agg #[.slice A0 S.D.fn.length a0,.slice A1 S.D.fl.length a1,.slice A2 S.D.nn.length a2,.slice A3 S.D.nl.length a3,.slice A4 S.D.ss.length a4,.slice A5 S.cs.length a5,.slice A6 S.ds.length a6,.int .i64 S.fund],.int .i64 (-1)]) (by simp[results,Tryz.results15,go_sem,r_0,r_1,r_2,r_3,r_4,r_5,r_6,r_7,Gw]) rfl ⟨_,_,_,_,_,_,_,_,_,_,_,_,_,_,_,rfl,HF.out _ _ _ _ _ _ _ _,HG.out _ _ _ _ _ _ _ _⟩
 ·go_wp2_with fail
  refine(z4P k a b q _ HQ.out).mono ?_
  rintro e w2 ⟨rfl,Hd⟩;have G9:=Ga.below Hd Ga.lt;have Ft:=GM.below Hd GM.lt;have gg:=Hx.below Hd Hx.lt;have Ha:=h8.trans (Hd.mono h8.size);clear Ga GM Hx h8 Hd x_0 x_1 x_2 x_3 x_4 x_5 x_6 x_7 a_0 a_1 a_2;obtain⟨x_0,x_1,x_2,x_3,x_4,x_5,x_6,x_7⟩:=G9.c8;obtain⟨a_0,a_1,a_2⟩:=Ft.c3;have Uc:=G9.lt;have ZF:=Ft.lt
  cases q
  ·obtain⟨d1,d2⟩:=z62 (S:=S) (k:=k) (a:=a) (b:=b) (by rw[HR.out,HQ.out];rfl)
   obtain rfl:S=E:=by rw[<-HE.out];exact d1.symm
   obtain rfl:n= -1:=by rw[<-HN.out];exact d2
   clear d1 d2 HE HN
   go_wp2_with fail
   refine(qw _ _ _ _ _ _ _ S _ (HH.out.below Ha) gf.out).mono ?_
   rintro e w9 ⟨A0,a0,A1,a1,A2,a2,A3,a3,A4,a4,A5,a5,A6,a6,fs,rfl,ho,hb⟩;have Bu:=gg.below hb gg.lt;obtain⟨r_0,r_1,r_2,r_3,r_4,r_5,r_6,r_7,r_f0,r_f1,r_f2,r_f3,r_f4,r_f5,r_f6,r_f7⟩:=Bu.b8;have Gw:=Bu.lt;have bO:=Ha.trans (hb.mono Ha.size);have Yc:=gg.lt;have HO:=h_ ho;have Yd:=h_ bO;have HF:=h_ (fun u0 u1 u2 u3 u4 u5 u6 u7=>(far8 (R:=w.heap.size+1+1) HO.out Yc u0 u1 u2 u3 u4 u5 u6 u7).mono Ha.size);have HG:=h_ (fun u0 u1 u2 u3 u4 u5 u6 u7=>bel8 (R:=w.heap.size+1+1) Yd.out o_ u0 u1 u2 u3 u4 u5 u6 u7);clear ho hb bO Ha G9 Ft gg Bu Yc HO Yd x_0 x_1 x_2 x_3 x_4 x_5 x_6 x_7 a_0 a_1 a_2 Uc ZF;go_wp2;exact bodyPost_ret (v:= .tuple #[.agg #[.slice A0 S.D.fn.length a0,.slice A1 S.D.fl.length a1,.slice A2 S.D.nn.length a2,.slice A3 S.D.nl.length a3,.slice A4 S.D.ss.length a4,.slice A5 S.cs.length a5,.slice A6 S.ds.length a6,.int .i64 S.fund],.int .i64 (-1)]) (by simp[results,Tryz.results15,go_sem,r_0,r_1,r_2,r_3,r_4,r_5,r_6,r_7,Gw]) rfl ⟨_,_,_,_,_,_,_,_,_,_,_,_,_,_,_,rfl,HF.out _ _ _ _ _ _ _ _,HG.out _ _ _ _ _ _ _ _⟩
  ·rcases z59 HQ.out with rfl|hk
   ·obtain⟨d1,d2⟩:=z8m HR.out HQ.out
    obtain rfl:S=E:=by rw[<-HE.out];exact d1.symm
    have HP:Hid (jD S.D.nn S.D.nl=n):=h_ (by rw[<-HN.out];exact d2.symm);clear d1 d2 HE HN;obtain⟨w3,GT⟩:∃v,v=w2.alloc (.cells z8_ 34):=⟨_,rfl⟩;have uu:Below w2.heap.size w2 w3:=GT▸(aaj _ _).alloc (aaa _) _
    go_upto_region 6 with (fail)
    rw[<-GT];clear GT;have Gr:=G9.below uu G9.lt;have gZ:=gg.below uu gg.lt;have Hc:=Ha.trans (uu.mono Ha.size);clear G9 Ft gg Ha uu x_0 x_1 x_2 x_3 x_4 x_5 x_6 x_7 a_0 a_1 a_2 Uc ZF;obtain⟨x_0,x_1,x_2,x_3,x_4,x_5,x_6,x_7⟩:=Gr.c8;have Gk:=Gr.lt;have mZ:=gZ.lt;have fK:Below w3.heap.size w3 w3.drew:=(aaj _ _).drew;refine jm (n:=6) (S:=fun w'=>w'.cell? ⟨w.heap.size,0,none⟩=some (v0)/\w'.cell? ⟨w.heap.size,1,none⟩=some (v1)/\w'.cell? ⟨w.heap.size,2,none⟩=some (v2)/\w'.cell? ⟨w.heap.size,3,none⟩=some (v3)/\w'.cell? ⟨w.heap.size,4,none⟩=some (v4)/\w'.cell? ⟨w.heap.size,5,none⟩=some (v5)/\w'.cell? ⟨w.heap.size,6,none⟩=some (v6)/\w'.cell? ⟨w.heap.size,7,none⟩=some (.int .i64 S.fund)) k_ ⟨x_0,x_1,x_2,x_3,x_4,x_5,x_6,x_7⟩ (fun hS=>?_)
    refine tE_ 0 rfl rfl ?_;(try simp only[Act.put,abi,aal,aap])
    refine tF_ 2 rfl ?_;(try simp only[Act.put,abi,aal,aap])
    refine tF_ 3 rfl ?_;(try simp only[Act.put,abi,aal,aap])
    refine z9k (i:=1) (j:=4) rfl rfl k_ (fun K hK=>?_) (fun K hK=>?_)
    ·rw[aao (by rfl)]
     go_simp
     go_at_call 68
     refine(qw _ _ _ _ _ _ _ S _ (HH.out.below (Hc.trans (fK.mono Hc.size))) gf.out).mono ?_
     rintro e w5 ⟨A0,a0,A1,a1,A2,a2,A3,a3,A4,a4,A5,a5,A6,a6,fs,rfl,ho,H0⟩;have gB:Below w3.heap.size w3 w5:=fK.trans (H0.mono fK.size);have HO:=h_ ho;clear H0 ho
     go_wp2_with fail
     refine hK _ _ (fun _=>⟨(gB.cell (p:=⟨w.heap.size,0,none⟩) Gk).trans x_0,(gB.cell (p:=⟨w.heap.size,1,none⟩) Gk).trans x_1,(gB.cell (p:=⟨w.heap.size,2,none⟩) Gk).trans x_2,(gB.cell (p:=⟨w.heap.size,3,none⟩) Gk).trans x_3,(gB.cell (p:=⟨w.heap.size,4,none⟩) Gk).trans x_4,(gB.cell (p:=⟨w.heap.size,5,none⟩) Gk).trans x_5,(gB.cell (p:=⟨w.heap.size,6,none⟩) Gk).trans x_6,(gB.cell (p:=⟨w.heap.size,7,none⟩) Gk).trans x_7⟩) (fun gp=>?_)
     have hS:=gp k_;clear hK K gp
     (try simp only[Act.put,abi,aal,aap])
     obtain⟨y_0,y_1,y_2,y_3,y_4,y_5,y_6,y_7⟩:=hS
     (refine zL (i:=4) rfl k_ (fun K hK=>?_));(rw[aao (by rfl)])
     go_simp;refine hK _ _ (fun _=>⟨y_0,y_1,y_2,y_3,y_4,y_5,y_6,y_7⟩) (fun gp=>?_)
     clear hK K gp
     (try simp only[Act.put,abi,aal,aap])
     clear y_0 y_1 y_2 y_3 y_4 y_5 y_6 y_7
     (refine zL (i:=5) rfl k_ (fun K hK=>?_));(rw[aao (by rfl)])
     go_simp
     go_at_call 22
     refine(vm v2 v3 S.D.nn S.D.nl n _ (HH.out.dr.nn.below (Hc.trans (gB.mono Hc.size))) (HH.out.dr.nl.below (Hc.trans (gB.mono Hc.size))) HP.out).mono ?_
     rintro e w6 ⟨rfl,gz⟩;have gX:=gB.trans (gz.mono gB.size);have Cd:=h_ (HO.out.kept gz);clear gz HO
     go_wp2_with fail
     refine hK _ _ (fun _=>⟨(gX.cell (p:=⟨w.heap.size,0,none⟩) Gk).trans x_0,(gX.cell (p:=⟨w.heap.size,1,none⟩) Gk).trans x_1,(gX.cell (p:=⟨w.heap.size,2,none⟩) Gk).trans x_2,(gX.cell (p:=⟨w.heap.size,3,none⟩) Gk).trans x_3,(gX.cell (p:=⟨w.heap.size,4,none⟩) Gk).trans x_4,(gX.cell (p:=⟨w.heap.size,5,none⟩) Gk).trans x_5,(gX.cell (p:=⟨w.heap.size,6,none⟩) Gk).trans x_6,(gX.cell (p:=⟨w.heap.size,7,none⟩) Gk).trans x_7⟩) (fun gp=>?_)
     clear hK K gp
     (try simp only[Act.put,abi,aal,aap])
     have fW:=gZ.below gX mZ;obtain⟨r_0,r_1,r_2,r_3,r_4,r_5,r_6,r_7,r_f0,r_f1,r_f2,r_f3,r_f4,r_f5,r_f6,r_f7⟩:=fW.b8;have Gw:=fW.lt;have gQ:=Hc.trans (gX.mono Hc.size);have rQ:=h_ gQ;have GG:=Hc.size;have HF:=h_ (fun u0 u1 u2 u3 u4 u5 u6 u7=>(far8 (R:=w.heap.size+1+1) Cd.out mZ u0 u1 u2 u3 u4 u5 u6 u7).mono GG);have HG:=h_ (fun u0 u1 u2 u3 u4 u5 u6 u7=>bel8 (R:=w.heap.size+1+1) rQ.out o_ u0 u1 u2 u3 u4 u5 u6 u7);clear Cd rQ gQ fW gX gB fK Gr gZ Hc Gk mZ x_0 x_1 x_2 x_3 x_4 x_5 x_6 x_7 GG
     (refine zL (i:=6) rfl k_ (fun K hK=>?_));(rw[aao (by rfl)])
     go_simp;refine hK _ _ (fun h=>by cases h) (fun _=>?_)
     clear hK K
     (try simp only[Act.put,abi,aal,aap])
     (refine zL (i:=7) rfl k_ (fun K hK=>?_));(rw[aao (by rfl)])
     go_simp;refine hK _ _ (fun h=>by cases h) (fun _=>?_)
     clear hK K
     (try simp only[Act.put,abi,aal,aap])
     refine yv k_ ?_ _
     go_wp2;exact bodyPost_ret (v:= .tuple #[.agg #[.slice A0 S.D.fn.length a0,.slice A1 S.D.fl.length a1,.slice A2 S.D.nn.length a2,.slice A3 S.D.nl.length a3,.slice A4 S.D.ss.length a4,.slice A5 S.cs.length a5,.slice A6 S.ds.length a6,.int .i64 S.fund],.int .i64 n]) (by simp[results,Tryz.results15,go_sem,r_0,r_1,r_2,r_3,r_4,r_5,r_6,r_7,Gw]) rfl ⟨_,_,_,_,_,_,_,_,_,_,_,_,_,_,_,rfl,HF.out _ _ _ _ _ _ _ _,HG.out _ _ _ _ _ _ _ _⟩
    ·rw[aao (by rfl)]
     go_simp;refine hK _ _ (fun _=>hS) (fun gp=>?_)
     clear hK K gp
     (try simp only[Act.put,abi,aal,aap])
     (refine zL (i:=1) rfl k_ (fun K hK=>?_));(rw[aao (by rfl)])
     go_simp
     go_at_call 68
     refine(qw _ _ _ _ _ _ _ S _ (HH.out.below (Hc.trans (fK.mono Hc.size))) gf.out).mono ?_
     rintro e w5 ⟨A0,a0,A1,a1,A2,a2,A3,a3,A4,a4,A5,a5,A6,a6,fs,rfl,ho,H0⟩;have gB:Below w3.heap.size w3 w5:=fK.trans (H0.mono fK.size);have HO:=h_ ho;clear H0 ho
     go_wp2_with fail
     refine hK _ _ (fun _=>⟨(gB.cell (p:=⟨w.heap.size,0,none⟩) Gk).trans x_0,(gB.cell (p:=⟨w.heap.size,1,none⟩) Gk).trans x_1,(gB.cell (p:=⟨w.heap.size,2,none⟩) Gk).trans x_2,(gB.cell (p:=⟨w.heap.size,3,none⟩) Gk).trans x_3,(gB.cell (p:=⟨w.heap.size,4,none⟩) Gk).trans x_4,(gB.cell (p:=⟨w.heap.size,5,none⟩) Gk).trans x_5,(gB.cell (p:=⟨w.heap.size,6,none⟩) Gk).trans x_6,(gB.cell (p:=⟨w.heap.size,7,none⟩) Gk).trans x_7⟩) (fun gp=>?_)
     clear hK K gp
     (try simp only[Act.put,abi,aal,aap])
     (refine zL (i:=5) rfl k_ (fun K hK=>?_));(rw[aao (by rfl)])
     go_simp
     go_at_call 22
     refine(vm v2 v3 S.D.nn S.D.nl n _ (HH.out.dr.nn.below (Hc.trans (gB.mono Hc.size))) (HH.out.dr.nl.below (Hc.trans (gB.mono Hc.size))) HP.out).mono ?_
     rintro e w6 ⟨rfl,gz⟩;have gX:=gB.trans (gz.mono gB.size);have Cd:=h_ (HO.out.kept gz);clear gz HO
     go_wp2_with fail
     refine hK _ _ (fun _=>⟨(gX.cell (p:=⟨w.heap.size,0,none⟩) Gk).trans x_0,(gX.cell (p:=⟨w.heap.size,1,none⟩) Gk).trans x_1,(gX.cell (p:=⟨w.heap.size,2,none⟩) Gk).trans x_2,(gX.cell (p:=⟨w.heap.size,3,none⟩) Gk).trans x_3,(gX.cell (p:=⟨w.heap.size,4,none⟩) Gk).trans x_4,(gX.cell (p:=⟨w.heap.size,5,none⟩) Gk).trans x_5,(gX.cell (p:=⟨w.heap.size,6,none⟩) Gk).trans x_6,(gX.cell (p:=⟨w.heap.size,7,none⟩) Gk).trans x_7⟩) (fun gp=>?_)
     clear hK K gp
     (try simp only[Act.put,abi,aal,aap])
     have fW:=gZ.below gX mZ;obtain⟨r_0,r_1,r_2,r_3,r_4,r_5,r_6,r_7,r_f0,r_f1,r_f2,r_f3,r_f4,r_f5,r_f6,r_f7⟩:=fW.b8;have Gw:=fW.lt;have gQ:=Hc.trans (gX.mono Hc.size);have rQ:=h_ gQ;have GG:=Hc.size;have HF:=h_ (fun u0 u1 u2 u3 u4 u5 u6 u7=>(far8 (R:=w.heap.size+1+1) Cd.out mZ u0 u1 u2 u3 u4 u5 u6 u7).mono GG);have HG:=h_ (fun u0 u1 u2 u3 u4 u5 u6 u7=>bel8 (R:=w.heap.size+1+1) rQ.out o_ u0 u1 u2 u3 u4 u5 u6 u7);clear Cd rQ gQ fW gX gB fK Gr gZ Hc Gk mZ x_0 x_1 x_2 x_3 x_4 x_5 x_6 x_7 GG
     (refine zL (i:=6) rfl k_ (fun K hK=>?_));(rw[aao (by rfl)])
     go_simp;refine hK _ _ (fun h=>by cases h) (fun _=>?_)
     clear hK K
     (try simp only[Act.put,abi,aal,aap])
     (refine zL (i:=7) rfl k_ (fun K hK=>?_));(rw[aao (by rfl)])
     go_simp;refine hK _ _ (fun h=>by cases h) (fun _=>?_)
     clear hK K
     (try simp only[Act.put,abi,aal,aap])
     refine yv k_ ?_ _
     go_wp2;exact bodyPost_ret (v:= .tuple #[.agg #[.slice A0 S.D.fn.length a0,.slice A1 S.D.fl.length a1,.slice A2 S.D.nn.length a2,.slice A3 S.D.nl.length a3,.slice A4 S.D.ss.length a4,.slice A5 S.cs.length a5,.slice A6 S.ds.length a6,.int .i64 S.fund],.int .i64 n]) (by simp[results,Tryz.results15,go_sem,r_0,r_1,r_2,r_3,r_4,r_5,r_6,r_7,Gw]) rfl ⟨_,_,_,_,_,_,_,_,_,_,_,_,_,_,_,rfl,HF.out _ _ _ _ _ _ _ _,HG.out _ _ _ _ _ _ _ _⟩
   ·have HNW:=h_ (fun (w4:World) (hb:Below (w2.alloc (.cells z8_ 34)).heap.size (w2.alloc (.cells z8_ 34)) w4)=>(⟨Blk.below (Blk.newAt rfl) hb (by simp),Blk.below (gg.alloc _) hb (by have:=gg.lt;simp;omega),by have h2:=Ha.size;exact(Ha.alloc h2 _).trans (hb.mono (by simp;omega))⟩:Blk w4 w2.heap.size 34 z8_/\Blk w4 (w.heap.size+1+1) 34 z8_/\Below w.heap.size w w4))
    have Nc:=h_ (HH.out.below (Ha.alloc Ha.size (.cells z8_ 34)));have hR2l:=gg.lt;have Ye:=Ha.size
    go_upto_block 0 with (fail)
    go_cut [7] (fun s7 wx=>∃(bb:Bool) (B0:Option Addr) (b0:Nat) (B1:Option Addr) (b1:Nat) (B2:Option Addr) (b2:Nat) (B3:Option Addr) (b3:Nat) (B4:Option Addr) (b4:Nat) (B5:Option Addr) (b5:Nat) (B6:Option Addr) (b6:Nat) (fs:List SF),s7= .bool bb/\b01 bb=n/\OwnSt (w2.heap.size+1) wx (.slice B0 E.D.fn.length b0) (.slice B1 E.D.fl.length b1) (.slice B2 E.D.nn.length b2) (.slice B3 E.D.nl.length b3) (.slice B4 E.D.ss.length b4) (.slice B5 E.cs.length b5) (.slice B6 E.ds.length b6) E fs/\Blk wx w2.heap.size 34 #[.slice B0 E.D.fn.length b0,.slice B1 E.D.fl.length b1,.slice B2 E.D.nn.length b2,.slice B3 E.D.nl.length b3,.slice B4 E.D.ss.length b4,.slice B5 E.cs.length b5,.slice B6 E.ds.length b6,.int .i64 E.fund]/\Blk wx (w.heap.size+1+1) 34 z8_/\Below w.heap.size w wx)
    case first=>
     have Gs:¬w.heap.size+1+1=w2.heap.size:=o_
     rcases hk with rfl|rfl|rfl|rfl|rfl|rfl|rfl|rfl
     obtain⟨d1,d2⟩:=z0q (.inl rfl) HR.out HQ.out;obtain⟨bb,gj⟩:∃x,chgB S 1 a b=x:=⟨_,rfl⟩;have HC:=h_ (yB _ _ _ _ _ _ _ S 1 a b _ Nc.out gf.out);rw[show chgS S 1 a b=E by rw[<-HE.out];exact d1.symm,gj] at HC;rw[HN.out,gj] at d2
     rotate_left
     obtain⟨d1,d2⟩:=z0q (.inr (.inl rfl)) HR.out HQ.out;obtain⟨bb,gj⟩:∃x,chgB S 2 a b=x:=⟨_,rfl⟩;have HC:=h_ (yB _ _ _ _ _ _ _ S 2 a b _ Nc.out gf.out);rw[show chgS S 2 a b=E by rw[<-HE.out];exact d1.symm,gj] at HC;rw[HN.out,gj] at d2
     rotate_left
     obtain⟨d1,d2⟩:=z0q (.inr (.inr rfl)) HR.out HQ.out;obtain⟨bb,gj⟩:∃x,chgB S 3 a b=x:=⟨_,rfl⟩;have HC:=h_ (yB _ _ _ _ _ _ _ S 3 a b _ Nc.out gf.out);rw[show chgS S 3 a b=E by rw[<-HE.out];exact d1.symm,gj] at HC;rw[HN.out,gj] at d2
     rotate_left
     obtain⟨d1,d2⟩:=z7Y HR.out HQ.out;obtain⟨bb,gj⟩:∃x,yd S=x:=⟨_,rfl⟩;have HC:=h_ (Va _ _ _ _ _ _ _ S _ Nc.out gf.out);rw[show yu S=E by rw[<-HE.out];exact d1.symm,gj] at HC;rw[HN.out,gj] at d2
     rotate_left
     obtain⟨d1,d2⟩:=z8w HR.out HQ.out;obtain⟨bb,gj⟩:∃x,colB S a=x:=⟨_,rfl⟩;have HC:=h_ (z0c _ _ _ _ _ _ _ S a _ Nc.out gf.out);rw[show colS S a=E by rw[<-HE.out];exact d1.symm,gj] at HC;rw[HN.out,gj] at d2
     rotate_left
     obtain⟨d1,d2⟩:=z7E HR.out HQ.out;obtain⟨bb,gj⟩:∃x,swpB S a b=x:=⟨_,rfl⟩;have HC:=h_ (JB _ _ _ _ _ _ _ S a b _ Nc.out gf.out);rw[show swpS S a b=E by rw[<-HE.out];exact d1.symm,gj] at HC;rw[HN.out,gj] at d2
     rotate_left
     obtain⟨d1,d2⟩:=z7G HR.out HQ.out;obtain⟨bb,gj⟩:∃x,stoB S a b=x:=⟨_,rfl⟩;have HC:=h_ (VV _ _ _ _ _ _ _ S a b _ Nc.out gf.out);rw[show stoS S a b=E by rw[<-HE.out];exact d1.symm,gj] at HC;rw[HN.out,gj] at d2
     rotate_left
     obtain⟨d1,d2⟩:=z8n HR.out HQ.out;obtain⟨bb,gj⟩:∃x,yV S a=x:=⟨_,rfl⟩;have HC:=h_ (X7 _ _ _ _ _ _ _ S a _ Nc.out gf.out);rw[show vH S a=E by rw[<-HE.out];exact d1.symm,gj] at HC;rw[HN.out,gj] at d2
     rotate_left
     all_goals
      have HD:Hid (b01 bb=n):=h_ d2.symm;clear d1 d2 gj HE HN HR HQ
      go_wp2_with fail
      refine HC.out.mono ?_
      rintro e w4 ⟨B0,b0,B1,b1,B2,b2,B3,b3,B4,b4,B5,b5,B6,b6,fs,rfl,ho,hb⟩;obtain⟨mP,fF,Hn⟩:=HNW.out w4 hb;have HO:=h_ (ho.mono (show w2.heap.size+1<=_ by simp));have HB:=h_ Hn;have Mg:=h_ fF;have HZ4:=h_ mP;obtain⟨z_0,z_1,z_2,z_3,z_4,z_5,z_6,z_7,z_f0,z_f1,z_f2,z_f3,z_f4,z_f5,z_f6,z_f7⟩:=mP.b8;clear HC ho hb Hn fF mP HNW Nc x_0 x_1 x_2 x_3 x_4 x_5 x_6 x_7 a_0 a_1 a_2 Uc ZF;go_wp2;go_meet
      exact⟨bb,_,_,_,_,_,_,_,_,_,_,_,_,_,_,fs,rfl,HD.out,far8 (R:=w2.heap.size) HO.out (aaB _) _ _ _ _ _ _ _ _,blk8 HZ4.out,Jf Mg.out Gs,bel8 HB.out Ye _ _ _ _ _ _ _ _⟩
    case rest=>
     obtain⟨bb,B0,b0,B1,b1,B2,b2,B3,b3,B4,b4,B5,b5,B6,b6,fs,rfl,Gd,hO,hZ,hR,hB⟩:=hcut;obtain⟨z_0,z_1,z_2,z_3,z_4,z_5,z_6,z_7⟩:=hZ.c8;obtain⟨r_0,r_1,r_2,r_3,r_4,r_5,r_6,r_7,r_f0,r_f1,r_f2,r_f3,r_f4,r_f5,r_f6,r_f7⟩:=hR.b8;have Gw:=hR.lt;have HF:=h_ (fun u0 u1 u2 u3 u4 u5 u6 u7=>(far8 (R:=w.heap.size+1+1) hO o_ u0 u1 u2 u3 u4 u5 u6 u7).mono (show w.heap.size<=w2.heap.size+1 by omega));have HG:=h_ (fun u0 u1 u2 u3 u4 u5 u6 u7=>bel8 (R:=w.heap.size+1+1) hB o_ u0 u1 u2 u3 u4 u5 u6 u7);clear hO hZ hR hB HNW Nc G9 Ft gg Ha hR2l Ye hk HR HQ HE HN HH gf x_0 x_1 x_2 x_3 x_4 x_5 x_6 x_7 a_0 a_1 a_2 Uc ZF
     cases bb
     ·obtain rfl:n=0:=Gd.symm
      go_wp2;exact bodyPost_ret (v:= .tuple #[.agg #[.slice B0 E.D.fn.length b0,.slice B1 E.D.fl.length b1,.slice B2 E.D.nn.length b2,.slice B3 E.D.nl.length b3,.slice B4 E.D.ss.length b4,.slice B5 E.cs.length b5,.slice B6 E.ds.length b6,.int .i64 E.fund],.int .i64 0]) (by simp[results,Tryz.results15,go_sem,r_0,r_1,r_2,r_3,r_4,r_5,r_6,r_7,Gw]) rfl ⟨_,_,_,_,_,_,_,_,_,_,_,_,_,_,_,rfl,HF.out _ _ _ _ _ _ _ _,HG.out _ _ _ _ _ _ _ _⟩
     ·obtain rfl:n=1:=Gd.symm
      go_wp2;exact bodyPost_ret (v:= .tuple #[.agg #[.slice B0 E.D.fn.length b0,.slice B1 E.D.fl.length b1,.slice B2 E.D.nn.length b2,.slice B3 E.D.nl.length b3,.slice B4 E.D.ss.length b4,.slice B5 E.cs.length b5,.slice B6 E.ds.length b6,.int .i64 E.fund],.int .i64 1]) (by simp[results,Tryz.results15,go_sem,r_0,r_1,r_2,r_3,r_4,r_5,r_6,r_7,Gw]) rfl ⟨_,_,_,_,_,_,_,_,_,_,_,_,_,_,_,rfl,HF.out _ _ _ _ _ _ _ _,HG.out _ _ _ _ _ _ _ _⟩
end Go.Proofs.YtnjcpljhmhdhkaaGreat
