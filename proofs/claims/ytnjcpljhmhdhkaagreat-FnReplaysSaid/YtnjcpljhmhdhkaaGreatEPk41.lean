/- part 41 -/
import Derived.Test.YtnjcpljhmhdhkaaGreatEPk39
import Derived.Test.YtnjcpljhmhdhkaaGreatEPk40
set_option linter.unusedSimpArgs false
set_option linter.unusedVariables false
set_option maxRecDepth 100000
set_option maxHeartbeats 16000000
namespace Go.Proofs.YtnjcpljhmhdhkaaGreat
open Go.RowKit
theorem z5z {S:St} {l:List Ac} (h:zd S=true) (hl:l.length<=40):(ZR S l).length =l.length:=by
 have hb:runB S l=true:=by unfold runB;rw[h];simpa using hl
 unfold ZR;rw[aao hb,JC]
theorem z8B (v:Value) (zs:List Int) (w:World) (h:RB w v zs):
  CB_ 9 #[v] w (.bool true):=by
 cases Ce:decide ((1048576:Int)<zs.length)
 case true=>
  go_enter Tryz.func9,Tryz.ntmps9
  go_wp2_with fail
  refine(z6p v zs _ _ h Ce).mono ?_
  rintro e w' ⟨rfl,rfl⟩;go_wp2;go_ret
  exact⟨rfl,aaj _ _⟩
 case false=>
  have hle:zs.length<=1048576:=by
   have:=of_decide_eq_false Ce;omega
  go_enter Tryz.func9,Tryz.ntmps9
  go_wp2_with fail
  refine(z6p v zs _ _ h Ce).mono ?_
  rintro e w' ⟨rfl,rfl⟩;clear Ce
  go_wp2_with fail
  refine(z0p v zs _ h hle).mono ?_
  rintro e w1 ⟨S,A0,a0,A1,a1,A2,a2,A3,a3,A4,a4,A5,a5,A6,a6,fs,l,u,rfl,gV,mx,_,Hi,GM,h9⟩;clear h;obtain⟨A,ca,hu,rS,Yk,fr⟩:=(OwnA.reads GM).form;subst hu;unfold maxLen at Yk;clear fr;have Fc:=h_ gV;have HR:=h_ Hi.reads;have HA:=h_ (OwnA.reads GM);have HN:=h_ (z5z gV (show l.length<=40 by omega));have Yl:=h_ (z6S (l:=l) gV);have gf:=h_ (z3Q gV);obtain⟨E,hE⟩:∃q,q=ZG S l:=⟨_,rfl⟩;obtain⟨ns,Bt⟩:∃q,q=ZR S l:=⟨_,rfl⟩;have HC:=h_ (fun (W:World) (hb:Below w1.heap.size w1 W)=>z1t _ _ _ _ _ _ _ _ S l W (HR.out.below hb) gf.out (HA.out.below hb));rw[<-hE,<-Bt] at HC;rw[<-Bt] at HN;rw[<-hE] at Yl;have Hj:((ns.length:Int)==(l.length:Int))=true:=by rw[HN.out];exact beq_self_eq_true _
  clear gV Hi GM hE Bt
  go_wp2_with fail
  refine(HC.out _ bel_).mono ?_
  rintro e w2 ⟨B0,b0,B1,b1,B2,b2,B3,b3,B4,b4,B5,b5,B6,b6,gs,T,t,rfl,Hk,_,_,Hd⟩;have Co:Blk w2 w1.heap.size 34 #[.slice A0 S.D.fn.length a0,.slice A1 S.D.fl.length a1,.slice A2 S.D.nn.length a2,.slice A3 S.D.nl.length a3,.slice A4 S.D.ss.length a4,.slice A5 S.cs.length a5,.slice A6 S.ds.length a6,.int .i64 S.fund]:=Blk.below (Blk.newAt rfl) Hd sz_;have Ha:Below w1.heap.size w1 w2:=bel_
  obtain⟨z_0,z_1,z_2,z_3,z_4,z_5,z_6,z_7⟩:=Co.c8;have Gu:=Co.lt;have NH:=h_ Hk.reads;clear Hd Co Hk
  go_wp2_with fail
  obtain⟨w3,GT⟩:∃q,q=w2.alloc (.cells #[.slice B0 E.D.fn.length b0,.slice B1 E.D.fl.length b1,.slice B2 E.D.nn.length b2,.slice B3 E.D.nl.length b3,.slice B4 E.D.ss.length b4,.slice B5 E.cs.length b5,.slice B6 E.ds.length b6,.int .i64 E.fund] 34):=⟨_,rfl⟩;have He:Below w2.heap.size w2 w3:=GT▸(aaj _ _).alloc (aaa _) _;have NG:Blk w3 w2.heap.size 34 #[.slice B0 E.D.fn.length b0,.slice B1 E.D.fl.length b1,.slice B2 E.D.nn.length b2,.slice B3 E.D.nl.length b3,.slice B4 E.D.ss.length b4,.slice B5 E.cs.length b5,.slice B6 E.ds.length b6,.int .i64 E.fund]:=GT▸Blk.newAt rfl;have WW:=NG.lt;rw[<-GT];clear GT;have Hc:=Ha.trans (He.mono Ha.size);have YS:=h_ (NH.out.below He);clear z_0 z_1 z_2 z_3 z_4 z_5 z_6 z_7 He NH;generalize w2.heap.size=Y at*;refine(qb _ _ _ _ _ _ _ S true _ (HR.out.below Hc) Fc).mono ?_
  rintro e w4 ⟨rfl,Hw⟩;have Hn:=Hc.trans (Hw.mono Hc.size);have R5:=NG.below Hw WW;have Mg:=h_ (YS.out.below Hw);clear NG WW YS Hw Hc;obtain⟨z_0,z_1,z_2,z_3,z_4,z_5,z_6,z_7⟩:=R5.c8
  go_wp2_with fail
  refine(qb _ _ _ _ _ _ _ E true _ Mg.out Yl).mono ?_
  rintro e w5 ⟨rfl,H0⟩;have Hv:=Hn.trans (H0.mono Hn.size);clear H0 R5 Mg z_0 z_1 z_2 z_3 z_4 z_5 z_6 z_7 Hn Ha
  go_wp2_with fail
  refine(zbk _).mono ?_
  rintro e w6 ⟨C0,c0,C1,c1,C2,c2,C3,c3,C4,c4,C5,c5,C6,c6,gs,rfl,G2,gz⟩;have gQ:=Hv.trans (gz.mono Hv.size);have um:=h_ G2.reads;obtain⟨G,hG⟩:∃q,q=ZC:=⟨_,rfl⟩;have Ym:Hid (zd G=true):=h_ (by rw[hG];exact z4f);rw[<-hG] at um⊢;clear G2 gz Hv hG
  go_wp2_with fail
  refine(qb _ _ _ _ _ _ _ G true _ um.out Ym).mono ?_
  rintro e w7 ⟨rfl,fQ⟩;have Gt:=h9.trans ((gQ.trans (fQ.mono gQ.size)).mono h9.size);clear fQ gQ um Ym;go_wp2;go_ret
  exact⟨rfl,Gt⟩
end Go.Proofs.YtnjcpljhmhdhkaaGreat
