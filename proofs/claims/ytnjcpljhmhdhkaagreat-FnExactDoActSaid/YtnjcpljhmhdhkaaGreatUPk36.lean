/- part 36 -/
import Derived.Test.YtnjcpljhmhdhkaaGreatUPk35
import Derived.Deep.RegionHeld3
import Derived.Deep.DeepCutAuto
set_option linter.unusedSimpArgs false
set_option linter.unusedVariables false
set_option maxRecDepth 100000
set_option maxHeartbeats 60000000
namespace Go.Proofs.YtnjcpljhmhdhkaaGreat
open Go.RowKit
structure BoxSt (B:World) (y:Nat) (a b c d e f g:Value) (S:St) (fs:List SF) (w:World):Prop where
 box:Blk w y 34 #[a,b,c,d,e,f,g,.int .i64 S.fund]
 ge:B.heap.size<=y
 own:OwnSt B.heap.size w a b c d e f g S fs
 far:¬qv a b c d e f g fs y
 blw:Below B.heap.size B w
theorem BoxSt.last {B w:World} {a b c d e f g:Value} {S:St} {fs:List SF} {base:Nat} (hb:Below B.heap.size B w) (ho:OwnSt base w a b c d e f g S fs) (H9:B.heap.size<=base):
  BoxSt B w.heap.size a b c d e f g S fs (w.alloc (.cells #[a,b,c,d,e,f,g,.int .i64 S.fund] 34)):=
 ⟨Blk.newAt rfl,hb.size,(ho.mono H9).alloc _,fun hk=>aaW _ (ho.lt _ hk).2,hb.alloc hb.size _⟩
theorem BoxSt.first {B w:World} {a b c d e f g:Value} {S:St} {fs:List SF} {base y:Nat} {cs:Array Value} (hb:Below B.heap.size B w) (ho:OwnSt base w a b c d e f g S fs) (hy:Blk w y 34 z8_) (h1:B.heap.size<=y) (h2:y<base):
  BoxSt B y a b c d e f g S fs ((((((((w.setCell ⟨y,0,none⟩ a).setCell ⟨y,1,none⟩ b).setCell ⟨y,2,none⟩ c).setCell ⟨y,3,none⟩ d).setCell ⟨y,4,none⟩ e).setCell ⟨y,5,none⟩ f).setCell ⟨y,6,none⟩ g).setCell ⟨y,7,none⟩ (.int .i64 S.fund)):=
 ⟨blk8 hy,h1,(far8 ho h2 _ _ _ _ _ _ _ _).mono o_,fun hk=>by have:=(ho.lt _ hk).1;omega,bel8 hb h1 _ _ _ _ _ _ _ _⟩
theorem JR (v0 v1 v2 v3 v4 v5 v6:Value) (S:St) (ka aa ab:Int) (w:World) (h:RSt w v0 v1 v2 v3 v4 v5 v6 S):
  CB_ 11 #[.agg #[v0,v1,v2,v3,v4,v5,v6,.int .i64 S.fund],.agg #[.int .i64 ka,.int .i64 aa,.int .i64 ab]] w (.bool true):=by
 obtain⟨x,hx⟩:∃x,szSt S=x:=⟨_,rfl⟩;have HX:=h_ hx
 by_cases GU:x<0
 ·clear hx
  go_enter Tryz.func11,Tryz.ntmps11
  go_wp2_with fail
  refine(xI _ _ _ _ _ _ _ S x _ (h.below bel_) HX).mono ?_
  rintro e w1 ⟨rfl,h9⟩;go_wp2;go_ret
  exact⟨rfl,by exact bel_⟩
 ·have hle:StLe S:=za8 (by rw[hx];exact GU)
  have gi:=h_ hle;clear hx hle;obtain⟨E,hE⟩:∃E,doS S ka aa ab=E:=⟨_,rfl⟩;obtain⟨nn,hn⟩:∃n,doN S ka aa ab=n:=⟨_,rfl⟩;have HCs:Hid (∀(v:World) (t0 t1 t2 t3 t4 t5 t6:Value),RSt v t0 t1 t2 t3 t4 t5 t6 S->Calls Tryz.prog 16 #[.agg #[t0,t1,t2,t3,t4,t5,t6,.int .i64 S.fund],.agg #[.int .i64 ka,.int .i64 aa,.int .i64 ab]] v (z5L E nn v)):=h_ (fun v t0 t1 t2 t3 t4 t5 t6 ht=>by have:=z6E t0 t1 t2 t3 t4 t5 t6 S ka aa ab v ht gi.out;rwa [hE,hn] at this);have uL:Hid (∀(v:World) (t0 t1 t2 t3 t4 t5 t6:Value),RSt v t0 t1 t2 t3 t4 t5 t6 S->Calls Tryz.prog 15 #[.agg #[t0,t1,t2,t3,t4,t5,t6,.int .i64 S.fund],.agg #[.int .i64 ka,.int .i64 aa,.int .i64 ab]] v (z5L E nn v)):=h_ (fun v t0 t1 t2 t3 t4 t5 t6 ht=>by have:=z7Y t0 t1 t2 t3 t4 t5 t6 S ka aa ab v ht gi.out;rwa [hE,hn] at this);have hcE:yi E<=30000000:=by rw[<-hE];exact Va S ka aa ab gi.out
  have hcD:yi S<=30000000:=gi.out.cnt;clear hE hn;have m1:¬(1:Int)+(yi S:Int)<0:=o_
  go_enter Tryz.func11,Tryz.ntmps11
  go_wp2_with fail
  refine(xI _ _ _ _ _ _ _ S x _ (h.below bel_) HX).mono ?_
  rintro e w1 ⟨rfl,h9⟩;have h8:Below w.heap.size w w1:=bel_
  have Fl:Blk w1 w.heap.size 61 #[v0,v1,v2,v3,v4,v5,v6,.int .i64 S.fund]:=Blk.below ((Blk.newAt rfl).alloc _) h9 sz_;have fc:Blk w1 (w.heap.size+1) 90 #[.int .i64 ka,.int .i64 aa,.int .i64 ab]:=Blk.below (Blk.newAt (by simp)) h9 sz_;have e0:w.heap.size+1<w1.heap.size:=fc.lt;clear h9 HX;obtain⟨vb_0,vb_1,vb_2,vb_3,vb_4,vb_5,vb_6,vb_7⟩:=Fl.c8;obtain⟨ab_0,ab_1,ab_2⟩:=fc.c3;have vlt:=Fl.lt;have alt:=fc.lt
  go_upto_region 5 with (fail)
  go_cut [6,7] (fun s6 s7 wx=>∃(y:Nat) (W0:Option Addr) (wc0:Nat) (W1:Option Addr) (wc1:Nat) (W2:Option Addr) (wc2:Nat) (W3:Option Addr) (wc3:Nat) (W4:Option Addr) (wc4:Nat) (W5:Option Addr) (wc5:Nat) (W6:Option Addr) (wc6:Nat) (fs:List SF),s6= .pointer (some ⟨y,0,none⟩)/\s7= .int .i64 nn/\BoxSt w1 y (.slice W0 E.D.fn.length wc0) (.slice W1 E.D.fl.length wc1) (.slice W2 E.D.nn.length wc2) (.slice W3 E.D.nl.length wc3) (.slice W4 E.D.ss.length wc4) (.slice W5 E.cs.length wc5) (.slice W6 E.ds.length wc6) E fs wx)
  case first=>
   have fr:Below w1.heap.size w1 w1.drew:=(aaj _ _).drew;refine vo (n:=9) (S:=fun w'=>w'.cell? ⟨w.heap.size,0,none⟩=some (v0)/\w'.cell? ⟨w.heap.size,1,none⟩=some (v1)/\w'.cell? ⟨w.heap.size,2,none⟩=some (v2)/\w'.cell? ⟨w.heap.size,3,none⟩=some (v3)/\w'.cell? ⟨w.heap.size,4,none⟩=some (v4)/\w'.cell? ⟨w.heap.size,5,none⟩=some (v5)/\w'.cell? ⟨w.heap.size,6,none⟩=some (v6)/\w'.cell? ⟨w.heap.size,7,none⟩=some (.int .i64 S.fund)/\w'.cell? ⟨w.heap.size+1,0,none⟩=some (.int .i64 ka)/\w'.cell? ⟨w.heap.size+1,1,none⟩=some (.int .i64 aa)/\w'.cell? ⟨w.heap.size+1,2,none⟩=some (.int .i64 ab)) k_ ⟨vb_0,vb_1,vb_2,vb_3,vb_4,vb_5,vb_6,vb_7,ab_0,ab_1,ab_2⟩ (fun hS=>?_)
   have HS:=h_ (fun (v:World) (hb:Below w1.heap.size w1 v)=>(⟨(hb.cell (p:=⟨w.heap.size,0,none⟩) vlt).trans vb_0,(hb.cell (p:=⟨w.heap.size,1,none⟩) vlt).trans vb_1,(hb.cell (p:=⟨w.heap.size,2,none⟩) vlt).trans vb_2,(hb.cell (p:=⟨w.heap.size,3,none⟩) vlt).trans vb_3,(hb.cell (p:=⟨w.heap.size,4,none⟩) vlt).trans vb_4,(hb.cell (p:=⟨w.heap.size,5,none⟩) vlt).trans vb_5,(hb.cell (p:=⟨w.heap.size,6,none⟩) vlt).trans vb_6,(hb.cell (p:=⟨w.heap.size,7,none⟩) vlt).trans vb_7,(hb.cell (p:=⟨w.heap.size+1,0,none⟩) alt).trans ab_0,(hb.cell (p:=⟨w.heap.size+1,1,none⟩) alt).trans ab_1,(hb.cell (p:=⟨w.heap.size+1,2,none⟩) alt).trans ab_2⟩:v.cell? ⟨w.heap.size,0,none⟩=some (v0)/\v.cell? ⟨w.heap.size,1,none⟩=some (v1)/\v.cell? ⟨w.heap.size,2,none⟩=some (v2)/\v.cell? ⟨w.heap.size,3,none⟩=some (v3)/\v.cell? ⟨w.heap.size,4,none⟩=some (v4)/\v.cell? ⟨w.heap.size,5,none⟩=some (v5)/\v.cell? ⟨w.heap.size,6,none⟩=some (v6)/\v.cell? ⟨w.heap.size,7,none⟩=some (.int .i64 S.fund)/\v.cell? ⟨w.heap.size+1,0,none⟩=some (.int .i64 ka)/\v.cell? ⟨w.heap.size+1,1,none⟩=some (.int .i64 aa)/\v.cell? ⟨w.heap.size+1,2,none⟩=some (.int .i64 ab)));have HT:=h_ (fun (v:World) (hb:Below w1.heap.size w1 v)=>vE v0 v1 v2 v3 v4 v5 v6 S v (h.below (h8.trans (hb.mono h8.size))) gi.out);generalize w1.drew=wd at*;refine tE_ 0 rfl rfl ?_;(try simp only[lp_])
   refine tE_ 2 rfl rfl ?_;(try simp only[lp_])
   refine zaz (i:=1) (j:=8) rfl rfl k_ (fun K hK=>?_) (fun K hK=>?_)
   ·rw[aao (by rfl)]
    go_simp
    go_at_call 28
    refine(HT.out _ fr).mono ?_
    rintro e w5 ⟨T0,tc0,T1,tc1,T2,tc2,T3,tc3,T4,tc4,T5,tc5,T6,tc6,tfs,rfl,rC,gf⟩;have FD:=rC.reads;clear rC;have CF:=fr.trans (gf.mono fr.size)
    go_wp2_with fail
    refine hK _ _ (fun _=>HS.out _ CF) (fun gl=>?_)
    clear hK K gl
    (try simp only[lp_])
    refine zaz (i:=3) (j:=8) rfl rfl k_ (fun K hK=>?_) (fun K hK=>?_)
    ·rw[aao (by rfl)]
     go_simp
     go_at_call 59
     refine(z7V ka aa ab _).mono ?_
     rintro e w6 ⟨rfl,gk⟩;have FD:=FD.below gk;have G9:=CF.trans (gk.mono CF.size)
     go_wp2_with fail
     refine hK _ _ (fun _=>HS.out _ G9) (fun gl=>?_)
     clear hK K gl
     (try simp only[lp_])
     refine zaz (i:=4) (j:=8) rfl rfl k_ (fun K hK=>?_) (fun K hK=>?_)
     ·rw[aao (by rfl)]
      go_simp
      go_at_call 16
      refine(HCs.out _ _ _ _ _ _ _ _ FD).mono ?_
      rintro e w7 ⟨W0,wc0,W1,wc1,W2,wc2,W3,wc3,W4,wc4,W5,wc5,W6,wc6,fs,rfl,ho,GT⟩;have Fq:=G9.trans (GT.mono G9.size)
      go_wp2_with fail
      refine hK _ _ (fun _=>HS.out _ Fq) (fun gl=>?_)
      have hS:=gl k_;clear hK K gl
      (try simp only[lp_])
      refine tE_ 5 rfl rfl ?_;(try simp only[lp_])
      refine tE_ 6 rfl rfl ?_;(try simp only[lp_])
      refine tF_ 7 rfl ?_;(try simp only[lp_])
      (refine qg (i:=8) rfl k_ (fun K hK=>?_));(rw[aao (by rfl)])
      go_simp;refine hK _ _ (fun _=>HS.out _ (Fq.alloc Fq.size _)) (fun gl=>?_)
      clear hK K gl
      (try simp only[lp_])
      have gI:=Blk.newAt (w:=w7) (g:=w7.heap.size) (t:=34) (cs:= z8_) rfl;obtain⟨z_0,z_1,z_2,z_3,z_4,z_5,z_6,z_7,z_f0,z_f1,z_f2,z_f3,z_f4,z_f5,z_f6,z_f7⟩:=gI.b8
      (refine qg (i:=9) rfl k_ (fun K hK=>?_));(rw[aao (by rfl)])
      go_simp;refine hK _ _ (fun h=>by cases h) (fun _=>?_)
      clear hK K z_0 z_1 z_2 z_3 z_4 z_5 z_6 z_7 z_f0 z_f1 z_f2 z_f3 z_f4 z_f5 z_f6 z_f7
      (try simp only[lp_])
      (refine qg (i:=10) rfl k_ (fun K hK=>?_));(rw[aao (by rfl)])
      go_simp;refine hK _ _ (fun h=>by cases h) (fun _=>?_)
      clear hK K
      (try simp only[lp_])
      refine ky k_ ?_ _
      go_wp2;go_meet
      exact⟨_,_,_,_,_,_,_,_,_,_,_,_,_,_,_,fs,rfl,rfl,BoxSt.last Fq ho G9.size⟩
     ·rw[aao (by rfl)]
      go_simp;have gI:=Blk.newAt (w:=w6) (g:=w6.heap.size) (t:=34) (cs:= z8_) rfl;have GS:=G9.alloc G9.size (.cells z8_ 34);have Mj:=G9.size;have fM:=gI.lt;obtain⟨wA,cN⟩:∃v,v=w6.alloc (.cells z8_ 34):=⟨_,rfl⟩;have FD:=FD.below ((aaj _ _).alloc (aaa _) (.cells z8_ 34));rw[<-cN] at gI GS fM FD⊢;clear cN;refine hK _ _ (fun _=>HS.out _ GS) (fun gl=>?_)
      clear hK K gl
      (try simp only[lp_])
      (refine qg (i:=4) rfl k_ (fun K hK=>?_));(rw[aao (by rfl)])
      go_simp
      go_at_call 16
      refine(HCs.out _ _ _ _ _ _ _ _ FD).mono ?_
      rintro e w7 ⟨W0,wc0,W1,wc1,W2,wc2,W3,wc3,W4,wc4,W5,wc5,W6,wc6,fs,rfl,ho,GT⟩;have Fq:=GS.trans (GT.mono GS.size);have gI:=gI.below GT gI.lt
      go_wp2_with fail
      refine hK _ _ (fun _=>HS.out _ Fq) (fun gl=>?_)
      have hS:=gl k_;clear hK K gl
      (try simp only[lp_])
      refine tE_ 5 rfl rfl ?_;(try simp only[lp_])
      refine tE_ 6 rfl rfl ?_;(try simp only[lp_])
      refine tF_ 7 rfl ?_;(try simp only[lp_])
      obtain⟨z_0,z_1,z_2,z_3,z_4,z_5,z_6,z_7,z_f0,z_f1,z_f2,z_f3,z_f4,z_f5,z_f6,z_f7⟩:=gI.b8
      (refine qg (i:=9) rfl k_ (fun K hK=>?_));(rw[aao (by rfl)])
      go_simp;refine hK _ _ (fun h=>by cases h) (fun _=>?_)
      clear hK K z_0 z_1 z_2 z_3 z_4 z_5 z_6 z_7 z_f0 z_f1 z_f2 z_f3 z_f4 z_f5 z_f6 z_f7
      (try simp only[lp_])
      (refine qg (i:=10) rfl k_ (fun K hK=>?_));(rw[aao (by rfl)])
      go_simp;refine hK _ _ (fun h=>by cases h) (fun _=>?_)
      clear hK K
      (try simp only[lp_])
      refine ky k_ ?_ _
      go_wp2;go_meet
      exact⟨_,_,_,_,_,_,_,_,_,_,_,_,_,_,_,fs,rfl,rfl,BoxSt.first (cs:= #[]) Fq ho gI Mj fM⟩
    ·rw[aao (by rfl)]
     go_simp;have gI:=Blk.newAt (w:=w5) (g:=w5.heap.size) (t:=34) (cs:= z8_) rfl;have GS:=CF.alloc CF.size (.cells z8_ 34);have Mj:=CF.size;have fM:=gI.lt;obtain⟨wA,cN⟩:∃v,v=w5.alloc (.cells z8_ 34):=⟨_,rfl⟩;have FD:=FD.below ((aaj _ _).alloc (aaa _) (.cells z8_ 34));rw[<-cN] at gI GS fM FD⊢;clear cN;refine hK _ _ (fun _=>HS.out _ GS) (fun gl=>?_)
     clear hK K gl
     (try simp only[lp_])
     (refine qg (i:=3) rfl k_ (fun K hK=>?_));(rw[aao (by rfl)])
     go_simp
     go_at_call 59
     refine(z7V ka aa ab _).mono ?_
     rintro e w6 ⟨rfl,gk⟩;have FD:=FD.below gk;have G9:=GS.trans (gk.mono GS.size);have gI:=gI.below gk gI.lt
     go_wp2_with fail
     refine hK _ _ (fun _=>HS.out _ G9) (fun gl=>?_)
     clear hK K gl
     (try simp only[lp_])
     (refine qg (i:=4) rfl k_ (fun K hK=>?_));(rw[aao (by rfl)])
     go_simp;have fM:=aaE fM (show wA.heap.size<=_ from gk.size)
     go_at_call 16
     refine(HCs.out _ _ _ _ _ _ _ _ FD).mono ?_
     rintro e w7 ⟨W0,wc0,W1,wc1,W2,wc2,W3,wc3,W4,wc4,W5,wc5,W6,wc6,fs,rfl,ho,GT⟩;have Fq:=G9.trans (GT.mono G9.size);have gI:=gI.below GT gI.lt
     go_wp2_with fail
     refine hK _ _ (fun _=>HS.out _ Fq) (fun gl=>?_)
     have hS:=gl k_;clear hK K gl
     (try simp only[lp_])
     refine tE_ 5 rfl rfl ?_;(try simp only[lp_])
     refine tE_ 6 rfl rfl ?_;(try simp only[lp_])
     refine tF_ 7 rfl ?_;(try simp only[lp_])
     obtain⟨z_0,z_1,z_2,z_3,z_4,z_5,z_6,z_7,z_f0,z_f1,z_f2,z_f3,z_f4,z_f5,z_f6,z_f7⟩:=gI.b8
     (refine qg (i:=9) rfl k_ (fun K hK=>?_));(rw[aao (by rfl)])
     go_simp;refine hK _ _ (fun h=>by cases h) (fun _=>?_)
     clear hK K z_0 z_1 z_2 z_3 z_4 z_5 z_6 z_7 z_f0 z_f1 z_f2 z_f3 z_f4 z_f5 z_f6 z_f7
     (try simp only[lp_])
     (refine qg (i:=10) rfl k_ (fun K hK=>?_));(rw[aao (by rfl)])
     go_simp;refine hK _ _ (fun h=>by cases h) (fun _=>?_)
     clear hK K
     (try simp only[lp_])
     refine ky k_ ?_ _
     go_wp2;go_meet
     exact⟨_,_,_,_,_,_,_,_,_,_,_,_,_,_,_,fs,rfl,rfl,BoxSt.first (cs:= #[]) Fq ho gI Mj fM⟩
   ·rw[aao (by rfl)]
    go_simp;have gI:=Blk.newAt (w:=wd) (g:=wd.heap.size) (t:=34) (cs:= z8_) rfl;have GS:=fr.alloc fr.size (.cells z8_ 34);have Mj:=fr.size;have fM:=gI.lt;obtain⟨wA,cN⟩:∃v,v=wd.alloc (.cells z8_ 34):=⟨_,rfl⟩;rw[<-cN] at gI GS fM⊢;clear cN;refine hK _ _ (fun _=>HS.out _ GS) (fun gl=>?_)
    clear hK K gl
    (try simp only[lp_])
    (refine qg (i:=1) rfl k_ (fun K hK=>?_));(rw[aao (by rfl)])
    go_simp
    go_at_call 28
    refine(HT.out _ GS).mono ?_
    rintro e w5 ⟨T0,tc0,T1,tc1,T2,tc2,T3,tc3,T4,tc4,T5,tc5,T6,tc6,tfs,rfl,rC,gf⟩;have FD:=rC.reads;clear rC;have CF:=GS.trans (gf.mono GS.size);have gI:=gI.below gf gI.lt
    go_wp2_with fail
    refine hK _ _ (fun _=>HS.out _ CF) (fun gl=>?_)
    clear hK K gl
    (try simp only[lp_])
    (refine qg (i:=3) rfl k_ (fun K hK=>?_));(rw[aao (by rfl)])
    go_simp
    go_at_call 59
    refine(z7V ka aa ab _).mono ?_
    rintro e w6 ⟨rfl,gk⟩;have FD:=FD.below gk;have G9:=CF.trans (gk.mono CF.size);have gI:=gI.below gk gI.lt
    go_wp2_with fail
    refine hK _ _ (fun _=>HS.out _ G9) (fun gl=>?_)
    clear hK K gl
    (try simp only[lp_])
    (refine qg (i:=4) rfl k_ (fun K hK=>?_));(rw[aao (by rfl)])
    go_simp;have fM:=aaE fM (show wA.heap.size<=_ from aai (gf.size) gk.size)
    go_at_call 16
    refine(HCs.out _ _ _ _ _ _ _ _ FD).mono ?_
    rintro e w7 ⟨W0,wc0,W1,wc1,W2,wc2,W3,wc3,W4,wc4,W5,wc5,W6,wc6,fs,rfl,ho,GT⟩;have Fq:=G9.trans (GT.mono G9.size);have gI:=gI.below GT gI.lt
    go_wp2_with fail
    refine hK _ _ (fun _=>HS.out _ Fq) (fun gl=>?_)
    have hS:=gl k_;clear hK K gl
    (try simp only[lp_])
    refine tE_ 5 rfl rfl ?_;(try simp only[lp_])
    refine tE_ 6 rfl rfl ?_;(try simp only[lp_])
    refine tF_ 7 rfl ?_;(try simp only[lp_])
    obtain⟨z_0,z_1,z_2,z_3,z_4,z_5,z_6,z_7,z_f0,z_f1,z_f2,z_f3,z_f4,z_f5,z_f6,z_f7⟩:=gI.b8
    (refine qg (i:=9) rfl k_ (fun K hK=>?_));(rw[aao (by rfl)])
    go_simp;refine hK _ _ (fun h=>by cases h) (fun _=>?_)
    clear hK K z_0 z_1 z_2 z_3 z_4 z_5 z_6 z_7 z_f0 z_f1 z_f2 z_f3 z_f4 z_f5 z_f6 z_f7
    (try simp only[lp_])
    (refine qg (i:=10) rfl k_ (fun K hK=>?_));(rw[aao (by rfl)])
    go_simp;refine hK _ _ (fun h=>by cases h) (fun _=>?_)
    clear hK K
    (try simp only[lp_])
    refine ky k_ ?_ _
    go_wp2;go_meet
    exact⟨_,_,_,_,_,_,_,_,_,_,_,_,_,_,_,fs,rfl,rfl,BoxSt.first (cs:= #[]) Fq ho gI Mj fM⟩
  case rest=>
   obtain⟨yW,W0,wc0,W1,wc1,W2,wc2,W3,wc3,W4,wc4,W5,wc5,W6,wc6,wfs,rfl,rfl,Nh⟩:=hcut;obtain⟨hW_,hgeW,Mk,hfarW,gG⟩:=Nh;obtain⟨w2,gS⟩:∃v:World,v=wc:=⟨_,rfl⟩;subst gS;have rD:=Mk.lt;have hllW:=hW_.lt;have mF:=Fl.below gG Fl.lt;have Fn:=fc.below gG fc.lt;have Ha:=h8.trans (gG.mono h8.size);clear Fl fc h8 gG vb_0 vb_1 vb_2 vb_3 vb_4 vb_5 vb_6 vb_7 ab_0 ab_1 ab_2 vlt alt;have gV:=hW_;have hoW2:=Mk;clear hW_ Mk;obtain⟨vb_0,vb_1,vb_2,vb_3,vb_4,vb_5,vb_6,vb_7⟩:=mF.c8
   go_wp2_with fail
   refine(vE _ _ _ _ _ _ _ S _ (h.below Ha) gi.out).mono ?_
   rintro e w3 ⟨X0,xc0,X1,xc1,X2,xc2,X3,xc3,X4,xc4,X5,xc5,X6,xc6,xfs,rfl,hoX3,Hh⟩;have nK:=hoX3.lt;have fA:=Hh.size;have rE:=mF.below Hh mF.lt;have FE:=Fn.below Hh Fn.lt;have GJ:=gV.below Hh gV.lt;have M5:=hoW2.kept Hh;have Hc:=Ha.trans (Hh.mono Ha.size);clear mF Fn gV hoW2 Ha Hh vb_0 vb_1 vb_2 vb_3 vb_4 vb_5 vb_6 vb_7;obtain⟨w4,hu⟩:∃v,v=w3.alloc (.cells #[.slice X0 S.D.fn.length xc0,.slice X1 S.D.fl.length xc1,.slice X2 S.D.nn.length xc2,.slice X3 S.D.nl.length xc3,.slice X4 S.D.ss.length xc4,.slice X5 S.cs.length xc5,.slice X6 S.ds.length xc6,.int .i64 S.fund] 34):=⟨_,rfl⟩;have fu:Below w3.heap.size w3 w4:=hu▸(aaj _ _).alloc (aaa _) _;have UE:Blk w4 w3.heap.size 34 #[.slice X0 S.D.fn.length xc0,.slice X1 S.D.fl.length xc1,.slice X2 S.D.nn.length xc2,.slice X3 S.D.nl.length xc3,.slice X4 S.D.ss.length xc4,.slice X5 S.cs.length xc5,.slice X6 S.ds.length xc6,.int .i64 S.fund]:=hu▸Blk.newAt rfl;have huz:w4.heap.size=w3.heap.size+1:=by rw[hu];simp
   have nL:=rE.below fu rE.lt;have Ca:=FE.below fu FE.lt;have bV:=GJ.below fu GJ.lt;have fN:=M5.kept fu;have hoX4:=hoX3.kept fu;have Hp:=Hc.trans (fu.mono Hc.size);clear rE FE GJ M5 hoX3 Hc fu;have G8:=UE;clear UE;have hBX:∃q,q=w3.heap.size:=⟨_,rfl⟩;obtain⟨BX,hBX⟩:=hBX;rw[<-hBX] at G8 huz nK;obtain⟨ab_0,ab_1,ab_2⟩:=Ca.c3;obtain⟨xb_0,xb_1,xb_2,xb_3,xb_4,xb_5,xb_6,xb_7⟩:=G8.c8;have alt:=Ca.lt;have xlt:=G8.lt;have o2:w2.heap.size<=BX:=by rw[hBX];exact fA
   have o3:BX<w4.heap.size:=G8.lt
   go_upto_region 7 with (fail)
   rw[<-hu,<-hBX];clear hu hBX huz
   go_cut [9,10] (fun s6 s7 wx=>∃(y:Nat) (G0:Option Addr) (gc0:Nat) (G1:Option Addr) (gc1:Nat) (G2:Option Addr) (gc2:Nat) (G3:Option Addr) (gc3:Nat) (G4:Option Addr) (gc4:Nat) (G5:Option Addr) (gc5:Nat) (G6:Option Addr) (gc6:Nat) (fs:List SF),s6= .pointer (some ⟨y,0,none⟩)/\s7= .int .i64 nn/\BoxSt w4 y (.slice G0 E.D.fn.length gc0) (.slice G1 E.D.fl.length gc1) (.slice G2 E.D.nn.length gc2) (.slice G3 E.D.nl.length gc3) (.slice G4 E.D.ss.length gc4) (.slice G5 E.cs.length gc5) (.slice G6 E.ds.length gc6) E fs wx)
   case first=>
    have fr:Below w4.heap.size w4 w4.drew:=(aaj _ _).drew;refine vo (n:=8) (S:=fun w'=>w'.cell? ⟨BX,0,none⟩=some (.slice X0 S.D.fn.length xc0)/\w'.cell? ⟨BX,1,none⟩=some (.slice X1 S.D.fl.length xc1)/\w'.cell? ⟨BX,2,none⟩=some (.slice X2 S.D.nn.length xc2)/\w'.cell? ⟨BX,3,none⟩=some (.slice X3 S.D.nl.length xc3)/\w'.cell? ⟨BX,4,none⟩=some (.slice X4 S.D.ss.length xc4)/\w'.cell? ⟨BX,5,none⟩=some (.slice X5 S.cs.length xc5)/\w'.cell? ⟨BX,6,none⟩=some (.slice X6 S.ds.length xc6)/\w'.cell? ⟨BX,7,none⟩=some (.int .i64 S.fund)/\w'.cell? ⟨w.heap.size+1,0,none⟩=some (.int .i64 ka)/\w'.cell? ⟨w.heap.size+1,1,none⟩=some (.int .i64 aa)/\w'.cell? ⟨w.heap.size+1,2,none⟩=some (.int .i64 ab)) k_ ⟨xb_0,xb_1,xb_2,xb_3,xb_4,xb_5,xb_6,xb_7,ab_0,ab_1,ab_2⟩ (fun hS=>?_)
    have HS:=h_ (fun (v:World) (hb:Below w4.heap.size w4 v)=>(⟨(hb.cell (p:=⟨BX,0,none⟩) xlt).trans xb_0,(hb.cell (p:=⟨BX,1,none⟩) xlt).trans xb_1,(hb.cell (p:=⟨BX,2,none⟩) xlt).trans xb_2,(hb.cell (p:=⟨BX,3,none⟩) xlt).trans xb_3,(hb.cell (p:=⟨BX,4,none⟩) xlt).trans xb_4,(hb.cell (p:=⟨BX,5,none⟩) xlt).trans xb_5,(hb.cell (p:=⟨BX,6,none⟩) xlt).trans xb_6,(hb.cell (p:=⟨BX,7,none⟩) xlt).trans xb_7,(hb.cell (p:=⟨w.heap.size+1,0,none⟩) alt).trans ab_0,(hb.cell (p:=⟨w.heap.size+1,1,none⟩) alt).trans ab_1,(hb.cell (p:=⟨w.heap.size+1,2,none⟩) alt).trans ab_2⟩:v.cell? ⟨BX,0,none⟩=some (.slice X0 S.D.fn.length xc0)/\v.cell? ⟨BX,1,none⟩=some (.slice X1 S.D.fl.length xc1)/\v.cell? ⟨BX,2,none⟩=some (.slice X2 S.D.nn.length xc2)/\v.cell? ⟨BX,3,none⟩=some (.slice X3 S.D.nl.length xc3)/\v.cell? ⟨BX,4,none⟩=some (.slice X4 S.D.ss.length xc4)/\v.cell? ⟨BX,5,none⟩=some (.slice X5 S.cs.length xc5)/\v.cell? ⟨BX,6,none⟩=some (.slice X6 S.ds.length xc6)/\v.cell? ⟨BX,7,none⟩=some (.int .i64 S.fund)/\v.cell? ⟨w.heap.size+1,0,none⟩=some (.int .i64 ka)/\v.cell? ⟨w.heap.size+1,1,none⟩=some (.int .i64 aa)/\v.cell? ⟨w.heap.size+1,2,none⟩=some (.int .i64 ab)));have HRX:=h_ (fun (v:World) (hb:Below w4.heap.size w4 v)=>hoX4.reads.below hb);generalize w4.drew=wd at*;refine tE_ 0 rfl rfl ?_;(try simp only[lp_])
    refine tE_ 1 rfl rfl ?_;(try simp only[lp_])
    refine zaz (i:=2) (j:=7) rfl rfl k_ (fun K hK=>?_) (fun K hK=>?_)
    ·rw[aao (by rfl)]
     go_simp
     go_at_call 59
     refine(z7V ka aa ab _).mono ?_
     rintro e w6 ⟨rfl,gk⟩;have G9:=fr.trans (gk.mono fr.size)
     go_wp2_with fail
     refine hK _ _ (fun _=>HS.out _ G9) (fun gl=>?_)
     clear hK K gl
     (try simp only[lp_])
     refine zaz (i:=3) (j:=7) rfl rfl k_ (fun K hK=>?_) (fun K hK=>?_)
     ·rw[aao (by rfl)]
      go_simp
      go_at_call 15
      refine(uL.out _ _ _ _ _ _ _ _ (HRX.out _ G9)).mono ?_
      rintro e w7 ⟨G0,gc0,G1,gc1,G2,gc2,G3,gc3,G4,gc4,G5,gc5,G6,gc6,fs,rfl,ho,GT⟩;have Fq:=G9.trans (GT.mono G9.size)
      go_wp2_with fail
      refine hK _ _ (fun _=>HS.out _ Fq) (fun gl=>?_)
      have hS:=gl k_;clear hK K gl
      (try simp only[lp_])
      refine tE_ 4 rfl rfl ?_;(try simp only[lp_])
      refine tE_ 5 rfl rfl ?_;(try simp only[lp_])
      refine tF_ 6 rfl ?_;(try simp only[lp_])
      (refine qg (i:=7) rfl k_ (fun K hK=>?_));(rw[aao (by rfl)])
      go_simp;refine hK _ _ (fun _=>HS.out _ (Fq.alloc Fq.size _)) (fun gl=>?_)
      clear hK K gl
      (try simp only[lp_])
      have gI:=Blk.newAt (w:=w7) (g:=w7.heap.size) (t:=34) (cs:= z8_) rfl;obtain⟨z_0,z_1,z_2,z_3,z_4,z_5,z_6,z_7,z_f0,z_f1,z_f2,z_f3,z_f4,z_f5,z_f6,z_f7⟩:=gI.b8
      (refine qg (i:=8) rfl k_ (fun K hK=>?_));(rw[aao (by rfl)])
      go_simp;refine hK _ _ (fun h=>by cases h) (fun _=>?_)
      clear hK K z_0 z_1 z_2 z_3 z_4 z_5 z_6 z_7 z_f0 z_f1 z_f2 z_f3 z_f4 z_f5 z_f6 z_f7
      (try simp only[lp_])
      (refine qg (i:=9) rfl k_ (fun K hK=>?_));(rw[aao (by rfl)])
      go_simp;refine hK _ _ (fun h=>by cases h) (fun _=>?_)
      clear hK K
      (try simp only[lp_])
      refine ky k_ ?_ _
      go_wp2;go_meet
      exact⟨_,_,_,_,_,_,_,_,_,_,_,_,_,_,_,fs,rfl,rfl,BoxSt.last Fq ho G9.size⟩
     ·rw[aao (by rfl)]
      go_simp;have gI:=Blk.newAt (w:=w6) (g:=w6.heap.size) (t:=34) (cs:= z8_) rfl;have GS:=G9.alloc G9.size (.cells z8_ 34);have Mj:=G9.size;have fM:=gI.lt;obtain⟨wA,cN⟩:∃v,v=w6.alloc (.cells z8_ 34):=⟨_,rfl⟩;rw[<-cN] at gI GS fM⊢;clear cN;refine hK _ _ (fun _=>HS.out _ GS) (fun gl=>?_)
      clear hK K gl
      (try simp only[lp_])
      (refine qg (i:=3) rfl k_ (fun K hK=>?_));(rw[aao (by rfl)])
      go_simp
      go_at_call 15
      refine(uL.out _ _ _ _ _ _ _ _ (HRX.out _ GS)).mono ?_
      rintro e w7 ⟨G0,gc0,G1,gc1,G2,gc2,G3,gc3,G4,gc4,G5,gc5,G6,gc6,fs,rfl,ho,GT⟩;have Fq:=GS.trans (GT.mono GS.size);have gI:=gI.below GT gI.lt
      go_wp2_with fail
      refine hK _ _ (fun _=>HS.out _ Fq) (fun gl=>?_)
      have hS:=gl k_;clear hK K gl
      (try simp only[lp_])
      refine tE_ 4 rfl rfl ?_;(try simp only[lp_])
      refine tE_ 5 rfl rfl ?_;(try simp only[lp_])
      refine tF_ 6 rfl ?_;(try simp only[lp_])
      obtain⟨z_0,z_1,z_2,z_3,z_4,z_5,z_6,z_7,z_f0,z_f1,z_f2,z_f3,z_f4,z_f5,z_f6,z_f7⟩:=gI.b8
      (refine qg (i:=8) rfl k_ (fun K hK=>?_));(rw[aao (by rfl)])
      go_simp;refine hK _ _ (fun h=>by cases h) (fun _=>?_)
      clear hK K z_0 z_1 z_2 z_3 z_4 z_5 z_6 z_7 z_f0 z_f1 z_f2 z_f3 z_f4 z_f5 z_f6 z_f7
      (try simp only[lp_])
      (refine qg (i:=9) rfl k_ (fun K hK=>?_));(rw[aao (by rfl)])
      go_simp;refine hK _ _ (fun h=>by cases h) (fun _=>?_)
      clear hK K
      (try simp only[lp_])
      refine ky k_ ?_ _
      go_wp2;go_meet
      exact⟨_,_,_,_,_,_,_,_,_,_,_,_,_,_,_,fs,rfl,rfl,BoxSt.first (cs:= #[]) Fq ho gI Mj fM⟩
    ·rw[aao (by rfl)]
     go_simp;have gI:=Blk.newAt (w:=wd) (g:=wd.heap.size) (t:=34) (cs:= z8_) rfl;have GS:=fr.alloc fr.size (.cells z8_ 34);have Mj:=fr.size;have fM:=gI.lt;obtain⟨wA,cN⟩:∃v,v=wd.alloc (.cells z8_ 34):=⟨_,rfl⟩;rw[<-cN] at gI GS fM⊢;clear cN;refine hK _ _ (fun _=>HS.out _ GS) (fun gl=>?_)
     clear hK K gl
     (try simp only[lp_])
     (refine qg (i:=2) rfl k_ (fun K hK=>?_));(rw[aao (by rfl)])
     go_simp
     go_at_call 59
     refine(z7V ka aa ab _).mono ?_
     rintro e w6 ⟨rfl,gk⟩;have G9:=GS.trans (gk.mono GS.size);have gI:=gI.below gk gI.lt
     go_wp2_with fail
     refine hK _ _ (fun _=>HS.out _ G9) (fun gl=>?_)
     clear hK K gl
     (try simp only[lp_])
     (refine qg (i:=3) rfl k_ (fun K hK=>?_));(rw[aao (by rfl)])
     go_simp;have fM:=aaE fM (show wA.heap.size<=_ from gk.size)
     go_at_call 15
     refine(uL.out _ _ _ _ _ _ _ _ (HRX.out _ G9)).mono ?_
     rintro e w7 ⟨G0,gc0,G1,gc1,G2,gc2,G3,gc3,G4,gc4,G5,gc5,G6,gc6,fs,rfl,ho,GT⟩;have Fq:=G9.trans (GT.mono G9.size);have gI:=gI.below GT gI.lt
     go_wp2_with fail
     refine hK _ _ (fun _=>HS.out _ Fq) (fun gl=>?_)
     have hS:=gl k_;clear hK K gl
     (try simp only[lp_])
     refine tE_ 4 rfl rfl ?_;(try simp only[lp_])
     refine tE_ 5 rfl rfl ?_;(try simp only[lp_])
     refine tF_ 6 rfl ?_;(try simp only[lp_])
     obtain⟨z_0,z_1,z_2,z_3,z_4,z_5,z_6,z_7,z_f0,z_f1,z_f2,z_f3,z_f4,z_f5,z_f6,z_f7⟩:=gI.b8
     (refine qg (i:=8) rfl k_ (fun K hK=>?_));(rw[aao (by rfl)])
     go_simp;refine hK _ _ (fun h=>by cases h) (fun _=>?_)
     clear hK K z_0 z_1 z_2 z_3 z_4 z_5 z_6 z_7 z_f0 z_f1 z_f2 z_f3 z_f4 z_f5 z_f6 z_f7
     (try simp only[lp_])
     (refine qg (i:=9) rfl k_ (fun K hK=>?_));(rw[aao (by rfl)])
     go_simp;refine hK _ _ (fun h=>by cases h) (fun _=>?_)
     clear hK K
     (try simp only[lp_])
     refine ky k_ ?_ _
     go_wp2;go_meet
     exact⟨_,_,_,_,_,_,_,_,_,_,_,_,_,_,_,fs,rfl,rfl,BoxSt.first (cs:= #[]) Fq ho gI Mj fM⟩
   case rest=>
    obtain⟨yG,G0,gc0,G1,gc1,G2,gc2,G3,gc3,G4,gc4,G5,gc5,G6,gc6,gfs,rfl,rfl,Nh⟩:=hcut;obtain⟨hG_,hgeG,Ml,hfarG,gG⟩:=Nh;obtain⟨w5,GH⟩:∃v:World,v=wc:=⟨_,rfl⟩;subst GH;have rF:=Ml.lt;have hllG:=hG_.lt;have Ns:=gG.size;have nM:=nL.below gG nL.lt;have Cm:=Ca.below gG Ca.lt;have BO:=bV.below gG bV.lt;have Cn:=G8.below gG G8.lt;have fT:=fN.kept gG
    have hoX5:=hoX4.kept gG
    have Hx:=Hp.trans (gG.mono Hp.size);clear nL Ca bV G8 fN hoX4 Hp gG ab_0 ab_1 ab_2 xb_0 xb_1 xb_2 xb_3 xb_4 xb_5 xb_6 xb_7 alt xlt;have hG5:=hG_;have hoG5:=Ml;clear hG_ Ml;obtain⟨wb_0,wb_1,wb_2,wb_3,wb_4,wb_5,wb_6,wb_7⟩:=BO.c8;obtain⟨gb_0,gb_1,gb_2,gb_3,gb_4,gb_5,gb_6,gb_7⟩:=hG5.c8
    go_wp2_with fail
    refine(vG _ _ _ _ _ _ _ _ _ _ _ _ _ _ E _ hoG5.reads fT.reads).mono ?_
    rintro e w6 ⟨rfl,gk⟩;have Ct:=gk.size;have nN:=nM.below gk nM.lt;have nY:=Cm.below gk Cm.lt;have hW6:=BO.below gk BO.lt;have CC:=Cn.below gk Cn.lt;have hG6:=hG5.below gk hG5.lt;have F2:=fT.kept gk;have Bb:=hoX5.kept gk;have hoG6:=hoG5.kept gk;have gJ:=Hx.trans (gk.mono Hx.size);clear nM Cm BO Cn hG5 fT hoX5 hoG5 Hx gk wb_0 wb_1 wb_2 wb_3 wb_4 wb_5 wb_6 wb_7 gb_0 gb_1 gb_2 gb_3 gb_4 gb_5 gb_6 gb_7;have ad1:=nN.lt;have lW:∀k,qv (.slice W0 E.D.fn.length wc0) (.slice W1 E.D.fl.length wc1) (.slice W2 E.D.nn.length wc2) (.slice W3 E.D.nl.length wc3) (.slice W4 E.D.ss.length wc4) (.slice W5 E.cs.length wc5) (.slice W6 E.ds.length wc6) wfs k->w1.heap.size<=k/\k<w2.heap.size:=rD;have lX:∀k,qv (.slice X0 S.D.fn.length xc0) (.slice X1 S.D.fl.length xc1) (.slice X2 S.D.nn.length xc2) (.slice X3 S.D.nl.length xc3) (.slice X4 S.D.ss.length xc4) (.slice X5 S.cs.length xc5) (.slice X6 S.ds.length xc6) xfs k->w2.heap.size<=k/\k<BX:=nK;have lG:∀k,qv (.slice G0 E.D.fn.length gc0) (.slice G1 E.D.fl.length gc1) (.slice G2 E.D.nn.length gc2) (.slice G3 E.D.nl.length gc3) (.slice G4 E.D.ss.length gc4) (.slice G5 E.cs.length gc5) (.slice G6 E.ds.length gc6) gfs k->w4.heap.size<=k/\k<w5.heap.size:=rF;clear rD nK rF fA Ns;generalize w1.heap.size=B1 at*;generalize w2.heap.size=B2 at*;generalize w4.heap.size=B4 at*;generalize w5.heap.size=B5 at*
    obtain⟨vb_0,vb_1,vb_2,vb_3,vb_4,vb_5,vb_6,vb_7⟩:=nN.c8;obtain⟨xb_0,xb_1,xb_2,xb_3,xb_4,xb_5,xb_6,xb_7⟩:=CC.c8;have xlt:=CC.lt;have wm:=h_ (h.below gJ);have wn:=h_ Bb.reads
    go_wp2_with fail
    go_region_held3 (fun w'=>w'.cell? ⟨w.heap.size,0,none⟩=some (v0)/\w'.cell? ⟨w.heap.size,1,none⟩=some (v1)/\w'.cell? ⟨w.heap.size,2,none⟩=some (v2)/\w'.cell? ⟨w.heap.size,3,none⟩=some (v3)/\w'.cell? ⟨w.heap.size,4,none⟩=some (v4)/\w'.cell? ⟨w.heap.size,5,none⟩=some (v5)/\w'.cell? ⟨w.heap.size,6,none⟩=some (v6)/\w'.cell? ⟨w.heap.size,7,none⟩=some (.int .i64 S.fund)/\w'.cell? ⟨BX,0,none⟩=some (.slice X0 S.D.fn.length xc0)/\w'.cell? ⟨BX,1,none⟩=some (.slice X1 S.D.fl.length xc1)/\w'.cell? ⟨BX,2,none⟩=some (.slice X2 S.D.nn.length xc2)/\w'.cell? ⟨BX,3,none⟩=some (.slice X3 S.D.nl.length xc3)/\w'.cell? ⟨BX,4,none⟩=some (.slice X4 S.D.ss.length xc4)/\w'.cell? ⟨BX,5,none⟩=some (.slice X5 S.cs.length xc5)/\w'.cell? ⟨BX,6,none⟩=some (.slice X6 S.ds.length xc6)/\w'.cell? ⟨BX,7,none⟩=some (.int .i64 S.fund))
     (go_keep)
     (first|(go_at_call 28;refine Calls.mono (vE v0 v1 v2 v3 v4 v5 v6 S _ (wm.out.below ?c1) gi.out) ?_;(case c1=>exact bel_);rintro e w7 ⟨Q0,qc0,Q1,qc1,Q2,qc2,Q3,qc3,Q4,qc4,Q5,qc5,Q6,qc6,qfs,rfl,wo,GT⟩;(have hc7:=bdC GT);have hz7:=GT.size;(try simp at hz7);(try have hp7_0:=p0_ w w7);(have mm7:BX<w7.heap.size:=by omega))|(go_at_call 30;refine(vG _ _ _ _ _ _ _ _ _ _ _ _ _ _ S _ (wn.out.below ?c2) wo.reads).mono ?_;(case c2=>exact bel_);rintro e w8 ⟨rfl,Br⟩;(have hc8:=bcC Br)))
    have gG:Below w6.heap.size w6 w8:=bel_
    clear wo GT Br hc7 hc8;have uM:=nN.below gG nN.lt;have U5:=nY.below gG nY.lt;have hW8:=hW6.below gG hW6.lt;have rG:=CC.below gG CC.lt;have hG8:=hG6.below gG hG6.lt;have Cw:=F2.kept gG
    have Bc:=Bb.kept gG
    have hoG8:=hoG6.kept gG
    have Fg:=gJ.trans (gG.mono gJ.size);clear nN nY hW6 CC hG6 F2 Bb hoG6 gJ gG wm wn vb_0 vb_1 vb_2 vb_3 vb_4 vb_5 vb_6 vb_7 xb_0 xb_1 xb_2 xb_3 xb_4 xb_5 xb_6 xb_7 xlt;obtain⟨xb_0,xb_1,xb_2,xb_3,xb_4,xb_5,xb_6,xb_7⟩:=rG.c8
    go_wp2_with fail
    refine(xX _ _ _ _ _ _ _ _ S xfs 1 _ Bc o_ o_).mono ?_
    rintro e w9 ⟨rfl,_,wu⟩;have rH:=uM.turned wu (fun hk=>by have:=lX _ hk;omega);have hA9:=U5.turned wu (fun hk=>by have:=lX _ hk;omega);have uN:=hW8.turned wu (fun hk=>by have:=lX _ hk;omega);have hG9:=hG8.turned wu (fun hk=>by have:=lX _ hk;omega);have Cg:=Cw.turned wu (fun k hk gH=>by have:=lW k hk;have:=lX k gH;omega);have nO:=hoG8.turned wu (fun k hk gH=>by have:=lG k hk;have:=lX k gH;omega);have Fb:=Fg.trans (wu.below (fun k hk=>by have:=lX k hk;omega) Fg.size);clear uM U5 hW8 rG hG8 Cw Bc hoG8 Fg wu xb_0 xb_1 xb_2 xb_3 xb_4 xb_5 xb_6 xb_7;obtain⟨wb_0,wb_1,wb_2,wb_3,wb_4,wb_5,wb_6,wb_7⟩:=uN.c8;obtain⟨gb_0,gb_1,gb_2,gb_3,gb_4,gb_5,gb_6,gb_7⟩:=hG9.c8
    go_wp2_with fail
    refine(vG _ _ _ _ _ _ _ _ _ _ _ _ _ _ E _ nO.reads Cg.reads).mono ?_
    rintro e w10 ⟨rfl,mm⟩;have Ck:=rH.below mm rH.lt;have hA10:=hA9.below mm hA9.lt;have nP:=uN.below mm uN.lt;have Mm:=hG9.below mm hG9.lt;have bF:=Cg.kept mm;have bG:=nO.kept mm;have ft:=Fb.trans (mm.mono Fb.size);clear rH hA9 uN hG9 Cg nO Fb mm wb_0 wb_1 wb_2 wb_3 wb_4 wb_5 wb_6 wb_7 gb_0 gb_1 gb_2 gb_3 gb_4 gb_5 gb_6 gb_7;obtain⟨gb_0,gb_1,gb_2,gb_3,gb_4,gb_5,gb_6,gb_7⟩:=Mm.c8
    go_wp2_with fail
    refine(xX _ _ _ _ _ _ _ _ E gfs 1 _ bG o_ o_).mono ?_
    rintro e w11 ⟨rfl,rI,Mn⟩;have Mo:=Ck.turned Mn (fun hk=>by have:=lG _ hk;omega);have hA11:=hA10.turned Mn (fun hk=>by have:=lG _ hk;omega);have Mp:=nP.turned Mn (fun hk=>by have:=lG _ hk;omega);have mn:=Mm.turned Mn (fun hk=>hfarG hk);have mo:=bF.turned Mn (fun k hk gH=>by have:=lW k hk;have:=lG k gH;omega);have Fp:=ft.trans (Mn.below (fun k hk=>by have:=lG k hk;omega) ft.size);clear Ck hA10 nP Mm bF bG ft Mn gb_0 gb_1 gb_2 gb_3 gb_4 gb_5 gb_6 gb_7;obtain⟨gb_0,gb_1,gb_2,gb_3,gb_4,gb_5,gb_6,gb_7⟩:=mn.c8
    go_wp2_with fail
    refine(QT _ _ _ _ _ _ _ E 1 _ rI.reads o_ o_).mono ?_
    rintro e w12 ⟨rfl,gq⟩;have FS:=Mo.below gq Mo.lt;have rJ:=hA11.below gq hA11.lt;have Mq:=Mp.below gq Mp.lt;have Mr:=mn.below gq mn.lt;have mp:=mo.kept gq;have wv:=rI.kept gq;have fP:=Fp.trans (gq.mono Fp.size);clear Mo hA11 Mp mn mo rI Fp gq gb_0 gb_1 gb_2 gb_3 gb_4 gb_5 gb_6 gb_7;obtain⟨vb_0,vb_1,vb_2,vb_3,vb_4,vb_5,vb_6,vb_7⟩:=FS.c8;obtain⟨ab_0,ab_1,ab_2⟩:=rJ.c3;have vlt:=FS.lt;have alt:=rJ.lt
    go_upto_region 24 with (fail)
    go_cut [14,15] (fun s6 s7 wx=>∃(y:Nat) (H0:Option Addr) (C8:Nat) (H1:Option Addr) (Gb:Nat) (H2:Option Addr) (fa:Nat) (H3:Option Addr) (fU:Nat) (H4:Option Addr) (Cp:Nat) (H5:Option Addr) (cV:Nat) (H6:Option Addr) (CE:Nat) (fs:List SF),s6= .pointer (some ⟨y,0,none⟩)/\s7= .int .i64 nn/\BoxSt w12 y (.slice H0 E.D.fn.length C8) (.slice H1 E.D.fl.length Gb) (.slice H2 E.D.nn.length fa) (.slice H3 E.D.nl.length fU) (.slice H4 E.D.ss.length Cp) (.slice H5 E.cs.length cV) (.slice H6 E.ds.length CE) E fs wx)
    case first=>
     have fr:Below w12.heap.size w12 w12.drew:=(aaj _ _).drew;refine vo (n:=9) (S:=fun w'=>w'.cell? ⟨w.heap.size,0,none⟩=some (v0)/\w'.cell? ⟨w.heap.size,1,none⟩=some (v1)/\w'.cell? ⟨w.heap.size,2,none⟩=some (v2)/\w'.cell? ⟨w.heap.size,3,none⟩=some (v3)/\w'.cell? ⟨w.heap.size,4,none⟩=some (v4)/\w'.cell? ⟨w.heap.size,5,none⟩=some (v5)/\w'.cell? ⟨w.heap.size,6,none⟩=some (v6)/\w'.cell? ⟨w.heap.size,7,none⟩=some (.int .i64 S.fund)/\w'.cell? ⟨w.heap.size+1,0,none⟩=some (.int .i64 ka)/\w'.cell? ⟨w.heap.size+1,1,none⟩=some (.int .i64 aa)/\w'.cell? ⟨w.heap.size+1,2,none⟩=some (.int .i64 ab)) k_ ⟨vb_0,vb_1,vb_2,vb_3,vb_4,vb_5,vb_6,vb_7,ab_0,ab_1,ab_2⟩ (fun hS=>?_)
     have HS:=h_ (fun (v:World) (hb:Below w12.heap.size w12 v)=>(⟨(hb.cell (p:=⟨w.heap.size,0,none⟩) vlt).trans vb_0,(hb.cell (p:=⟨w.heap.size,1,none⟩) vlt).trans vb_1,(hb.cell (p:=⟨w.heap.size,2,none⟩) vlt).trans vb_2,(hb.cell (p:=⟨w.heap.size,3,none⟩) vlt).trans vb_3,(hb.cell (p:=⟨w.heap.size,4,none⟩) vlt).trans vb_4,(hb.cell (p:=⟨w.heap.size,5,none⟩) vlt).trans vb_5,(hb.cell (p:=⟨w.heap.size,6,none⟩) vlt).trans vb_6,(hb.cell (p:=⟨w.heap.size,7,none⟩) vlt).trans vb_7,(hb.cell (p:=⟨w.heap.size+1,0,none⟩) alt).trans ab_0,(hb.cell (p:=⟨w.heap.size+1,1,none⟩) alt).trans ab_1,(hb.cell (p:=⟨w.heap.size+1,2,none⟩) alt).trans ab_2⟩:v.cell? ⟨w.heap.size,0,none⟩=some (v0)/\v.cell? ⟨w.heap.size,1,none⟩=some (v1)/\v.cell? ⟨w.heap.size,2,none⟩=some (v2)/\v.cell? ⟨w.heap.size,3,none⟩=some (v3)/\v.cell? ⟨w.heap.size,4,none⟩=some (v4)/\v.cell? ⟨w.heap.size,5,none⟩=some (v5)/\v.cell? ⟨w.heap.size,6,none⟩=some (v6)/\v.cell? ⟨w.heap.size,7,none⟩=some (.int .i64 S.fund)/\v.cell? ⟨w.heap.size+1,0,none⟩=some (.int .i64 ka)/\v.cell? ⟨w.heap.size+1,1,none⟩=some (.int .i64 aa)/\v.cell? ⟨w.heap.size+1,2,none⟩=some (.int .i64 ab)));have HT:=h_ (fun (v:World) (hb:Below w12.heap.size w12 v)=>vE v0 v1 v2 v3 v4 v5 v6 S v (h.below (fP.trans (hb.mono fP.size))) gi.out);generalize w12.drew=wd at*;refine tE_ 0 rfl rfl ?_;(try simp only[lp_])
     refine tE_ 2 rfl rfl ?_;(try simp only[lp_])
     refine zaz (i:=1) (j:=8) rfl rfl k_ (fun K hK=>?_) (fun K hK=>?_)
     ·rw[aao (by rfl)]
      go_simp
      go_at_call 28
      refine(HT.out _ fr).mono ?_
      rintro e w5 ⟨T0,tc0,T1,tc1,T2,tc2,T3,tc3,T4,tc4,T5,tc5,T6,tc6,tfs,rfl,rC,gf⟩;have FD:=rC.reads;clear rC;have CF:=fr.trans (gf.mono fr.size)
      go_wp2_with fail
      refine hK _ _ (fun _=>HS.out _ CF) (fun gl=>?_)
      clear hK K gl
      (try simp only[lp_])
      refine zaz (i:=3) (j:=8) rfl rfl k_ (fun K hK=>?_) (fun K hK=>?_)
      ·rw[aao (by rfl)]
       go_simp
       go_at_call 59
       refine(z7V ka aa ab _).mono ?_
       rintro e w6 ⟨rfl,gk⟩;have FD:=FD.below gk;have G9:=CF.trans (gk.mono CF.size)
       go_wp2_with fail
       refine hK _ _ (fun _=>HS.out _ G9) (fun gl=>?_)
       clear hK K gl
       (try simp only[lp_])
       refine zaz (i:=4) (j:=8) rfl rfl k_ (fun K hK=>?_) (fun K hK=>?_)
       ·rw[aao (by rfl)]
        go_simp
        go_at_call 15
        refine(uL.out _ _ _ _ _ _ _ _ FD).mono ?_
        rintro e w7 ⟨H0,C8,H1,Gb,H2,fa,H3,fU,H4,Cp,H5,cV,H6,CE,fs,rfl,ho,GT⟩;have Fq:=G9.trans (GT.mono G9.size)
        go_wp2_with fail
        refine hK _ _ (fun _=>HS.out _ Fq) (fun gl=>?_)
        have hS:=gl k_;clear hK K gl
        (try simp only[lp_])
        refine tE_ 5 rfl rfl ?_;(try simp only[lp_])
        refine tE_ 6 rfl rfl ?_;(try simp only[lp_])
        refine tF_ 7 rfl ?_;(try simp only[lp_])
        (refine qg (i:=8) rfl k_ (fun K hK=>?_));(rw[aao (by rfl)])
        go_simp;refine hK _ _ (fun _=>HS.out _ (Fq.alloc Fq.size _)) (fun gl=>?_)
        clear hK K gl
        (try simp only[lp_])
        have gI:=Blk.newAt (w:=w7) (g:=w7.heap.size) (t:=34) (cs:= z8_) rfl;obtain⟨z_0,z_1,z_2,z_3,z_4,z_5,z_6,z_7,z_f0,z_f1,z_f2,z_f3,z_f4,z_f5,z_f6,z_f7⟩:=gI.b8
        (refine qg (i:=9) rfl k_ (fun K hK=>?_));(rw[aao (by rfl)])
        go_simp;refine hK _ _ (fun h=>by cases h) (fun _=>?_)
        clear hK K z_0 z_1 z_2 z_3 z_4 z_5 z_6 z_7 z_f0 z_f1 z_f2 z_f3 z_f4 z_f5 z_f6 z_f7
        (try simp only[lp_])
        (refine qg (i:=10) rfl k_ (fun K hK=>?_));(rw[aao (by rfl)])
        go_simp;refine hK _ _ (fun h=>by cases h) (fun _=>?_)
        clear hK K
        (try simp only[lp_])
        refine ky k_ ?_ _
        go_wp2;go_meet
        exact⟨_,_,_,_,_,_,_,_,_,_,_,_,_,_,_,fs,rfl,rfl,BoxSt.last Fq ho G9.size⟩
       ·rw[aao (by rfl)]
        go_simp;have gI:=Blk.newAt (w:=w6) (g:=w6.heap.size) (t:=34) (cs:= z8_) rfl;have GS:=G9.alloc G9.size (.cells z8_ 34);have Mj:=G9.size;have fM:=gI.lt;obtain⟨wA,cN⟩:∃v,v=w6.alloc (.cells z8_ 34):=⟨_,rfl⟩;have FD:=FD.below ((aaj _ _).alloc (aaa _) (.cells z8_ 34));rw[<-cN] at gI GS fM FD⊢;clear cN;refine hK _ _ (fun _=>HS.out _ GS) (fun gl=>?_)
        clear hK K gl
        (try simp only[lp_])
        (refine qg (i:=4) rfl k_ (fun K hK=>?_));(rw[aao (by rfl)])
        go_simp
        go_at_call 15
        refine(uL.out _ _ _ _ _ _ _ _ FD).mono ?_
        rintro e w7 ⟨H0,C8,H1,Gb,H2,fa,H3,fU,H4,Cp,H5,cV,H6,CE,fs,rfl,ho,GT⟩;have Fq:=GS.trans (GT.mono GS.size);have gI:=gI.below GT gI.lt
        go_wp2_with fail
        refine hK _ _ (fun _=>HS.out _ Fq) (fun gl=>?_)
        have hS:=gl k_;clear hK K gl
        (try simp only[lp_])
        refine tE_ 5 rfl rfl ?_;(try simp only[lp_])
        refine tE_ 6 rfl rfl ?_;(try simp only[lp_])
        refine tF_ 7 rfl ?_;(try simp only[lp_])
        obtain⟨z_0,z_1,z_2,z_3,z_4,z_5,z_6,z_7,z_f0,z_f1,z_f2,z_f3,z_f4,z_f5,z_f6,z_f7⟩:=gI.b8
        (refine qg (i:=9) rfl k_ (fun K hK=>?_));(rw[aao (by rfl)])
        go_simp;refine hK _ _ (fun h=>by cases h) (fun _=>?_)
        clear hK K z_0 z_1 z_2 z_3 z_4 z_5 z_6 z_7 z_f0 z_f1 z_f2 z_f3 z_f4 z_f5 z_f6 z_f7
        (try simp only[lp_])
        (refine qg (i:=10) rfl k_ (fun K hK=>?_));(rw[aao (by rfl)])
        go_simp;refine hK _ _ (fun h=>by cases h) (fun _=>?_)
        clear hK K
        (try simp only[lp_])
        refine ky k_ ?_ _
        go_wp2;go_meet
        exact⟨_,_,_,_,_,_,_,_,_,_,_,_,_,_,_,fs,rfl,rfl,BoxSt.first (cs:= #[]) Fq ho gI Mj fM⟩
      ·rw[aao (by rfl)]
       go_simp;have gI:=Blk.newAt (w:=w5) (g:=w5.heap.size) (t:=34) (cs:= z8_) rfl;have GS:=CF.alloc CF.size (.cells z8_ 34);have Mj:=CF.size;have fM:=gI.lt;obtain⟨wA,cN⟩:∃v,v=w5.alloc (.cells z8_ 34):=⟨_,rfl⟩;have FD:=FD.below ((aaj _ _).alloc (aaa _) (.cells z8_ 34));rw[<-cN] at gI GS fM FD⊢;clear cN;refine hK _ _ (fun _=>HS.out _ GS) (fun gl=>?_)
       clear hK K gl
       (try simp only[lp_])
       (refine qg (i:=3) rfl k_ (fun K hK=>?_));(rw[aao (by rfl)])
       go_simp
       go_at_call 59
       refine(z7V ka aa ab _).mono ?_
       rintro e w6 ⟨rfl,gk⟩;have FD:=FD.below gk;have G9:=GS.trans (gk.mono GS.size);have gI:=gI.below gk gI.lt
       go_wp2_with fail
       refine hK _ _ (fun _=>HS.out _ G9) (fun gl=>?_)
       clear hK K gl
       (try simp only[lp_])
       (refine qg (i:=4) rfl k_ (fun K hK=>?_));(rw[aao (by rfl)])
       go_simp;have fM:=aaE fM (show wA.heap.size<=_ from gk.size)
       go_at_call 15
       refine(uL.out _ _ _ _ _ _ _ _ FD).mono ?_
       rintro e w7 ⟨H0,C8,H1,Gb,H2,fa,H3,fU,H4,Cp,H5,cV,H6,CE,fs,rfl,ho,GT⟩;have Fq:=G9.trans (GT.mono G9.size);have gI:=gI.below GT gI.lt
       go_wp2_with fail
       refine hK _ _ (fun _=>HS.out _ Fq) (fun gl=>?_)
       have hS:=gl k_;clear hK K gl
       (try simp only[lp_])
       refine tE_ 5 rfl rfl ?_;(try simp only[lp_])
       refine tE_ 6 rfl rfl ?_;(try simp only[lp_])
       refine tF_ 7 rfl ?_;(try simp only[lp_])
       obtain⟨z_0,z_1,z_2,z_3,z_4,z_5,z_6,z_7,z_f0,z_f1,z_f2,z_f3,z_f4,z_f5,z_f6,z_f7⟩:=gI.b8
       (refine qg (i:=9) rfl k_ (fun K hK=>?_));(rw[aao (by rfl)])
       go_simp;refine hK _ _ (fun h=>by cases h) (fun _=>?_)
       clear hK K z_0 z_1 z_2 z_3 z_4 z_5 z_6 z_7 z_f0 z_f1 z_f2 z_f3 z_f4 z_f5 z_f6 z_f7
       (try simp only[lp_])
       (refine qg (i:=10) rfl k_ (fun K hK=>?_));(rw[aao (by rfl)])
       go_simp;refine hK _ _ (fun h=>by cases h) (fun _=>?_)
       clear hK K
       (try simp only[lp_])
       refine ky k_ ?_ _
       go_wp2;go_meet
       exact⟨_,_,_,_,_,_,_,_,_,_,_,_,_,_,_,fs,rfl,rfl,BoxSt.first (cs:= #[]) Fq ho gI Mj fM⟩
     ·rw[aao (by rfl)]
      go_simp;have gI:=Blk.newAt (w:=wd) (g:=wd.heap.size) (t:=34) (cs:= z8_) rfl;have GS:=fr.alloc fr.size (.cells z8_ 34);have Mj:=fr.size;have fM:=gI.lt;obtain⟨wA,cN⟩:∃v,v=wd.alloc (.cells z8_ 34):=⟨_,rfl⟩;rw[<-cN] at gI GS fM⊢;clear cN;refine hK _ _ (fun _=>HS.out _ GS) (fun gl=>?_)
      clear hK K gl
      (try simp only[lp_])
      (refine qg (i:=1) rfl k_ (fun K hK=>?_));(rw[aao (by rfl)])
      go_simp
      go_at_call 28
      refine(HT.out _ GS).mono ?_
      rintro e w5 ⟨T0,tc0,T1,tc1,T2,tc2,T3,tc3,T4,tc4,T5,tc5,T6,tc6,tfs,rfl,rC,gf⟩;have FD:=rC.reads;clear rC;have CF:=GS.trans (gf.mono GS.size);have gI:=gI.below gf gI.lt
      go_wp2_with fail
      refine hK _ _ (fun _=>HS.out _ CF) (fun gl=>?_)
      clear hK K gl
      (try simp only[lp_])
      (refine qg (i:=3) rfl k_ (fun K hK=>?_));(rw[aao (by rfl)])
      go_simp
      go_at_call 59
      refine(z7V ka aa ab _).mono ?_
      rintro e w6 ⟨rfl,gk⟩;have FD:=FD.below gk;have G9:=CF.trans (gk.mono CF.size);have gI:=gI.below gk gI.lt
      go_wp2_with fail
      refine hK _ _ (fun _=>HS.out _ G9) (fun gl=>?_)
      clear hK K gl
      (try simp only[lp_])
      (refine qg (i:=4) rfl k_ (fun K hK=>?_));(rw[aao (by rfl)])
      go_simp;have fM:=aaE fM (show wA.heap.size<=_ from aai (gf.size) gk.size)
      go_at_call 15
      refine(uL.out _ _ _ _ _ _ _ _ FD).mono ?_
      rintro e w7 ⟨H0,C8,H1,Gb,H2,fa,H3,fU,H4,Cp,H5,cV,H6,CE,fs,rfl,ho,GT⟩;have Fq:=G9.trans (GT.mono G9.size);have gI:=gI.below GT gI.lt
      go_wp2_with fail
      refine hK _ _ (fun _=>HS.out _ Fq) (fun gl=>?_)
      have hS:=gl k_;clear hK K gl
      (try simp only[lp_])
      refine tE_ 5 rfl rfl ?_;(try simp only[lp_])
      refine tE_ 6 rfl rfl ?_;(try simp only[lp_])
      refine tF_ 7 rfl ?_;(try simp only[lp_])
      obtain⟨z_0,z_1,z_2,z_3,z_4,z_5,z_6,z_7,z_f0,z_f1,z_f2,z_f3,z_f4,z_f5,z_f6,z_f7⟩:=gI.b8
      (refine qg (i:=9) rfl k_ (fun K hK=>?_));(rw[aao (by rfl)])
      go_simp;refine hK _ _ (fun h=>by cases h) (fun _=>?_)
      clear hK K z_0 z_1 z_2 z_3 z_4 z_5 z_6 z_7 z_f0 z_f1 z_f2 z_f3 z_f4 z_f5 z_f6 z_f7
      (try simp only[lp_])
      (refine qg (i:=10) rfl k_ (fun K hK=>?_));(rw[aao (by rfl)])
      go_simp;refine hK _ _ (fun h=>by cases h) (fun _=>?_)
      clear hK K
      (try simp only[lp_])
      refine ky k_ ?_ _
      go_wp2;go_meet
      exact⟨_,_,_,_,_,_,_,_,_,_,_,_,_,_,_,fs,rfl,rfl,BoxSt.first (cs:= #[]) Fq ho gI Mj fM⟩
    case rest=>
     obtain⟨yH,H0,C8,H1,Gb,H2,fa,H3,fU,H4,Cp,H5,cV,H6,CE,hfs,rfl,rfl,Nh⟩:=hcut;obtain⟨hH_,hgeH,rK,hfarH,gG⟩:=Nh;obtain⟨w13,hw13⟩:∃v:World,v=wc:=⟨_,rfl⟩;subst hw13;have rL:=FS.below gG FS.lt;have hA13:=rJ.below gG rJ.lt;have hW13:=Mq.below gG Mq.lt;have hG13:=Mr.below gG Mr.lt;have wy:=mp.kept gG
     have wz:=wv.kept gG
     have CG:=fP.trans (gG.mono fP.size);clear FS rJ Mq Mr mp wv fP gG vb_0 vb_1 vb_2 vb_3 vb_4 vb_5 vb_6 vb_7 ab_0 ab_1 ab_2 vlt alt;have hH13:=hH_;have wC:=rK;clear hH_ rK;obtain⟨wb_0,wb_1,wb_2,wb_3,wb_4,wb_5,wb_6,wb_7⟩:=hW13.c8;obtain⟨hb_0,hb_1,hb_2,hb_3,hb_4,hb_5,hb_6,hb_7⟩:=hH13.c8
     go_wp2_with fail
     refine(vG _ _ _ _ _ _ _ _ _ _ _ _ _ _ E _ wC.reads wy.reads).mono ?_
     rintro e w14 ⟨rfl,gG⟩;have nQ:=hG13.below gG hG13.lt;have wD:=wz.kept gG
     have Fd:=CG.trans (gG.mono CG.size);clear rL hA13 hW13 hG13 hH13 wy wz wC CG gG wb_0 wb_1 wb_2 wb_3 wb_4 wb_5 wb_6 wb_7 hb_0 hb_1 hb_2 hb_3 hb_4 hb_5 hb_6 hb_7;obtain⟨gb_0,gb_1,gb_2,gb_3,gb_4,gb_5,gb_6,gb_7⟩:=nQ.c8
     go_wp2_with fail
     refine(QT _ _ _ _ _ _ _ E 1 _ wD.reads o_ o_).mono ?_
     rintro e w16 ⟨rfl,hb16⟩;have CH:=Fd.trans (hb16.mono Fd.size);clear hb16 nQ wD Fd gb_0 gb_1 gb_2 gb_3 gb_4 gb_5 gb_6 gb_7;go_wp2;go_ret
     exact⟨rfl,CH⟩
end Go.Proofs.YtnjcpljhmhdhkaaGreat
