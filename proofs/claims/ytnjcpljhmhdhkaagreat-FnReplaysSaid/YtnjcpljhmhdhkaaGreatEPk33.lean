/- part 33 -/
import Derived.Test.YtnjcpljhmhdhkaaGreatEPk30
import Derived.Test.YtnjcpljhmhdhkaaGreatEPk32
import Derived.Deep.Slices
import Derived.Deep.Fields
import Derived.ChangeSame
import Derived.OwnWalk
import Derived.StillTailTactics
set_option linter.unusedSimpArgs false
set_option linter.unusedVariables false
set_option maxRecDepth 100000
set_option maxHeartbeats 16000000
namespace Go.Proofs.YtnjcpljhmhdhkaaGreat
open Go.ChangeShapes Go.WideShapes Go.RowKit
structure Ac where
 k:Int
 a:Int
 b:Int
def Ac.cs (r:Ac):List Value:=[.int .i64 r.k,.int .i64 r.a,.int .i64 r.b]
def RA (w:World) (v:Value) (l:List Ac):Prop:=RS w 3 v l.length (l.flatMap Ac.cs)
theorem RA.below {w w':World} {v:Value} {l:List Ac} (h:RA w v l) (hb:Below w.heap.size w w'):RA w' v l:=RS.below h hb
theorem RA.form {w:World} {v:Value} {l:List Ac} (h:RA w v l):∃A c,v= .slice A l.length c/\l.length<=c/\l.length<=maxLen/\
  (0<l.length->∃b off,A=some ⟨b,off,none⟩/\b<w.heap.size/\∀k (hk:k<l.length),w.cell? ⟨b,off+k*3,none⟩=some (.int .i64 l[k].k)/\w.cell? ⟨b,off+k*3+1,none⟩=some (.int .i64 l[k].a)/\
   w.cell? ⟨b,off+k*3+2,none⟩=some (.int .i64 l[k].b)):=by
 obtain⟨_,A,c,hv,h1,h2,h3⟩:=h;refine⟨A,c,hv,h1,h2,fun hn=>?_⟩
 obtain⟨b,off,hA,Hf,hc⟩:=h3 hn;refine⟨b,off,hA,Hf,fun k hk=>?_⟩
 have g:=fun j hj=>yw Ac.cs 3 (fun _=>rfl) l k j hk hj
 refine⟨?_,?_,?_⟩
 ·exact hc (k*3+0) _ (by rw[g 0 o_];rfl)
 ·have:=hc (k*3+1) _ (by rw[g 1 o_];rfl);rwa [<-aak] at this
 ·have:=hc (k*3+2) _ (by rw[g 2 o_];rfl);rwa [<-aak] at this
section
variable {H:Type} {enc:TypeId×Value->H} {w:World} {base:Nat} {spare:Nat->Bool} {BM:Bool}
end
theorem z7Q:(Tryz.prog.info? 41).map (fun i=>(i.zero,i.size,i.bytes))=some (some (.agg #[.int .i64 0,.int .i64 0,.int .i64 0]),3,24):=by kernel_rfl
def OwnA (base:Nat) (w:World) (v:Value) (l:List Ac):Prop:=w.ownsRow base 41 3 v l.length (l.flatMap Ac.cs)
theorem OwnA.reads {base:Nat} {w:World} {v:Value} {l:List Ac} (h:OwnA base w v l):RA w v l:=ku h
theorem OwnA.kept {base:Nat} {w w':World} {v:Value} {l:List Ac} (h:OwnA base w v l) (hb:Below w.heap.size w w'):OwnA base w' v l:=qj h hb
def b01 (b:Bool):Int:=if b then 1 else 0
noncomputable def doS (S:St) (k a b:Int):St:=
 if zd S&&actB k a b then
  (if k=4 then yu S else if k=5 then colS S a else if k=6 then swpS S a b else if k=7 then stoS S a b else if k=8 then vH S a else if k=9 then S else chgS S k a b)
 else S
noncomputable def doN (S:St) (k a b:Int):Int:=
 if zd S&&actB k a b then
  (if k=4 then b01 (yd S) else if k=5 then b01 (colB S a) else if k=6 then b01 (swpB S a b) else if k=7 then b01 (stoB S a b) else if k=8 then b01 (yV S a) else if k=9 then jD S.D.nn S.D.nl else b01 (chgB S k a b))
 else -1
theorem z62 {S:St} {k a b:Int} (h:(zd S&&actB k a b)=false):doS S k a b=S/\doN S k a b= -1:=by
 unfold doS doN;rw[h];exact⟨rfl,rfl⟩
theorem z8V {S:St} (k a b:Int) (h:zd S=true):zd (doS S k a b)=true:=by
 unfold doS
 split
 ·split
  ·exact z90 h
  ·split
   ·exact z74 _ h
   ·split
    ·exact z93 _ _ h
    ·split
     ·exact z6x _ _ h
     ·split
      ·exact z8S _ h
      ·split
       ·exact h
       ·exact z8R _ _ _ h
 ·exact h
theorem z3Q {S:St} (h:zd S=true):StLe S:=by
 obtain⟨h1,h2,_,h4,_⟩:=yR.1 h;refine⟨z7i h1,?_,?_⟩
 ·rcases h4 with h4|h4
  ·omega
  ·have:=(kH.1 h4)
   have h5:=zJ S.D.nn S.D.nl;rw[zW this.1] at h5;omega
 ·have:=(yD.1 h2).1
  omega
theorem z9w (ns ls:List Pr):0<=jD ns ls/\jD ns ls<=40:=by
 have:=VA ns ls;unfold jD;split<;>omega
theorem z9A (S:St) (k a b:Int): -1<=doN S k a b/\doN S k a b<=40:=by
 have hb:∀x:Bool, -1<=b01 x/\b01 x<=40:=by intro x;cases x<;>simp[b01]
 have hp:=z9w S.D.nn S.D.nl;unfold doN
 split
 ·split
  ·exact hb _
  ·split
   ·exact hb _
   ·split
    ·exact hb _
    ·split
     ·exact hb _
     ·split
      ·exact hb _
      ·split
       ·omega
       ·exact hb _
 ·omega
def acI (l:List Ac) (j:Nat):Ac:=l.getD j ⟨0,0,0⟩
noncomputable def runS (S:St) (l:List Ac):Nat->St
 |0=>S
 |j+1=>doS (runS S l j) (acI l j).k (acI l j).a (acI l j).b
noncomputable def runN (S:St) (l:List Ac):Nat->List Int
 |0=> []
 |j+1=>runN S l j++[doN (runS S l j) (acI l j).k (acI l j).a (acI l j).b]
noncomputable def runB (S:St) (l:List Ac):Bool:=zd S&&decide (l.length<=40)
noncomputable def ZG (S:St) (l:List Ac):St:=if runB S l then runS S l l.length else S
noncomputable def ZR (S:St) (l:List Ac):List Int:=if runB S l then runN S l l.length else []
theorem z0A {S:St} {l:List Ac} (h:zd S=true):∀j,zd (runS S l j)=true
 |0=>h
 |j+1=>z8V _ _ _ (z0A h j)
theorem JC (S:St) (l:List Ac):∀j,(runN S l j).length =j
 |0=>rfl
 |j+1=>by simp[runN,JC S l j]
theorem z6S {S:St} {l:List Ac} (h:zd S=true):zd (ZG S l)=true:=by
 unfold ZG;split
 ·exact z0A h _
 ·exact h
open Go.RowKit
section
variable {w wr wr':World} {v0 v1 v2 v3 v4 v5 v6 a b c d e f g:Value} {m:Int} {Z:Nat} {S:St} {fs:List SF}
theorem OutSS.newCs (h:OutSS w v0 v1 v2 v3 v4 v5 v6 m Z a b c d e f g S fs wr) (hb:Below wr.heap.size wr wr') {v:Value} {l:List Int} (ho:OwnI wr.heap.size wr' v l):
  OutSS w v0 v1 v2 v3 v4 v5 v6 m Z a b c d e v g ⟨S.D,l,S.ds,S.fund⟩ fs (wr'.setCell ⟨Z,5,none⟩ v):=by
 have h1:=h.below hb;have bd:∀k,v.ownBlock=some k->wr.heap.size<=k:=fun k hk=>(OwnI.lt ho k hk).1
 have WB:∀k,jY a b c d e f g fs k->k<wr.heap.size:=fun k hk=>(h.own.lt k hk).2
 have Gu:=h.Z_.lt
 have M7:¬jY a b c d e v g fs Z:=by
  rintro(hk|hk|hk)
  ·exact h.far (.inl hk)
  ·have:=bd _ hk;omega
  ·exact h.far (.inr (.inr hk))
 have hO:OwnSt (w.heap.size+1+1) wr' a b c d e v g ⟨S.D,l,S.ds,S.fund⟩ fs:=
  ⟨h1.own.dr,OwnI.mono ho (by have:=h.lt;omega),h1.own.ds,fun k hk gG=>by have:=bd k gG;have:=WB k (.inl hk);omega,h1.own.d_d,fun k hk gG=>by have:=bd k hk;have:=WB k (.inr (.inr gG));omega⟩
 have Hf:=h.lt;exact⟨hO.setFar (p:=⟨Z,5,none⟩) M7 v,h1.X.far (p:=⟨Z,5,none⟩) (show w.heap.size≠Z by omega) v,h1.R.far (p:=⟨Z,5,none⟩) (show w.heap.size+1≠Z by omega) v,h1.Z_.set_ 5 v,h1.lt,M7,h1.blw.setCell (p:=⟨Z,5,none⟩) (show w.heap.size<=Z by omega) v⟩
end
theorem z0c (v0 v1 v2 v3 v4 v5 v6:Value) (S:St) (x:Int) (w:World) (h:RSt w v0 v1 v2 v3 v4 v5 v6 S) (hle:StLe S):
  Calls Tryz.prog 34 #[.agg #[v0,v1,v2,v3,v4,v5,v6,.int .i64 S.fund],.int .i64 x] w (yM (colS S x) (colB S x) w):=by
 obtain⟨r,hr⟩:∃r,zd S=r:=⟨_,rfl⟩;have HR:=h_ hr;have gf:=h_ hle;obtain⟨B6,d6,ev6,cK,CR,fr⟩:=h.ds.at_;subst ev6;unfold maxLen at CR;obtain⟨E,hE⟩:∃E,colS S x=E:=⟨_,rfl⟩;obtain⟨bb,gj⟩:∃bb,colB S x=bb:=⟨_,rfl⟩;rw[hE,gj];have HE:=h_ hE;have gw:=h_ gj;have HH:=h_ h
 go_enter Tryz.func34,Tryz.ntmps34
 go_wp2_with fail
 refine(qw _ _ _ _ _ _ _ S _ (HH.out.below bel_) gf.out).mono ?_
 rintro e w1 ⟨A0,a0,A1,a1,A2,a2,A3,a3,A4,a4,A5,a5,A6,a6,fs,rfl,Hi,h9⟩;have Ga:Blk w1 w.heap.size 34 #[v0,v1,v2,v3,v4,v5,.slice B6 S.ds.length d6,.int .i64 S.fund]:=Blk.below ((Blk.newAt rfl).alloc _) h9 sz_;have Hx:Blk w1 (w.heap.size+1) 34 z8_:=Blk.below (Blk.newAt (by simp)) h9 sz_;have h8:Below w.heap.size w w1:=bel_
 have GQ:OwnSt (w.heap.size+1+1) w1 (.slice A0 S.D.fn.length a0) (.slice A1 S.D.fl.length a1) (.slice A2 S.D.nn.length a2) (.slice A3 S.D.nl.length a3) (.slice A4 S.D.ss.length a4) (.slice A5 S.cs.length a5) (.slice A6 S.ds.length a6) S fs:=by simpa using Hi
 have gU:=h_ (OutSS.start GQ (aaa _) Ga Hx h8);obtain⟨x_0,x_1,x_2,x_3,x_4,x_5,x_6,x_7⟩:=Ga.c8;have fS:=Ga.lt
 go_wp2_with fail
 obtain⟨w2,gR⟩:∃w2,w2=w1.alloc (.cells #[.slice A0 S.D.fn.length a0,.slice A1 S.D.fl.length a1,.slice A2 S.D.nn.length a2,.slice A3 S.D.nl.length a3,.slice A4 S.D.ss.length a4,.slice A5 S.cs.length a5,.slice A6 S.ds.length a6,.int .i64 S.fund] 34):=⟨_,rfl⟩;rw[<-gR] at gU⊢;generalize w1.heap.size=Z at*;obtain⟨l',Gm⟩:∃l,colW S.D.nn S.D.nl x=l:=⟨_,rfl⟩;obtain⟨b',gS⟩:∃b,kV S.D.nn S.D.nl x=b:=⟨_,rfl⟩;have mD:=h_ Gm;have FF:=h_ gS;have HN:=h_ (HH.out.dr.nn.below gU.out.blw);have HL:=h_ (HH.out.dr.nl.below gU.out.blw);refine(VN _ _ S.D.nn S.D.nl x _ HN.out HL.out).mono ?_
 rw[Gm,gS];rintro e w4 ⟨vt,rfl,gH,Hw⟩;obtain⟨T5,t5,rfl⟩:=OwnE.form (t:=3) (enc:=vI) gH;have gk:=h_ (gU.out.below Hw);have HO:=h_ gH;have BQ:=h_ Hw;have hX:=gk.out.X;obtain⟨x_0,x_1,x_2,x_3,x_4,x_5,x_6,x_7⟩:=hX.c8
 go_wp2_with fail
 refine(qb _ _ _ _ _ _ _ S r _ (HH.out.below gk.out.blw) HR).mono ?_
 rintro e w5 ⟨rfl,H0⟩;have Gg:=h_ (gk.out.below H0);have HF:=h_ (OutSS.newCs gU.out (BQ.out.trans (H0.mono BQ.out.size)) (OwnI.kept HO.out H0))
 cases r
 ·clear HF
  obtain⟨u1,u2⟩:=z13 (S:=S) (x:=x) (.inl hr);have hu:S=E:=by rw[<-HE.out];exact u1.symm
  have hv:false=bb:=by rw[<-gw.out];exact u2.symm
  subst hu;subst hv;have HF:=Gg;obtain⟨_,_,hR,hZ,Gu,_,_⟩:=HF.out;obtain⟨z_0,z_1,z_2,z_3,z_4,z_5,z_6,z_7⟩:=hZ.c8;obtain⟨r_0,r_1,r_2,r_3,r_4,r_5,r_6,r_7,r_f0,r_f1,r_f2,r_f3,r_f4,r_f5,r_f6,r_f7⟩:=hR.b8;have Hr:=hR.lt;have gl:=h_ (HF.out.fin);go_wp2;exact bodyPost_ret (v:= .tuple #[.agg #[.slice A0 S.D.fn.length a0,.slice A1 S.D.fl.length a1,.slice A2 S.D.nn.length a2,.slice A3 S.D.nl.length a3,.slice A4 S.D.ss.length a4,.slice A5 S.cs.length a5,.slice A6 S.ds.length a6,.int .i64 S.fund],.bool false]) (by simp[results,Tryz.results34,go_sem,r_0,r_1,r_2,r_3,r_4,r_5,r_6,r_7,Hr]) rfl ⟨_,_,_,_,_,_,_,_,_,_,_,_,_,_,fs,rfl,(gl.out _ _ _ _ _ _ _ _).1,(gl.out _ _ _ _ _ _ _ _).2⟩
 ·cases b'
  ·clear HF
   obtain⟨u1,u2⟩:=z13 (S:=S) (x:=x) (.inr FF.out);have hu:S=E:=by rw[<-HE.out];exact u1.symm
   have hv:false=bb:=by rw[<-gw.out];exact u2.symm
   subst hu;subst hv;have HF:=Gg;obtain⟨_,_,hR,hZ,Gu,_,_⟩:=HF.out;obtain⟨z_0,z_1,z_2,z_3,z_4,z_5,z_6,z_7⟩:=hZ.c8;obtain⟨r_0,r_1,r_2,r_3,r_4,r_5,r_6,r_7,r_f0,r_f1,r_f2,r_f3,r_f4,r_f5,r_f6,r_f7⟩:=hR.b8;have Hr:=hR.lt;have gl:=h_ (HF.out.fin);go_wp2;exact bodyPost_ret (v:= .tuple #[.agg #[.slice A0 S.D.fn.length a0,.slice A1 S.D.fl.length a1,.slice A2 S.D.nn.length a2,.slice A3 S.D.nl.length a3,.slice A4 S.D.ss.length a4,.slice A5 S.cs.length a5,.slice A6 S.ds.length a6,.int .i64 S.fund],.bool false]) (by simp[results,Tryz.results34,go_sem,r_0,r_1,r_2,r_3,r_4,r_5,r_6,r_7,Hr]) rfl ⟨_,_,_,_,_,_,_,_,_,_,_,_,_,_,fs,rfl,(gl.out _ _ _ _ _ _ _ _).1,(gl.out _ _ _ _ _ _ _ _).2⟩
  ·obtain⟨u1,u2⟩:=z3S (S:=S) (x:=x) hr FF.out
   rw[show(jZ S.D.nn S.D.nl x).getD []=l' from mD.out] at u1;have hu:(⟨S.D,l',S.ds,S.fund⟩:St)=E:=by rw[<-HE.out];exact u1.symm
   have hv:true=bb:=by rw[<-gw.out];exact u2.symm
   subst hu;subst hv;obtain⟨_,_,hR,hZ,Gu,_,_⟩:=Gg.out;obtain⟨z_0,z_1,z_2,z_3,z_4,z_5,z_6,z_7,z_f0,z_f1,z_f2,z_f3,z_f4,z_f5,z_f6,z_f7⟩:=hZ.b8;obtain⟨r_0,r_1,r_2,r_3,r_4,r_5,r_6,r_7,r_f0,r_f1,r_f2,r_f3,r_f4,r_f5,r_f6,r_f7⟩:=hR.b8;have Hr:=hR.lt;have fJ:=hZ.lt;have gl:=h_ (HF.out.fin);have F9:¬Z=w.heap.size+1:=o_
   have Gs:¬w.heap.size+1=Z:=o_
   go_wp2;exact bodyPost_ret (v:= .tuple #[.agg #[.slice A0 S.D.fn.length a0,.slice A1 S.D.fl.length a1,.slice A2 S.D.nn.length a2,.slice A3 S.D.nl.length a3,.slice A4 S.D.ss.length a4,.slice T5 l'.length t5,.slice A6 S.ds.length a6,.int .i64 S.fund],.bool true]) (by simp[results,Tryz.results34,go_sem,r_0,r_1,r_2,r_3,r_4,r_5,r_6,r_7,z_0,z_1,z_2,z_3,z_4,z_5,z_6,z_7,Hr,fJ,F9,Gs]) rfl ⟨_,_,_,_,_,_,_,_,_,_,_,_,_,_,fs,rfl,(gl.out _ _ _ _ _ _ _ _).1,(gl.out _ _ _ _ _ _ _ _).2⟩
theorem z0d (v0 v1 v2 v3 v4 v5 v6:Value) (S:St) (x:Int) (w:World) (h:RSt w v0 v1 v2 v3 v4 v5 v6 S) (hle:StLe S):
  Calls Tryz.prog 33 #[.agg #[v0,v1,v2,v3,v4,v5,v6,.int .i64 S.fund],.int .i64 x] w (yM (colS S x) (colB S x) w):=by
 obtain⟨r,hr⟩:∃r,zd S=r:=⟨_,rfl⟩;have HR:=h_ hr;have gf:=h_ hle;obtain⟨B6,d6,ev6,cK,CR,fr⟩:=h.ds.at_;subst ev6;unfold maxLen at CR;obtain⟨E,hE⟩:∃E,colS S x=E:=⟨_,rfl⟩;obtain⟨bb,gj⟩:∃bb,colB S x=bb:=⟨_,rfl⟩;rw[hE,gj];have HE:=h_ hE;have gw:=h_ gj;have HH:=h_ h
 go_enter Tryz.func33,Tryz.ntmps33
 go_wp2_with fail
 refine(Zw _ _ _ _ _ _ _ S _ (HH.out.below bel_) gf.out).mono ?_
 rintro e w1 ⟨A0,a0,A1,a1,A2,a2,A3,a3,A4,a4,A5,a5,A6,a6,fs,rfl,Hi,h9⟩;have Ga:Blk w1 w.heap.size 34 #[v0,v1,v2,v3,v4,v5,.slice B6 S.ds.length d6,.int .i64 S.fund]:=Blk.below ((Blk.newAt rfl).alloc _) h9 sz_;have Hx:Blk w1 (w.heap.size+1) 34 z8_:=Blk.below (Blk.newAt (by simp)) h9 sz_;have h8:Below w.heap.size w w1:=bel_
 have GQ:OwnSt (w.heap.size+1+1) w1 (.slice A0 S.D.fn.length a0) (.slice A1 S.D.fl.length a1) (.slice A2 S.D.nn.length a2) (.slice A3 S.D.nl.length a3) (.slice A4 S.D.ss.length a4) (.slice A5 S.cs.length a5) (.slice A6 S.ds.length a6) S fs:=by simpa using Hi
 have gU:=h_ (OutSS.start GQ (aaa _) Ga Hx h8);obtain⟨x_0,x_1,x_2,x_3,x_4,x_5,x_6,x_7⟩:=Ga.c8;have fS:=Ga.lt
 go_wp2_with fail
 obtain⟨w2,gR⟩:∃w2,w2=w1.alloc (.cells #[.slice A0 S.D.fn.length a0,.slice A1 S.D.fl.length a1,.slice A2 S.D.nn.length a2,.slice A3 S.D.nl.length a3,.slice A4 S.D.ss.length a4,.slice A5 S.cs.length a5,.slice A6 S.ds.length a6,.int .i64 S.fund] 34):=⟨_,rfl⟩;rw[<-gR] at gU⊢;generalize w1.heap.size=Z at*;refine(kE _ _ _ _ _ _ _ S r _ (HH.out.below gU.out.blw) HR).mono ?_
 rintro e w3 ⟨rfl,He⟩;have gk:=h_ (gU.out.below He);have Gr:=gk.out.X;obtain⟨x_0,x_1,x_2,x_3,x_4,x_5,x_6,x_7⟩:=Gr.c8
 cases r
 ·obtain⟨u1,u2⟩:=z13 (S:=S) (x:=x) (.inl hr)
  have hu:S=E:=by rw[<-HE.out];exact u1.symm
  have hv:false=bb:=by rw[<-gw.out];exact u2.symm
  subst hu;subst hv;have HF:=gk;obtain⟨_,_,hR,hZ,Gu,_,_⟩:=HF.out;obtain⟨z_0,z_1,z_2,z_3,z_4,z_5,z_6,z_7⟩:=hZ.c8;obtain⟨r_0,r_1,r_2,r_3,r_4,r_5,r_6,r_7,r_f0,r_f1,r_f2,r_f3,r_f4,r_f5,r_f6,r_f7⟩:=hR.b8;have Hr:=hR.lt;have gl:=h_ (HF.out.fin);go_wp2;exact bodyPost_ret (v:= .tuple #[.agg #[.slice A0 S.D.fn.length a0,.slice A1 S.D.fl.length a1,.slice A2 S.D.nn.length a2,.slice A3 S.D.nl.length a3,.slice A4 S.D.ss.length a4,.slice A5 S.cs.length a5,.slice A6 S.ds.length a6,.int .i64 S.fund],.bool false]) (by simp[results,Tryz.results33,go_sem,r_0,r_1,r_2,r_3,r_4,r_5,r_6,r_7,Hr]) rfl ⟨_,_,_,_,_,_,_,_,_,_,_,_,_,_,fs,rfl,(gl.out _ _ _ _ _ _ _ _).1,(gl.out _ _ _ _ _ _ _ _).2⟩
 ·clear Gr x_0 x_1 x_2 x_3 x_4 x_5 x_6 x_7
  obtain⟨l',Gm⟩:∃l,colW S.D.nn S.D.nl x=l:=⟨_,rfl⟩;obtain⟨b',gS⟩:∃b,kV S.D.nn S.D.nl x=b:=⟨_,rfl⟩;have mD:=h_ Gm;have FF:=h_ gS;have HN:=h_ (HH.out.dr.nn.below gk.out.blw);have HL:=h_ (HH.out.dr.nl.below gk.out.blw);have hX:=gk.out.X;obtain⟨x_0,x_1,x_2,x_3,x_4,x_5,x_6,x_7⟩:=hX.c8
  go_wp2_with fail
  refine(VJ _ _ S.D.nn S.D.nl x _ HN.out HL.out).mono ?_
  rw[Gm,gS];rintro e w4 ⟨vt,rfl,gH,Hw⟩;obtain⟨T5,t5,rfl⟩:=OwnE.form (t:=3) (enc:=vI) gH;have HF:=h_ (OutSS.newCs gk.out Hw gH);have Gg:=h_ (gk.out.below Hw)
  cases b'
  ·clear HF
   obtain⟨u1,u2⟩:=z13 (S:=S) (x:=x) (.inr FF.out);have hu:S=E:=by rw[<-HE.out];exact u1.symm
   have hv:false=bb:=by rw[<-gw.out];exact u2.symm
   subst hu;subst hv;have HF:=Gg;obtain⟨_,_,hR,hZ,Gu,_,_⟩:=HF.out;obtain⟨z_0,z_1,z_2,z_3,z_4,z_5,z_6,z_7⟩:=hZ.c8;obtain⟨r_0,r_1,r_2,r_3,r_4,r_5,r_6,r_7,r_f0,r_f1,r_f2,r_f3,r_f4,r_f5,r_f6,r_f7⟩:=hR.b8;have Hr:=hR.lt;have gl:=h_ (HF.out.fin);go_wp2;exact bodyPost_ret (v:= .tuple #[.agg #[.slice A0 S.D.fn.length a0,.slice A1 S.D.fl.length a1,.slice A2 S.D.nn.length a2,.slice A3 S.D.nl.length a3,.slice A4 S.D.ss.length a4,.slice A5 S.cs.length a5,.slice A6 S.ds.length a6,.int .i64 S.fund],.bool false]) (by simp[results,Tryz.results33,go_sem,r_0,r_1,r_2,r_3,r_4,r_5,r_6,r_7,Hr]) rfl ⟨_,_,_,_,_,_,_,_,_,_,_,_,_,_,fs,rfl,(gl.out _ _ _ _ _ _ _ _).1,(gl.out _ _ _ _ _ _ _ _).2⟩
  ·obtain⟨u1,u2⟩:=z3S (S:=S) (x:=x) hr FF.out
   rw[show(jZ S.D.nn S.D.nl x).getD []=l' from mD.out] at u1;have hu:(⟨S.D,l',S.ds,S.fund⟩:St)=E:=by rw[<-HE.out];exact u1.symm
   have hv:true=bb:=by rw[<-gw.out];exact u2.symm
   subst hu;subst hv;obtain⟨_,_,hR,hZ,Gu,_,_⟩:=Gg.out;obtain⟨z_0,z_1,z_2,z_3,z_4,z_5,z_6,z_7,z_f0,z_f1,z_f2,z_f3,z_f4,z_f5,z_f6,z_f7⟩:=hZ.b8;obtain⟨r_0,r_1,r_2,r_3,r_4,r_5,r_6,r_7,r_f0,r_f1,r_f2,r_f3,r_f4,r_f5,r_f6,r_f7⟩:=hR.b8;have Hr:=hR.lt;have fJ:=hZ.lt;have gl:=h_ (HF.out.fin);have F9:¬Z=w.heap.size+1:=o_
   have Gs:¬w.heap.size+1=Z:=o_
   go_wp2;exact bodyPost_ret (v:= .tuple #[.agg #[.slice A0 S.D.fn.length a0,.slice A1 S.D.fl.length a1,.slice A2 S.D.nn.length a2,.slice A3 S.D.nl.length a3,.slice A4 S.D.ss.length a4,.slice T5 l'.length t5,.slice A6 S.ds.length a6,.int .i64 S.fund],.bool true]) (by simp[results,Tryz.results33,go_sem,r_0,r_1,r_2,r_3,r_4,r_5,r_6,r_7,z_0,z_1,z_2,z_3,z_4,z_5,z_6,z_7,Hr,fJ,F9,Gs]) rfl ⟨_,_,_,_,_,_,_,_,_,_,_,_,_,_,fs,rfl,(gl.out _ _ _ _ _ _ _ _).1,(gl.out _ _ _ _ _ _ _ _).2⟩
theorem JB (v0 v1 v2 v3 v4 v5 v6:Value) (S:St) (x:Int) (y:Int) (w:World) (h:RSt w v0 v1 v2 v3 v4 v5 v6 S) (hle:StLe S):
  Calls Tryz.prog 29 #[.agg #[v0,v1,v2,v3,v4,v5,v6,.int .i64 S.fund],.int .i64 x,.int .i64 y] w (yM (swpS S x y) (swpB S x y) w):=by
 obtain⟨r,hr⟩:∃r,zd S=r:=⟨_,rfl⟩;have HR:=h_ hr;have gf:=h_ hle;obtain⟨B6,d6,ev6,cK,CR,fr⟩:=h.ds.at_;subst ev6;unfold maxLen at CR;obtain⟨E,hE⟩:∃E,swpS S x y=E:=⟨_,rfl⟩;obtain⟨bb,gj⟩:∃bb,swpB S x y=bb:=⟨_,rfl⟩;rw[hE,gj];have HE:=h_ hE;have gw:=h_ gj;have HH:=h_ h
 go_enter Tryz.func29,Tryz.ntmps29
 go_wp2_with fail
 refine(qw _ _ _ _ _ _ _ S _ (HH.out.below bel_) gf.out).mono ?_
 rintro e w1 ⟨A0,a0,A1,a1,A2,a2,A3,a3,A4,a4,A5,a5,A6,a6,fs,rfl,Hi,h9⟩;have Ga:Blk w1 w.heap.size 34 #[v0,v1,v2,v3,v4,v5,.slice B6 S.ds.length d6,.int .i64 S.fund]:=Blk.below ((Blk.newAt rfl).alloc _) h9 sz_;have Hx:Blk w1 (w.heap.size+1) 34 z8_:=Blk.below (Blk.newAt (by simp)) h9 sz_;have h8:Below w.heap.size w w1:=bel_
 have GQ:OwnSt (w.heap.size+1+1) w1 (.slice A0 S.D.fn.length a0) (.slice A1 S.D.fl.length a1) (.slice A2 S.D.nn.length a2) (.slice A3 S.D.nl.length a3) (.slice A4 S.D.ss.length a4) (.slice A5 S.cs.length a5) (.slice A6 S.ds.length a6) S fs:=by simpa using Hi
 have gU:=h_ (OutSS.start GQ (aaa _) Ga Hx h8);obtain⟨x_0,x_1,x_2,x_3,x_4,x_5,x_6,x_7⟩:=Ga.c8;have fS:=Ga.lt
 go_wp2_with fail
 obtain⟨w2,gR⟩:∃w2,w2=w1.alloc (.cells #[.slice A0 S.D.fn.length a0,.slice A1 S.D.fl.length a1,.slice A2 S.D.nn.length a2,.slice A3 S.D.nl.length a3,.slice A4 S.D.ss.length a4,.slice A5 S.cs.length a5,.slice A6 S.ds.length a6,.int .i64 S.fund] 34):=⟨_,rfl⟩;rw[<-gR] at gU⊢;generalize w1.heap.size=Z at*;obtain⟨l',Gm⟩:∃l,vQ S.D.nn S.D.nl S.cs x y=l:=⟨_,rfl⟩;obtain⟨b',gS⟩:∃b,vU S.D.nn S.D.nl S.cs x y=b:=⟨_,rfl⟩;have mD:=h_ Gm;have FF:=h_ gS;have HN:=h_ (HH.out.dr.nn.below gU.out.blw);have HL:=h_ (HH.out.dr.nl.below gU.out.blw);have HC:=h_ (HH.out.cs.below gU.out.blw);refine(z55 _ _ _ S.D.nn S.D.nl S.cs x y _ HN.out HL.out HC.out gf.out.cs).mono ?_
 rw[Gm,gS];rintro e w4 ⟨vt,rfl,gH,Hw⟩;obtain⟨T5,t5,rfl⟩:=OwnE.form (t:=3) (enc:=vI) gH;have gk:=h_ (gU.out.below Hw);have HO:=h_ gH;have BQ:=h_ Hw;have hX:=gk.out.X;obtain⟨x_0,x_1,x_2,x_3,x_4,x_5,x_6,x_7⟩:=hX.c8
 go_wp2_with fail
 refine(qb _ _ _ _ _ _ _ S r _ (HH.out.below gk.out.blw) HR).mono ?_
 rintro e w5 ⟨rfl,H0⟩;have Gg:=h_ (gk.out.below H0);have HF:=h_ (OutSS.newCs gU.out (BQ.out.trans (H0.mono BQ.out.size)) (OwnI.kept HO.out H0))
 cases r
 ·clear HF
  obtain⟨u1,u2⟩:=z5J (S:=S) (x:=x) (y:=y) (.inl hr);have hu:S=E:=by rw[<-HE.out];exact u1.symm
  have hv:false=bb:=by rw[<-gw.out];exact u2.symm
  subst hu;subst hv;have HF:=Gg;obtain⟨_,_,hR,hZ,Gu,_,_⟩:=HF.out;obtain⟨z_0,z_1,z_2,z_3,z_4,z_5,z_6,z_7⟩:=hZ.c8;obtain⟨r_0,r_1,r_2,r_3,r_4,r_5,r_6,r_7,r_f0,r_f1,r_f2,r_f3,r_f4,r_f5,r_f6,r_f7⟩:=hR.b8;have Hr:=hR.lt;have gl:=h_ (HF.out.fin);go_wp2;exact bodyPost_ret (v:= .tuple #[.agg #[.slice A0 S.D.fn.length a0,.slice A1 S.D.fl.length a1,.slice A2 S.D.nn.length a2,.slice A3 S.D.nl.length a3,.slice A4 S.D.ss.length a4,.slice A5 S.cs.length a5,.slice A6 S.ds.length a6,.int .i64 S.fund],.bool false]) (by simp[results,Tryz.results29,go_sem,r_0,r_1,r_2,r_3,r_4,r_5,r_6,r_7,Hr]) rfl ⟨_,_,_,_,_,_,_,_,_,_,_,_,_,_,fs,rfl,(gl.out _ _ _ _ _ _ _ _).1,(gl.out _ _ _ _ _ _ _ _).2⟩
 ·cases b'
  ·clear HF
   obtain⟨u1,u2⟩:=z5J (S:=S) (x:=x) (y:=y) (.inr FF.out);have hu:S=E:=by rw[<-HE.out];exact u1.symm
   have hv:false=bb:=by rw[<-gw.out];exact u2.symm
   subst hu;subst hv;have HF:=Gg;obtain⟨_,_,hR,hZ,Gu,_,_⟩:=HF.out;obtain⟨z_0,z_1,z_2,z_3,z_4,z_5,z_6,z_7⟩:=hZ.c8;obtain⟨r_0,r_1,r_2,r_3,r_4,r_5,r_6,r_7,r_f0,r_f1,r_f2,r_f3,r_f4,r_f5,r_f6,r_f7⟩:=hR.b8;have Hr:=hR.lt;have gl:=h_ (HF.out.fin);go_wp2;exact bodyPost_ret (v:= .tuple #[.agg #[.slice A0 S.D.fn.length a0,.slice A1 S.D.fl.length a1,.slice A2 S.D.nn.length a2,.slice A3 S.D.nl.length a3,.slice A4 S.D.ss.length a4,.slice A5 S.cs.length a5,.slice A6 S.ds.length a6,.int .i64 S.fund],.bool false]) (by simp[results,Tryz.results29,go_sem,r_0,r_1,r_2,r_3,r_4,r_5,r_6,r_7,Hr]) rfl ⟨_,_,_,_,_,_,_,_,_,_,_,_,_,_,fs,rfl,(gl.out _ _ _ _ _ _ _ _).1,(gl.out _ _ _ _ _ _ _ _).2⟩
  ·obtain⟨u1,u2⟩:=z7T (S:=S) (x:=x) (y:=y) hr FF.out
   rw[mD.out] at u1;have hu:(⟨S.D,l',S.ds,S.fund⟩:St)=E:=by rw[<-HE.out];exact u1.symm
   have hv:true=bb:=by rw[<-gw.out];exact u2.symm
   subst hu;subst hv;obtain⟨_,_,hR,hZ,Gu,_,_⟩:=Gg.out;obtain⟨z_0,z_1,z_2,z_3,z_4,z_5,z_6,z_7,z_f0,z_f1,z_f2,z_f3,z_f4,z_f5,z_f6,z_f7⟩:=hZ.b8;obtain⟨r_0,r_1,r_2,r_3,r_4,r_5,r_6,r_7,r_f0,r_f1,r_f2,r_f3,r_f4,r_f5,r_f6,r_f7⟩:=hR.b8;have Hr:=hR.lt;have fJ:=hZ.lt;have gl:=h_ (HF.out.fin);have F9:¬Z=w.heap.size+1:=o_
   have Gs:¬w.heap.size+1=Z:=o_
   go_wp2;exact bodyPost_ret (v:= .tuple #[.agg #[.slice A0 S.D.fn.length a0,.slice A1 S.D.fl.length a1,.slice A2 S.D.nn.length a2,.slice A3 S.D.nl.length a3,.slice A4 S.D.ss.length a4,.slice T5 l'.length t5,.slice A6 S.ds.length a6,.int .i64 S.fund],.bool true]) (by simp[results,Tryz.results29,go_sem,r_0,r_1,r_2,r_3,r_4,r_5,r_6,r_7,z_0,z_1,z_2,z_3,z_4,z_5,z_6,z_7,Hr,fJ,F9,Gs]) rfl ⟨_,_,_,_,_,_,_,_,_,_,_,_,_,_,fs,rfl,(gl.out _ _ _ _ _ _ _ _).1,(gl.out _ _ _ _ _ _ _ _).2⟩
end Go.Proofs.YtnjcpljhmhdhkaaGreat
