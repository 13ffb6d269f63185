/- part 30 -/
import Derived.Test.YtnjcpljhmhdhkaaGreatEPk29
import Derived.Laws.EntriesVeiled
import Derived.Deep.RegionHeld3
set_option linter.unusedSimpArgs false
set_option linter.unusedVariables false
set_option maxRecDepth 100000
set_option maxHeartbeats 16000000
namespace Go.Proofs.YtnjcpljhmhdhkaaGreat
open Go.RowKit
theorem z5w (near:Nat->Nat) (ok:Nat->Bool) (F s k:Nat):qC near ok F s (k+1)=rndC near ok (qC near ok F s k) F:=rfl
theorem z6w (near:Nat->Nat) (ok:Nat->Bool) (s k:Nat):rndC near ok s (k+1)=stpC near ok (rndC near ok s k) k:=rfl
theorem z8K {near:Nat->Nat} {ok:Nat->Bool} {s g:Nat} (h:ok g=false∨near g &&& s=0):stpC near ok s g=s:=by
 unfold stpC
 rcases h with h|h<;>simp[h]
theorem z7t {near:Nat->Nat} {ok:Nat->Bool} {s g:Nat} (h1:ok g=true) (h2:¬near g &&& s=0):stpC near ok s g=s ||| 2^g:=by
 unfold stpC;simp[h1,h2]
theorem z4Y (vn vl vc:Value) (ns ls:List Pr) (cs:List Int) (f:Nat) (x:Int) (w:World) (hn:RP w vn ns) (hl:RP w vl ls) (hc:RI w vc cs) (hw:ze ns ls=true) (Hy:cs.length=(z9 ns ls).length) (hf:f<cs.length):
  CB_ 227 #[.agg #[vn,vl],vc,.int .i64 f,.int .i64 x] w (.int .i64 (qC (fun g=>(qZ ns ls).getD g 0) (okX cs f x) cs.length (2^f) cs.length:Nat)):=by
 have Hg:Below w.heap.size w (w.alloc (.cells #[vn,vl] 27)):=bel_
 have fc:=zJ ns ls;have CO:=zW hw;have uW:cs.length<=40:=o_
 obtain⟨Ac,cc,rfl,Gj,M1,cM⟩:=hc.form;unfold maxLen at M1;obtain⟨bc,oc,rfl,Gn,M9⟩:=cM o_;have Fo:=h_ M9;have mI:Hid (∀g,g<cs.length->(qZ ns ls).getD g 0<2^40):=h_ (fun g hg=>aaD (z0E hw (by rw[<-CO,<-Hy];exact hg)) (aaE o_ (by rw[<-CO];exact fc)));have fb:(qZ ns ls).length =cs.length:=by unfold qZ;rw[jU,<-CO];exact Hy.symm
 have Ml:=h_ fb;have Fc:Hid (∀i,okX cs f x i=(decide (cs.getD i 0=cs.getD f 0)||decide (cs.getD i 0=x))):=h_ (fun _=>rfl);have h2f:2^f<2^cs.length:=aa3 o_ hf;have WE:(2:Nat)^cs.length<=2^40:=aaE o_ uW;have HR1:Hid (∀k,qC (fun g=>(qZ ns ls).getD g 0) (okX cs f x) cs.length (2^f) k<2^40):=h_ (fun k=>aaD (xn h2f k) WE);have NH:Hid (∀s k,s<2^40->k<=cs.length->rndC (fun g=>(qZ ns ls).getD g 0) (okX cs f x) s k<2^40):=h_ (fun s k hs hk=>Je hs k o_);have GW:=h_ (fun k=>z5w (fun g=>(qZ ns ls).getD g 0) (okX cs f x) cs.length (2^f) k);have gU:=h_ (fun s k=>z6w (fun g=>(qZ ns ls).getD g 0) (okX cs f x) s k);have HN:=h_ (fun s g h=>z8K (near:=fun g=>(qZ ns ls).getD g 0) (ok:=okX cs f x) (s:=s) (g:=g) h);have HY:=h_ (fun s g h1 h2=>z7t (near:=fun g=>(qZ ns ls).getD g 0) (ok:=okX cs f x) (s:=s) (g:=g) h1 h2);have HZ1:Hid (qC (fun g=>(qZ ns ls).getD g 0) (okX cs f x) cs.length (2^f) 0=2^f):=h_ rfl;have HZ2:Hid (∀s,rndC (fun g=>(qZ ns ls).getD g 0) (okX cs f x) s 0=s):=h_ (fun _=>rfl);have nU:=h_ (Xj vn vl ns ls _ (hn.below Hg) (hl.below Hg) hw);have xf:=shl64 (k:=f) o_;have hf64:f<64:=o_
 have if1:(0:Int)<=(f:Int):=o_
 have if2:(f:Int)<(cs.length:Int):=o_
 have hyf:=Fo.out f hf;generalize cs.getD f 0=y at*;generalize qC (fun g=>(qZ ns ls).getD g 0) (okX cs f x) cs.length (2^f)=RS1 at*;generalize rndC (fun g=>(qZ ns ls).getD g 0) (okX cs f x)=RC at*;generalize stpC (fun g=>(qZ ns ls).getD g 0) (okX cs f x)=ST at*;generalize okX cs f x=OK at*;generalize qZ ns ls=NN at*;have Fd:Hid (RS1 0=2^f):=HZ1;generalize hQ2:((2^f:Nat):Int)=Q2 at*;have HQ2:=h_ hQ2;clear hQ2 h2f WE cM M9 hc hn hl hw CO fb fc Hy
 go_enter Tryz.func227,Tryz.ntmps227
 go_wp2_with fail
 refine nU.out.mono ?_
 rintro e w1 ⟨v1,rfl,Hi,h9⟩;have h8:=Hg.trans (h9.mono Hg.size);obtain⟨bA,cA,rfl,hcA,hbA0,rP,mW⟩:=OwnI.blk Hi (by rw[za,Ml.out];omega);rw[za,Ml.out] at hcA mW⊢;have HA:Hid (∀k,k<cs.length->w1.cell? ⟨bA,k,none⟩=some (.int .i64 (NN.getD k 0:Nat))):=h_ (fun k hk=>by rw[mW k hk,qs]);have hyf1:=(h8.cell (p:=⟨bc,oc+f,none⟩) Gn).trans hyf;have hbc1:bc<w1.heap.size:=aaD Gn h8.size;have HCC1:Hid (∀k,k<cs.length->w1.cell? ⟨bc,oc+k,none⟩=some (.int .i64 (cs.getD k 0))):=h_ (fun k hk=>(h8.cell (p:=⟨bc,oc+k,none⟩) Gn).trans (Fo.out k hk));clear h9 Hi mW Hg hyf nU;go_wp2
 go_loopw [10,19] (fun s t wr=>∃j:Nat,j<=cs.length/\t= .int .i64 j/\s= .int .i64 (RS1 j:Nat)/\wr=w1) (fun _ t _=>cs.length -(intOf t).toNat)
 case atStart=>exact⟨0,aab _,rfl,by rw[Fd.out];simp only[HQ2.out,xf],rfl⟩
 case round=>
  obtain⟨j,hj,rfl,rfl,rfl⟩:=hrel
  by_cases Hf:j<cs.length
  ·have Hp:(j:Int)<(cs.length:Int):=o_
   have HT:=h_ (HR1.out j);have rp:=h_ (GW.out j);have HTZ:=h_ (HZ2.out (RS1 j));generalize hT:RS1 j=T at*;clear hT;go_wp2
   go_loopw [10,23] (fun s t w2=>∃i:Nat,i<=cs.length/\t= .int .i64 i/\s= .int .i64 (RC T i:Nat)/\w2=wr) (fun _ t _=>cs.length -(intOf t).toNat)
   case atStart=>exact⟨0,aab _,rfl,by rw[HTZ.out],rfl⟩
   case round=>
    obtain⟨i,hi,rfl,rfl,rfl⟩:=hrel
    by_cases cf:i<cs.length
    ·have WF:(i:Int)<(cs.length:Int):=o_
     have ii1:(0:Int)<=(i:Int):=o_
     have hs40:=NH.out T i HT.out hi;have HS:=h_ (gU.out T i);have gc:=HCC1.out i cf;have m8:=HA.out i cf;have MU:=mI.out i cf;have FV:=h_ (fun s h=>HN.out s i h);have Mj:=h_ (fun s h1 h2=>HY.out s i h1 h2);have HO:=h_ (Fc.out i);generalize cs.getD i 0=c at*;generalize RC T i=s at*;generalize NN.getD i 0=nk at*;have oa:=QB (a:=nk) (b:=s) o_ o_;have xi:=shl64 (k:=i) o_;have hi64:i<64:=o_
     have Pi:2^i<2^40:=aa3 o_ o_;have oo:=yP (a:=s) (b:=2^i) o_ o_;generalize hnd:nk &&& s=nd at*;generalize Ci:s ||| 2^i=os at*
     generalize hPI:((2^i:Nat):Int)=P2 at*;have nI:=h_ hnd;have HOR:=h_ Ci;clear hnd Ci hPI Pi hs40 MU
     by_cases mX:c=y∨c=x
     ·have Rz:Hid (OK i=true):=h_ (by rw[HO.out];rcases mX with h|h<;>simp[h])
      by_cases h0:nd=0
      ·have e3:(((nd:Nat):Int) != 0)=false:=by rw[h0];rfl
       have HX:=h_ (FV.out s (.inr (by rw[nI.out];exact h0)));clear h0
       by_cases h1:c=y
       ·have e1:(c==y)=true:=beq_iff_eq.2 h1
        clear mX h1;go_wp2;go_roundw
        case rel=>exact⟨i+1,by omega,by go_num,by rw[HS.out,HX.out],by trivial⟩
        case measure=>simp[intOf];omega
       ·have e1:(c==y)=false:=beq_eq_false_iff_ne.2 h1
        have e2:(c==x)=true:=beq_iff_eq.2 (mX.resolve_left h1);clear mX h1;go_wp2;go_roundw
        case rel=>exact⟨i+1,by omega,by go_num,by rw[HS.out,HX.out],by trivial⟩
        case measure=>simp[intOf];omega
      ·have e3:(((nd:Nat):Int) != 0)=true:=by rw[bne_iff_ne];omega
       have HX:=h_ ((Mj.out s Rz.out (by rw[nI.out];exact h0)).trans HOR.out);clear h0
       by_cases h1:c=y
       ·have e1:(c==y)=true:=beq_iff_eq.2 h1
        clear mX h1;go_wp2;go_roundw
        case rel=>exact⟨i+1,by omega,by go_num,by rw[HS.out,HX.out],by trivial⟩
        case measure=>simp[intOf];omega
       ·have e1:(c==y)=false:=beq_eq_false_iff_ne.2 h1
        have e2:(c==x)=true:=beq_iff_eq.2 (mX.resolve_left h1);clear mX h1;go_wp2;go_roundw
        case rel=>exact⟨i+1,by omega,by go_num,by rw[HS.out,HX.out],by trivial⟩
        case measure=>simp[intOf];omega
     ·have e1:(c==y)=false:=beq_eq_false_iff_ne.2 (fun h=>mX (.inl h))
      have e2:(c==x)=false:=beq_eq_false_iff_ne.2 (fun h=>mX (.inr h));have HX:=h_ (FV.out s (.inl (by rw[HO.out];simp only[not_or] at mX;simp[mX.1,mX.2])));clear mX;go_wp2;go_roundw
      case rel=>exact⟨i+1,by omega,by go_num,by rw[HS.out,HX.out],by trivial⟩
      case measure=>simp[intOf];omega
    ·have Ns:i=cs.length:=o_
     subst Ns;go_wp2;go_roundw
     case rel=>exact⟨j+1,by omega,by go_num,by rw[rp.out],by trivial⟩
     case measure=>simp[intOf];omega
  ·have GP:j=cs.length:=o_
   subst GP;go_wp2;go_ret
   exact⟨rfl,h8⟩
theorem xP {ns ls:List Pr} {cs:List Int} {f x:Int} (h:yC ns ls cs f x=false):Jz ns ls cs f x=[]:=by unfold Jz;rw[h];rfl
theorem VG {ns ls:List Pr} {cs:List Int} {f:Nat} {x:Int} (h:yC ns ls cs f x=true):Jz ns ls cs f x=qI ns ls cs f x:=by unfold Jz;rw[h,aa5];rfl
theorem Zi {ns ls:List Pr} {cs:List Int} {f x:Int} (h:qf ns ls cs=false∨inB f 0 ((cs.length:Int) -1)=false∨inB x 0 5=false):yC ns ls cs f x=false:=by
 unfold yC
 rcases h with h|h|h<;>simp[h]
theorem z3z {ns ls:List Pr} {cs:List Int} {f x:Int} (h1:qf ns ls cs=true) (h2:inB f 0 ((cs.length:Int) -1)=true) (h3:inB x 0 5=true):yC ns ls cs f x=true:=by
 unfold yC;rw[h1,h2,h3];rfl
theorem z4u {ns ls:List Pr} {cs:List Int} {f:Nat} {x:Int} (hw:ze ns ls=true) (hl:cs.length=(z9 ns ls).length) (hf:f<cs.length):
  memS (qC (fun g=>(qZ ns ls).getD g 0) (okX cs f x) cs.length (2^f) cs.length) cs.length=qI ns ls cs f x/\qC (fun g=>(qZ ns ls).getD g 0) (okX cs f x) cs.length (2^f) cs.length<2^cs.length:=by
 have CO:=zW hw;have Gm:cs.length=(zg ns ls).length :=by rw[hl,CO]
 refine⟨?_,xn (aa3 o_ hf) _⟩
 exact z0e (near:=fun g=>(qZ ns ls).getD g 0) (fun g i hg hi=>z22 hw o_) (fun g hg=>by rw[Gm];exact z0E hw o_) (fun g i=>z1m ns ls g i) hf
theorem z0H (vn vl vc:Value) (ns ls:List Pr) (cs:List Int) (f x:Int) (w:World) (hn:RP w vn ns) (hl:RP w vl ls) (hc:RI w vc cs) (hle:cs.length<=1048576):
  Calls Tryz.prog 171 #[.agg #[vn,vl],vc,.int .i64 f,.int .i64 x] w (RetN (natI (Jz ns ls cs f x)) w):=by
 have Hg:Below w.heap.size w (w.alloc (.cells #[vn,vl] 27)):=bel_
 have gy:Blk (w.alloc (.cells #[vn,vl] 27)) w.heap.size 27 #[vn,vl]:=Blk.newAt rfl;obtain⟨Ac,cc,rfl,Gj,M1,_⟩:=hc.form;unfold maxLen at M1
 cases hp:qf ns ls cs
 ·have HR:=h_ (xP (Zi (f:=f) (x:=x) (.inl hp)))
  go_enter Tryz.func171,Tryz.ntmps171
  go_wp2_with fail
  refine(vA _ _ _ ns ls cs _ _ (hn.below Hg) (hl.below Hg) (hc.below Hg) hp).mono ?_
  rintro e w1 ⟨rfl,h9⟩;have h8:=Hg.trans (h9.mono Hg.size);go_wp2;go_ret
  exact⟨_,rfl,by rw[HR.out];exact OwnI.nil _ _,fun _=>rfl,h8⟩
 ·cases hf:inB f 0 ((cs.length:Int) -1)
  ·have HR:=h_ (xP (Zi (ns:=ns) (ls:=ls) (x:=x) (.inr (.inl hf))))
   have HF:=h_ hf;clear hf
   go_enter Tryz.func171,Tryz.ntmps171
   go_wp2_with fail
   refine(vA _ _ _ ns ls cs _ _ (hn.below Hg) (hl.below Hg) (hc.below Hg) hp).mono ?_
   rintro e w1 ⟨rfl,h9⟩;have h8:=Hg.trans (h9.mono Hg.size)
   go_wp2_with fail
   refine(zu f 0 _ false _ HF.out).mono ?_
   rintro e w' ⟨rfl,rfl⟩;go_wp2;go_ret
   exact⟨_,rfl,by rw[HR.out];exact OwnI.nil _ _,fun _=>rfl,h8⟩
  ·cases hx:inB x 0 5
   ·have HR:=h_ (xP (Zi (ns:=ns) (ls:=ls) (cs:=cs) (f:=f) (.inr (.inr hx))))
    have HF:=h_ hf;have HX:=h_ hx;clear hf hx
    go_enter Tryz.func171,Tryz.ntmps171
    go_wp2_with fail
    refine(vA _ _ _ ns ls cs _ _ (hn.below Hg) (hl.below Hg) (hc.below Hg) hp).mono ?_
    rintro e w1 ⟨rfl,h9⟩;have h8:=Hg.trans (h9.mono Hg.size)
    go_wp2_with fail
    refine(zu f 0 _ true _ HF.out).mono ?_
    rintro e w' ⟨rfl,rfl⟩
    go_wp2_with fail
    refine(zu x 0 5 false _ HX.out).mono ?_
    rintro e w' ⟨rfl,rfl⟩;go_wp2;go_ret
    exact⟨_,rfl,by rw[HR.out];exact OwnI.nil _ _,fun _=>rfl,h8⟩
   ·obtain⟨k,rfl⟩:∃k:Nat,f=k:=⟨f.toNat,by have:=zf.1 hf;omega⟩
    have hk:k<cs.length:=by have:=zf.1 hf;omega
    have HR:=h_ (VG (z3z hp hf hx));obtain⟨hw,Hy,_,_⟩:=kH.1 hp;rw[<-zW hw] at Hy;have fc:=zJ ns ls;obtain⟨Cv,YA⟩:=z4u (x:=x) hw Hy hk;have HM:=h_ Cv;have HL:=h_ YA;have HS:=h_ (ZS (ns:=ns) (ls:=ls) (x:=x) hk);have Y3:=h_ (fun (v:World) (hb:Below w.heap.size w v)=>z4Y vn vl _ ns ls cs k x v (hn.below hb) (hl.below hb) (hc.below hb) hw Hy hk);have uX:=h_ (vA vn vl _ ns ls cs _ _ (hn.below Hg) (hl.below Hg) (hc.below Hg) hp);have CA:cs.length<=40:=o_
    have HF:=h_ hf;have HX:=h_ hx;clear hf hx Cv YA Hy fc hn hl hc hw hp;generalize qC (fun g=>(qZ ns ls).getD g 0) (okX cs k x) cs.length (2^k) cs.length=R at*
    go_enter Tryz.func171,Tryz.ntmps171
    go_wp2_with fail
    refine uX.out.mono ?_
    rintro e w1 ⟨rfl,h9⟩;have h8:=Hg.trans (h9.mono Hg.size);have Hz:=gy.below h9 gy.lt;clear h9 Hg gy uX
    go_wp2_with fail
    refine(zu _ 0 _ true _ HF.out).mono ?_
    rintro e w' ⟨rfl,rfl⟩
    go_wp2_with fail
    refine(zu x 0 5 true _ HX.out).mono ?_
    rintro e w' ⟨rfl,rfl⟩;obtain⟨a_0,a_1⟩:=Hz.c2
    go_wp2_with fail
    refine(Y3.out _ h8).mono ?_
    rintro e w2 ⟨rfl,Hd⟩;have Ha:=h8.trans (Hd.mono h8.size);clear Hd Hz a_0 a_1
    go_wp2_with fail
    refine(Qt R cs.length _ HL.out CA).mono ?_
    rintro e w3 ⟨v3,rfl,Hm,He⟩;have HB:=h_ (Ha.trans (He.mono Ha.size));have HO:=h_ (OwnI.mono Hm Ha.size);clear Hm He;go_wp2;go_ret
    refine⟨_,rfl,by rw[HR.out,<-HM.out];exact HO.out,fun h=>?_,HB.out⟩
    rw[HR.out,za] at h;have:=HS.out;rw[abx h] at this
    cases this
theorem z5G (cs:List Int) (C:List Nat) (y x:Int) (k:Nat):swK cs C y x (k+1)=(swK cs C y x k).set (C.getD k 0) (if cs.getD (C.getD k 0) 0=x then y else x):=rfl
theorem z1M {ns ls:List Pr} {cs:List Int} {f x:Int} (h:yC ns ls cs f x=false∨cs.getD f.toNat 0=x):vU ns ls cs f x=false/\vQ ns ls cs f x=cs:=by
 have hb:vU ns ls cs f x=false:=by
  unfold vU
  rcases h with h|h
  ·rw[h];rfl
  ·rw[aaQ h];simp
 exact⟨hb,by unfold vQ;rw[hb];rfl⟩
theorem z4v {ns ls:List Pr} {cs:List Int} {f:Nat} {x:Int} (h1:yC ns ls cs f x=true) (h2:¬cs.getD f 0=x):vU ns ls cs f x=true/\vQ ns ls cs f x=swK cs (qI ns ls cs f x) (cs.getD f 0) x (qI ns ls cs f x).length :=by
 have hb:vU ns ls cs f x=true:=by
  unfold vU;rw[h1,aa5,aaO h2];rfl
 exact⟨hb,by unfold vQ;rw[hb,aa5];rfl⟩
theorem z55 (vn vl vc:Value) (ns ls:List Pr) (cs:List Int) (f x:Int) (w:World) (hn:RP w vn ns) (hl:RP w vl ls) (hc:RI w vc cs) (hle:cs.length<=1048576):
  Calls Tryz.prog 96 #[.agg #[vn,vl],vc,.int .i64 f,.int .i64 x] w (z24 (vQ ns ls cs f x) (vU ns ls cs f x) w):=by
 have Hg:Below w.heap.size w (w.alloc (.cells #[vn,vl] 27)):=bel_
 have gy:Blk (w.alloc (.cells #[vn,vl] 27)) w.heap.size 27 #[vn,vl]:=Blk.newAt rfl;have Y4:=h_ (fun (v:World) (hb:Below w.heap.size w v)=>z0H vn vl vc ns ls cs f x v (hn.below hb) (hl.below hb) (hc.below hb) hle);have UD:=h_ (vZ vc cs _ (hc.below Hg) hle);have bQ:=fun (u:World) (a:Option Addr) (l c:Nat)=>Lib.run_eql_slice_nil (P:=Tryz.prog) u 31 3 a l c 0 0 Tryz.underlying31
 cases hq:yC ns ls cs f x
 ·obtain⟨FQ,F6⟩:=z1M (.inl hq)
  have GW:=h_ FQ;have gU:=h_ F6;have HI:=h_ (xP hq);clear FQ F6 hq
  go_enter Tryz.func96,Tryz.ntmps96
  go_wp2_with fail
  refine UD.out.mono ?_
  rintro e w1 ⟨v1,rfl,Hi,h9⟩;have h8:=Hg.trans (h9.mono Hg.size);have Hz:=gy.below h9 gy.lt;obtain⟨a_0,a_1⟩:=Hz.c2;clear h9 UD
  go_wp2_with fail
  refine(Y4.out _ h8).mono ?_
  rw[HI.out];rintro e w2 ⟨v2,rfl,_,Uz,Hd⟩;have e2:=Uz rfl;subst e2;have HB:=h_ (h8.trans (Hd.mono h8.size));have HO:=h_ (OwnI.mono (Hi.kept Hd) (show w.heap.size<=_ by simp));clear Hi Uz Hd Hz a_0 a_1 Y4;go_wp2;exact bodyPost_ret (v:= .tuple #[v1,.bool false]) (by simp[results,Tryz.results96,go_sem]) rfl ⟨_,by rw[GW.out],by rw[gU.out];exact HO.out,HB.out⟩
 ·have WG:=hq
  unfold yC at WG;rw[aaG,aaG] at WG;obtain⟨k,rfl⟩:∃k:Nat,f=k:=⟨f.toNat,by have:=zf.1 WG.2.1;omega⟩;have hk:k<cs.length:=by have:=zf.1 WG.2.1;omega
  have HI:=h_ (VG hq);have HMEM:=h_ (ZS (ns:=ns) (ls:=ls) (x:=x) hk);have FZ:=h_ (fun i (h:i∈qI ns ls cs k x)=>z5u h);obtain⟨Ac,cc,rfl,Gj,M1,cM⟩:=hc.form;unfold maxLen at M1;obtain⟨bc,oc,rfl,Gn,M9⟩:=cM o_;have Fo:=h_ M9;have ik1:(0:Int)<=(k:Int):=o_
  have ik2:(k:Int)<(cs.length:Int):=o_
  have Bx:=h_ (fun h=>z1M (ns:=ns) (ls:=ls) (cs:=cs) (f:=(k:Int)) (x:=x) (.inr h));have HYE:=h_ (fun h=>z4v (ns:=ns) (ls:=ls) (cs:=cs) (f:=k) (x:=x) hq h);have wX:=h_ (fun C y k=>z5G cs C y x k);have BY:=h_ (fun C y k=>J3 cs C y x k);have HSZ:Hid (∀C y,swK cs C y x 0=cs):=h_ (fun _ _=>rfl);clear hq WG hc cM M9 hn hl;rw[aa5] at Bx;have hcwl:=z3g ns ls cs k x;generalize qI ns ls cs k x=C at*;have hCp:0<C.length:=abh HMEM.out;have UG:Hid (∀j,j<C.length->C.getD j 0<cs.length):=h_ (fun j hj=>FZ.out _ (by rw[aa6,aac hj];exact abg hj))
  go_enter Tryz.func96,Tryz.ntmps96
  go_wp2_with fail
  refine UD.out.mono ?_
  rintro e w1 ⟨v1,rfl,Hi,h9⟩;have h8:=Hg.trans (h9.mono Hg.size);have Hz:=gy.below h9 gy.lt;obtain⟨a_0,a_1⟩:=Hz.c2;clear h9 UD
  go_wp2_with fail
  refine(Y4.out _ h8).mono ?_
  rw[HI.out];rintro e w2 ⟨v2,rfl,Hk,_,Hd⟩;have Ha:=h8.trans (Hd.mono h8.size);have H7:=OwnI.mono (Hi.kept Hd) (show w.heap.size<=_ by simp);obtain⟨g1,c1,rfl,gc,hg1b,gD,_⟩:=OwnI.blk Hi o_;obtain⟨b2,c2,rfl,gE,Mh,hb2l,Gp⟩:=OwnI.blk Hk (by rw[za];exact hCp);rw[za] at gE Gp⊢;have WH:b2≠g1:=o_
  have UM:=h_ Gp;have hyk:=(Ha.cell (p:=⟨bc,oc+k,none⟩) Gn).trans (Fo.out k hk);have NV:bc<w2.heap.size:=aaD Gn Ha.size;have BF:w.heap.size<=g1:=by simp at hg1b;omega
  clear Hi Hk Hd Hz a_0 a_1 Y4 Gp;generalize cs.getD k 0=y at*
  by_cases UN:y=x
  ·have e1:(y==x)=true:=beq_iff_eq.2 UN
   obtain⟨FQ,F6⟩:=Bx.out UN;have GW:=h_ FQ;have gU:=h_ F6;have HO:=h_ H7;clear FQ F6 H7 UN;go_wp2;exact bodyPost_ret (v:= .tuple #[.slice (some ⟨g1,0,none⟩) cs.length c1,.bool false]) (by simp[results,Tryz.results96,go_sem]) rfl ⟨_,by rw[GW.out],by rw[gU.out];exact HO.out,Ha⟩
  ·have e1:(y==x)=false:=beq_eq_false_iff_ne.2 UN
   obtain⟨FQ,F6⟩:=HYE.out UN;have GW:=h_ FQ;have gU:=h_ F6;have CZ:OwnI w.heap.size w2 (.slice (some ⟨g1,0,none⟩) cs.length c1) (swK cs C y x 0):=by rw[HSZ.out];exact H7
   have G7:w2.grownBy w2 (some g1):=qW _ _;clear FQ F6 H7 UN;go_wp2
   go_loopw [34] (fun t wr=>∃j:Nat,j<=C.length/\t= .int .i64 j/\OwnI w.heap.size wr (.slice (some ⟨g1,0,none⟩) cs.length c1) (swK cs C y x j)/\w2.grownBy wr (some g1)) (fun t _=>C.length -(intOf t).toNat)
   case atStart=>exact⟨0,aab _,rfl,CZ,G7⟩
   case round=>
    clear CZ G7;obtain⟨j,hj,rfl,ho,hg⟩:=hrel
    by_cases Hf:j<C.length
    ·have Hp:(j:Int)<(C.length:Int):=o_
     have ij1:(0:Int)<=(j:Int):=o_
     have q0:=(jC (o:=j) (hg.block b2 hb2l (fun e=>WH (by cases e;rfl)))).trans (UM.out j Hf);rw[qs] at q0;have CI:=UG.out j Hf;have HS:=h_ (wX.out C y j);have YB:=BY.out C y j;generalize C.getD j 0=d at*;have q1:=(jC (o:=oc+d) (hg.block bc NV (fun e=>by cases e;omega))).trans ((Ha.cell (p:=⟨bc,oc+d,none⟩) Gn).trans (Fo.out d CI));have q2:=(jC (o:=oc+k) (hg.block bc NV (fun e=>by cases e;omega))).trans hyk;have id1:(0:Int)<=(d:Int):=o_
     have id2:(d:Int)<(cs.length:Int):=o_
     have FE:=OwnE.cell (t:=3) (enc:=vI) ho 0 (q:=d) o_;obtain⟨zz,YO⟩:∃z,wr.cell? ⟨g1,d,none⟩=some z:=⟨_,FE⟩;have fz:=OwnE.frz (t:=3) (enc:=vI) ho d;have HO:=h_ (fun z=>kA ho d z);have HG:=h_ (fun z=>qU hg d z);generalize cs.getD d 0=c at*;clear FE ho hg YB
     by_cases UO:c=x
     ·have e2:(c==x)=true:=beq_iff_eq.2 UO
      have HS':=h_ (HS.out.trans (by rw[aao UO]));clear UO;go_wp2;go_roundw
      case rel=>exact⟨j+1,by omega,by go_num,by rw[HS'.out];exact HO.out y,HG.out _⟩
      case measure=>simp[intOf];omega
     ·have e2:(c==x)=false:=beq_eq_false_iff_ne.2 UO
      have HS':=h_ (HS.out.trans (by rw[aaq UO]));clear UO;go_wp2;go_roundw
      case rel=>exact⟨j+1,by omega,by go_num,by rw[HS'.out];exact HO.out x,HG.out _⟩
      case measure=>simp[intOf];omega
    ·have GP:j=C.length:=o_
     subst GP;have HB:=h_ (Ha.grown hg Ha.size (fun k hk=>by cases hk;exact BF));have HO:=h_ ho;clear ho hg;go_wp2;exact bodyPost_ret (v:= .tuple #[.slice (some ⟨g1,0,none⟩) cs.length c1,.bool true]) (by simp[results,Tryz.results96,go_sem]) rfl ⟨_,by rw[GW.out],by rw[gU.out];exact HO.out,HB.out⟩
theorem al1 {w:World} {o1:Obj} {b i:Nat} {x:Value} (h:w.cell? ⟨b,i,none⟩=some x) (hb:b<w.heap.size):(w.alloc o1).cell? ⟨b,i,none⟩=some x:=
 (((aaj w.heap.size w).alloc (aaa _) o1).cell (p:=⟨b,i,none⟩) hb).trans h
theorem new3 {w:World} {x y z:Value} {t:TypeId}:(w.alloc (.cells #[x,y,z] t)).cell? ⟨w.heap.size,0,none⟩=some x/\(w.alloc (.cells #[x,y,z] t)).cell? ⟨w.heap.size,1,none⟩=some y/\(w.alloc (.cells #[x,y,z] t)).cell? ⟨w.heap.size,2,none⟩=some z:=
 ⟨(Blk.newAt rfl).cell 0,(Blk.newAt rfl).cell 1,(Blk.newAt rfl).cell 2⟩
theorem z0j {l:List Dp} {d:Dp} (h:qB l=false∨qB (l++[d])=false):adpL l d=l/\adpB l d=false:=by
 have hb:adpB l d=false:=by unfold adpB;rcases h with h|h<;>simp[h]
 exact⟨by unfold adpL;rw[hb];rfl,hb⟩
theorem z3W {l:List Dp} {d:Dp} (h1:qB l=true) (h2:qB (l++[d])=true):adpL l d=l++[d]/\adpB l d=true:=by
 have hb:adpB l d=true:=by unfold adpB;rw[h1,h2];rfl
 exact⟨by unfold adpL;rw[hb];rfl,hb⟩
theorem Q9 {w:World} {ops:Array Oper} {o:Oper} {a:Act} {K:Act->World->Prop} {Q:Exit->Act->World->Prop} {E:Prop} (fY:o.guard=none) (s x:Operand)
  (ho:o.op= .call { callee:= .builtin .append,args:= #[s,x],argTypes:= #[32,32] })
  (base:Nat) (v:Value) (ds:List Dp) (d:Dp) (g:Nat) (hs:a.eval s=v) (hx:a.eval x= .slice (some ⟨g,0,none⟩) 1 1) (hg:w.cell? ⟨g,0,none⟩=some (.int .i64 d.k)/\w.cell? ⟨g,1,none⟩=some (.int .i64 d.a)/\w.cell? ⟨g,2,none⟩=some (.int .i64 d.b))
  (hgl:g<w.heap.size) (hown:zK base w v ds) (Hj:ds.length<=1048576) (Hu:base<=w.heap.size)
  (h:∀A c w',zK base w' (.slice A (ds.length+1) c) (ds++[d])->w.grownBy w' v.ownBlock->K (a.put o.dst (.slice A (ds.length+1) c)) w'):
  if Region.wanted o (yielded ops a.tmps)=true then Oper.wp Tryz.prog o a w K Q else E:=by
 obtain⟨i,hi,hz,Hs,GN⟩:=info_parts xS
 have hr:RS w 3 (.slice (some ⟨g,0,none⟩) 1 1) 1 d.cs:=⟨rfl,some ⟨g,0,none⟩,1,rfl,aaa _,by simp[maxLen],fun _=>⟨g,0,rfl,hgl,fun j u hj=>by
  match j,hj with
  |0,hj=>cases hj;exact hg.1
  |1,hj=>cases hj;exact hg.2.1
  |2,hj=>cases hj;exact hg.2.2
  |j+3,hj=>simp[Dp.cs] at hj⟩⟩
 refine x5 fY s x 32 ho base 48 i (.agg #[.int .i64 0,.int .i64 0,.int .i64 0]) 3 24 Tryz.underlying32 hi hz Hs GN rfl (by decide) v _ ds.length 1 _ d.cs hs hx hown hr
  (by intro y hy;simp[Dp.cs] at hy;rcases hy with rfl|rfl|rfl<;>rfl) o_ (by decide) Hu fun A c w' e1 e2 _=>h A c w' (by
   have e4:(ds++[d]).flatMap Dp.cs=ds.flatMap Dp.cs++d.cs:=by simp
   unfold zK;rw[e4,show(ds++[d]).length =ds.length+1 by simp];exact e1) e2
theorem VX {w:World} {ops:Array Oper} {o:Oper} {a:Act} {K:Act->World->Prop} {Q:Exit->Act->World->Prop} {E:Prop} (fY:o.guard=none) (s x:Operand)
  (ho:o.op= .call { callee:= .builtin .append,args:= #[s,x],argTypes:= #[32,32] })
  (base:Nat) (g:Nat) (v:Value) (l:List Dp) (hs:a.eval s= .slice (some ⟨g,0,none⟩) 0 0) (hx:a.eval x=v) (hown:zK base w (.slice (some ⟨g,0,none⟩) 0 0) []) (hr:RDp w v l) (Hj:l.length<=1048576) (Hu:base<=w.heap.size)
  (h:∀A c w',zK base w' (.slice A l.length c) l->w.grownBy w' (some g)->K (a.put o.dst (.slice A l.length c)) w'):
  if Region.wanted o (yielded ops a.tmps)=true then Oper.wp Tryz.prog o a w K Q else E:=by
 obtain⟨i,hi,hz,Hs,GN⟩:=info_parts xS
 refine x5 fY s x 32 ho base 48 i (.agg #[.int .i64 0,.int .i64 0,.int .i64 0]) 3 24 Tryz.underlying32 hi hz Hs GN rfl (by decide) _ v 0 l.length [] (l.flatMap Dp.cs) hs hx hown hr
  (z9H l) o_ (by decide) Hu fun A c w' e1 e2 _=>?_
 rw[aaF] at e1⊢;exact h A c w' e1 e2
theorem z28 (v:Value) (l:List Dp) (d:Dp) (w:World) (h:RDp w v l) (hle:l.length<=1048576):
  Calls Tryz.prog 112 #[v,.agg #[.int .i64 d.k,.int .i64 d.a,.int .i64 d.b]] w (z3s (adpL l d) (adpB l d) w):=by
 obtain⟨E,hE⟩:∃E,adpL l d=E:=⟨_,rfl⟩;obtain⟨BB,fI⟩:∃b,adpB l d=b:=⟨_,rfl⟩;rw[hE,fI];have HE:=h_ hE;have gw:=h_ fI;clear hE fI;obtain⟨w0,Gx⟩:∃u,u=w.alloc (.cells #[.int .i64 d.k,.int .i64 d.a,.int .i64 d.b] 48):=⟨_,rfl⟩;have Cc:Blk w0 w.heap.size 48 #[.int .i64 d.k,.int .i64 d.a,.int .i64 d.b]:=Gx▸Blk.newAt rfl;have Hg:Below w.heap.size w w0:=Gx▸(aaj _ _).alloc (aaa _) _;have Mi:w0.heap.size=w.heap.size+1:=by rw[Gx];simp
 have bT:=h_ Gx;have HR:=h_ (h.below Hg);have Mg:=h_ h;clear h Gx
 go_enter Tryz.func112,Tryz.ntmps112
 go_upto_region 1 with (fail)
 rw[<-bT.out];clear bT;obtain⟨x_0,x_1,x_2⟩:=Cc.c3;have q0:w.heap.size<w0.heap.size:=o_
 clear Cc Mi
 go_cut [6] (fun s6 wx=>∃A c,s6= .slice A (l.length+1) c/\zK w.heap.size wx (.slice A (l.length+1) c) (l++[d])/\Below w.heap.size w wx)
 case first=>
  go_region_held3 (fun w'=>w'.cell? ⟨w.heap.size,0,none⟩=some (.int .i64 d.k)/\w'.cell? ⟨w.heap.size,1,none⟩=some (.int .i64 d.a)/\w'.cell? ⟨w.heap.size,2,none⟩=some (.int .i64 d.b))
   (first|(with_reducible exact⟨by assumption,by assumption,by assumption⟩)|go_keep|(exact⟨al1 (by assumption) (by assumption),al1 (by assumption) (by assumption),al1 (by assumption) (by assumption)⟩))
   (first|(go_at_call 134;refine Calls.mono (yb _ l _ (HR.out.below bel_) hle) ?_;rintro e w1 ⟨v1,rfl,Hi,h9⟩;(have gc:=bdC h9);have Ht:=h9.size;(try simp at Ht);(try have gF:=p0_ w w1);(try have Ge:=p1_ w w1);(have nE:w0.heap.size<=w1.heap.size:=by omega);(try have Na:w0.heap.size<w1.heap.size:=by omega);(try have z00:w1.cell? ⟨w0.heap.size,0,none⟩=some (.int .i64 d.k):=(gc (w0.heap.size) 0 (by first|omega|(simp;done)|(simp;omega))).trans (by simp;done));(try have z01:w1.cell? ⟨w0.heap.size,1,none⟩=some (.int .i64 d.a):=(gc (w0.heap.size) 1 (by first|omega|(simp;done)|(simp;omega))).trans (by simp;done));(try have z02:w1.cell? ⟨w0.heap.size,2,none⟩=some (.int .i64 d.b):=(gc (w0.heap.size) 2 (by first|omega|(simp;done)|(simp;omega))).trans (by simp;done));(have s0:w1.cell? ⟨w.heap.size,0,none⟩=some (.int .i64 d.k):=(gc w.heap.size 0 (by first|omega|(simp;omega))).trans (by(first|exact x_0|exact al1 x_0 o_)));(have s1:w1.cell? ⟨w.heap.size,1,none⟩=some (.int .i64 d.a):=(gc w.heap.size 1 (by first|omega|(simp;omega))).trans (by(first|exact x_1|exact al1 x_1 o_)));(have s2:w1.cell? ⟨w.heap.size,2,none⟩=some (.int .i64 d.b):=(gc w.heap.size 2 (by first|omega|(simp;omega))).trans (by(first|exact x_2|exact al1 x_2 o_))))|(refine Q9 rfl _ _ rfl w.heap.size v1 l d _ rfl rfl ?hg ?hgl ?hown hle ?hbs ?_;(case hg=>(first|(with_reducible exact new3)|exact⟨z00,z01,z02⟩));(case hgl=>(first|omega|(simp;done)|(simp;omega)));(case hown=>(first|exact zK.mono Hi (by first|omega|(simp;omega))|exact zK.mono (zK.kept Hi bel_) (by first|omega|(simp;done)|(simp;omega))));(case hbs=>(first|omega|(simp;omega)));intro A c w3 Hm gn;(have GO:Below w0.heap.size w0 w3:=by(refine Below.grown ?_ gn ?_ ?_;(exact bel_);(focus (first|omega|(simp;done)|(simp;omega)));(intro q hq;have:=(World.ownsRow.lt Hi q hq).1;(first|omega|(simp at this;omega)))));(have s30:=(GO.cell (p:=⟨w.heap.size,0,none⟩) q0).trans x_0);(have s31:=(GO.cell (p:=⟨w.heap.size,1,none⟩) q0).trans x_1);(have s32:=(GO.cell (p:=⟨w.heap.size,2,none⟩) q0).trans x_2);(have F1:=h_ Hm);clear Hm gn)|fail)
  all_goals go_wp2
  all_goals go_meet
  all_goals exact⟨A,c,rfl,F1.out,Hg.trans (GO.mono Hg.size)⟩
 case rest=>
  obtain⟨A,c,rfl,hO,hB⟩:=hcut;obtain⟨w4,Bm⟩:∃u,u=wc:=⟨_,rfl⟩;subst Bm;have fF:=RDp.below Mg.out hB;have rC:zK w.heap.size w4 (.slice A (l.length+1) c) (l++[d]):=hO;clear x_0 x_1 x_2 hO
  go_wp2_with fail
  refine(xM _ l _ fF).mono ?_
  rintro e w5 ⟨rfl,H0⟩;have fL:=RDp.below fF H0;have C9:=zK.kept rC H0;have fg:=hB.trans (H0.mono hB.size);clear fF rC hB H0
  cases h1:qB l
  ·obtain⟨u1,u2⟩:=z0j (d:=d) (.inl h1)
   have Gm:l=E:=u1.symm.trans HE.out;have gS:false=BB:=u2.symm.trans gw.out;subst gS;subst Gm;clear u1 u2 HE gw
   go_wp2_with fail
   refine(yb _ l _ fL hle).mono ?_
   rintro e w6 ⟨v6,rfl,G2,gz⟩;go_wp2;exact bodyPost_ret (v:= .tuple #[v6,.bool false]) (by simp[results,Tryz.results112,go_sem]) rfl ⟨_,rfl,zK.mono G2 fg.size,fg.trans (gz.mono fg.size)⟩
  ·go_wp2_with fail
   refine(xM _ (l++[d]) _ C9.reads).mono ?_
   rintro e w6 ⟨rfl,gz⟩;have fW:=RDp.below fL gz;have Cy:=zK.kept C9 gz;have mA:=fg.trans (gz.mono fg.size);clear fL C9 fg gz
   cases h2:qB (l++[d])
   ·obtain⟨u1,u2⟩:=z0j (l:=l) (.inr h2)
    have Gm:l=E:=u1.symm.trans HE.out;have gS:false=BB:=u2.symm.trans gw.out;subst gS;subst Gm;clear u1 u2 HE gw
    go_wp2_with fail
    refine(yb _ l _ fW hle).mono ?_
    rintro e w7 ⟨v7,rfl,Cb,fQ⟩;go_wp2;exact bodyPost_ret (v:= .tuple #[v7,.bool false]) (by simp[results,Tryz.results112,go_sem]) rfl ⟨_,rfl,zK.mono Cb mA.size,mA.trans (fQ.mono mA.size)⟩
   ·obtain⟨u1,u2⟩:=z3W h1 h2
    have Gm:l++[d]=E:=u1.symm.trans HE.out;have gS:true=BB:=u2.symm.trans gw.out;subst gS;have WI:=h_ Gm;clear u1 u2 HE gw Gm;go_wp2;exact bodyPost_ret (v:= .tuple #[.slice A (l.length+1) c,.bool true]) (by simp[results,Tryz.results112,go_sem]) rfl ⟨_,rfl,by rw[<-WI.out];exact Cy,mA⟩
theorem z1H (v:Value) (l:List Dp) (d:Dp) (w:World) (h:RDp w v l) (hle:l.length<=1048576):
  Calls Tryz.prog 123 #[v,.agg #[.int .i64 d.k,.int .i64 d.a,.int .i64 d.b]] w (z3s (adpL l d) (adpB l d) w):=by
 obtain⟨E,hE⟩:∃E,adpL l d=E:=⟨_,rfl⟩;obtain⟨BB,fI⟩:∃b,adpB l d=b:=⟨_,rfl⟩;rw[hE,fI];have HE:=h_ hE;have gw:=h_ fI;clear hE fI;obtain⟨w0,Gx⟩:∃u,u=w.alloc (.cells #[.int .i64 d.k,.int .i64 d.a,.int .i64 d.b] 48):=⟨_,rfl⟩;have Cc:Blk w0 w.heap.size 48 #[.int .i64 d.k,.int .i64 d.a,.int .i64 d.b]:=Gx▸Blk.newAt rfl;have Hg:Below w.heap.size w w0:=Gx▸(aaj _ _).alloc (aaa _) _;have Mi:w0.heap.size=w.heap.size+1:=by rw[Gx];simp
 have bT:=h_ Gx;have HR:=h_ (h.below Hg);have Mg:=h_ h;obtain⟨i0,hi,iz0,iz1,iz2⟩:=info_parts xS;clear h Gx
 go_enter Tryz.func123,Tryz.ntmps123
 go_upto_region 1 with (fail)
 rw[<-bT.out];clear bT;obtain⟨x_0,x_1,x_2⟩:=Cc.c3;have q0:w.heap.size<w0.heap.size:=o_
 clear Cc Mi
 go_cut [6] (fun s6 wx=>∃A c,s6= .slice A (l.length+1) c/\zK w.heap.size wx (.slice A (l.length+1) c) (l++[d])/\Below w.heap.size w wx)
 case first=>
  go_region_held3 (fun w'=>w'.cell? ⟨w.heap.size,0,none⟩=some (.int .i64 d.k)/\w'.cell? ⟨w.heap.size,1,none⟩=some (.int .i64 d.a)/\w'.cell? ⟨w.heap.size,2,none⟩=some (.int .i64 d.b))
   (first|(with_reducible exact⟨by assumption,by assumption,by assumption⟩)|go_keep|(exact⟨al1 (by assumption) (by assumption),al1 (by assumption) (by assumption),al1 (by assumption) (by assumption)⟩))
   (first|(refine VX rfl _ _ rfl w0.heap.size _ v l rfl rfl ?hown ?hr hle ?hbs ?_;(case hown=>(first|exact qh (by first|exact aaa _|(simp[World.drew];done)|(simp[World.drew];omega)) (by first|rfl|(simp[World.drew];done))|exact World.ownsRow.alloc (qh (aaa _) rfl) _));(case hr=>exact HR.out.below bel_);(case hbs=>(first|exact aaa _|(simp[World.drew];done)|(simp[World.drew];omega)));intro A1 c1 w2 Hk gm;(have Mh:Below w0.heap.size w0 w2:=by(refine Below.grown ?_ gm ?_ ?_;(exact bel_);(focus (first|(simp;done)|(simp;omega)));(intro q hq;cases hq;(first|exact aaa _|(simp[World.drew];done)|(simp[World.drew];omega)))));(have rj:w0.heap.size<=w2.heap.size:=Mh.size);(try have zA:Blk w2 w0.heap.size 48 #[.int .i64 d.k,.int .i64 d.a,.int .i64 d.b]:=(gm.block w0.heap.size (by first|(simp;done)|(simp;omega)) (by simp)).trans (Blk.alloc (Blk.newAt rfl) _));(try have zB:Blk w2 (w0.heap.size+1) 48 #[.int .i64 d.k,.int .i64 d.a,.int .i64 d.b]:=(gm.block (w0.heap.size+1) (by first|(simp;done)|(simp;omega)) (by simp)).trans (Blk.newAt (by simp)));(have s20:=(Mh.cell (p:=⟨w.heap.size,0,none⟩) q0).trans x_0);(have s21:=(Mh.cell (p:=⟨w.heap.size,1,none⟩) q0).trans x_1);(have s22:=(Mh.cell (p:=⟨w.heap.size,2,none⟩) q0).trans x_2);clear gm)|(refine Q9 rfl _ _ rfl w0.heap.size (.slice A1 l.length c1) l d _ rfl rfl ?hg ?hgl ?hown hle ?hbs ?_;(case hg=>(first|(with_reducible exact new3)|exact⟨zA.cell 0,zA.cell 1,zA.cell 2⟩|exact⟨zB.cell 0,zB.cell 1,zB.cell 2⟩));(case hgl=>(first|omega|(simp[World.drew];done)|(simp[World.drew];omega)|exact zA.lt|exact zB.lt));(case hown=>(first|exact Hk|exact World.ownsRow.alloc Hk _));(case hbs=>(first|omega|(simp[World.drew];omega)));intro A c w3 Hm gn;(have GO:Below w0.heap.size w0 w3:=by(refine Below.grown ?_ gn ?_ ?_;(exact bel_);(first|omega|(simp[World.drew];done)|(simp[World.drew];omega));(intro q hq;exact(World.ownsRow.lt Hk q hq).1)));(have s30:=(GO.cell (p:=⟨w.heap.size,0,none⟩) q0).trans x_0);(have s31:=(GO.cell (p:=⟨w.heap.size,1,none⟩) q0).trans x_1);(have s32:=(GO.cell (p:=⟨w.heap.size,2,none⟩) q0).trans x_2);(have F1:=h_ (zK.mono Hm (Nat.le_of_lt q0)));clear Hm gn)|fail)
  all_goals go_wp2
  all_goals go_meet
  all_goals exact⟨A,c,rfl,F1.out,Hg.trans (GO.mono Hg.size)⟩
 case rest=>
  obtain⟨A,c,rfl,hO,hB⟩:=hcut;obtain⟨w4,Bm⟩:∃u,u=wc:=⟨_,rfl⟩;subst Bm;have fF:=RDp.below Mg.out hB;have rC:zK w.heap.size w4 (.slice A (l.length+1) c) (l++[d]):=hO;clear x_0 x_1 x_2 hO
  go_wp2_with fail
  refine(Zb _ l _ fF).mono ?_
  rintro e w5 ⟨rfl,H0⟩;have fL:=RDp.below fF H0;have C9:=zK.kept rC H0;have fg:=hB.trans (H0.mono hB.size);clear fF rC hB H0
  cases h1:qB l
  ·obtain⟨u1,u2⟩:=z0j (d:=d) (.inl h1)
   have Gm:l=E:=u1.symm.trans HE.out;have gS:false=BB:=u2.symm.trans gw.out;subst gS;subst Gm;clear u1 u2 HE gw
   go_wp2_with (at_builtin;refine qT rfl _ _ _ rfl w.heap.size 48 i0 (.agg #[.int .i64 0,.int .i64 0,.int .i64 0]) 3 24 Tryz.underlying32 hi iz0 iz1 iz2 rfl (by decide) (.slice (some ⟨w5.heap.size,0,none⟩) 0 0) v 0 l.length [] (l.flatMap Dp.cs) rfl rfl (qh fg.size rfl) (fL.below bel_) (z9H l) o_ (by decide) (by have:=fg.size;simp;omega) ?_)
   intro A6 c6 w6 G2 GX _;have Ri:=(fg.alloc fg.size (.cells #[] 48)).grown GX (by have:=fg.size;simp;omega) (fun q hq=>by cases hq;exact fg.size);have Cd:Hid (zK w.heap.size w6 (.slice A6 l.length c6) l):=h_ G2;clear G2 GX;go_wp2;exact bodyPost_ret (v:= .tuple #[.slice A6 l.length c6,.bool false]) (by simp[results,Tryz.results123,go_sem]) rfl ⟨_,rfl,Cd.out,Ri⟩
  ·go_wp2_with fail
   refine(Zb _ (l++[d]) _ C9.reads).mono ?_
   rintro e w6 ⟨rfl,gz⟩;have fW:=RDp.below fL gz;have Cy:=zK.kept C9 gz;have mA:=fg.trans (gz.mono fg.size);clear fL C9 fg gz
   cases h2:qB (l++[d])
   ·obtain⟨u1,u2⟩:=z0j (l:=l) (.inr h2)
    have Gm:l=E:=u1.symm.trans HE.out;have gS:false=BB:=u2.symm.trans gw.out;subst gS;subst Gm;clear u1 u2 HE gw
    go_wp2_with (at_builtin;refine qT rfl _ _ _ rfl w.heap.size 48 i0 (.agg #[.int .i64 0,.int .i64 0,.int .i64 0]) 3 24 Tryz.underlying32 hi iz0 iz1 iz2 rfl (by decide) (.slice (some ⟨w6.heap.size,0,none⟩) 0 0) v 0 l.length [] (l.flatMap Dp.cs) rfl rfl (qh mA.size rfl) (fW.below bel_) (z9H l) o_ (by decide) (by have:=mA.size;simp;omega) ?_)
    intro A6 c6 w7 G2 GX _;have Ri:=(mA.alloc mA.size (.cells #[] 48)).grown GX (by have:=mA.size;simp;omega) (fun q hq=>by cases hq;exact mA.size);have Cd:Hid (zK w.heap.size w7 (.slice A6 l.length c6) l):=h_ G2;clear G2 GX;go_wp2;exact bodyPost_ret (v:= .tuple #[.slice A6 l.length c6,.bool false]) (by simp[results,Tryz.results123,go_sem]) rfl ⟨_,rfl,Cd.out,Ri⟩
   ·obtain⟨u1,u2⟩:=z3W h1 h2
    have Gm:l++[d]=E:=u1.symm.trans HE.out;have gS:true=BB:=u2.symm.trans gw.out;subst gS;have WI:=h_ Gm;clear u1 u2 HE gw Gm;go_wp2;exact bodyPost_ret (v:= .tuple #[.slice A (l.length+1) c,.bool true]) (by simp[results,Tryz.results123,go_sem]) rfl ⟨_,rfl,by rw[<-WI.out];exact Cy,mA⟩
end Go.Proofs.YtnjcpljhmhdhkaaGreat
