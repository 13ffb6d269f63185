/- part 32 -/
import Derived.Test.YtnjcpljhmhdhkaaGreatUPk30
import Derived.Laws.EntriesVeiled
set_option linter.unusedSimpArgs false
set_option linter.unusedVariables false
set_option maxRecDepth 100000
set_option maxHeartbeats 16000000
namespace Go.Proofs.YtnjcpljhmhdhkaaGreat
open Go.RowKit
theorem z7T (near:Nat->Nat) (ok:Nat->Bool) (F s k:Nat):qG near ok F s (k+1)=rndC near ok (qG near ok F s k) F:=rfl
theorem z9b (near:Nat->Nat) (ok:Nat->Bool) (s k:Nat):rndC near ok s (k+1)=stpC near ok (rndC near ok s k) k:=rfl
theorem zaP {near:Nat->Nat} {ok:Nat->Bool} {s g:Nat} (h:ok g=false∨near g &&& s=0):stpC near ok s g=s:=by
 unfold stpC
 rcases h with h|h<;>simp[h]
theorem z9S {near:Nat->Nat} {ok:Nat->Bool} {s g:Nat} (h1:ok g=true) (h2:¬near g &&& s=0):stpC near ok s g=s ||| 2^g:=by
 unfold stpC;simp[h1,h2]
theorem z7K (vn vl vc:Value) (ns ls:List Pr) (cs:List Int) (f:Nat) (x:Int) (w:World) (hn:RP w vn ns) (hl:RP w vl ls) (hc:RI w vc cs) (hw:zf ns ls=true) (Ho:cs.length=(z9 ns ls).length) (hf:f<cs.length):
  CB_ 227 #[.agg #[vn,vl],vc,.int .i64 f,.int .i64 x] w (.int .i64 (qG (fun g=>(qX ns ls).getD g 0) (okX cs f x) cs.length (2^f) cs.length:Nat)):=by
 have Hg:Below w.heap.size w (w.alloc (.cells #[vn,vl] 27)):=bel_
 have GB:=zq ns ls;have Cj:=zE hw;have hF40:cs.length<=40:=o_
 obtain⟨Ac,cc,rfl,Gq,bD,Gz⟩:=hc.form;unfold maxLen at bD;obtain⟨bc,oc,rfl,Gs,FR⟩:=Gz o_;have Ce:=h_ FR;have mQ:Hid (∀g,g<cs.length->(qX ns ls).getD g 0<2^40):=h_ (fun g hg=>aaE (z1T hw (by rw[<-Cj,<-Ho];exact hg)) (aaF o_ (by rw[<-Cj];exact GB)));have fG:(qX ns ls).length =cs.length:=by unfold qX;rw[jY,<-Cj];exact Ho.symm
 have HNN:=h_ fG;have be:Hid (∀i,okX cs f x i=(decide (cs.getD i 0=cs.getD f 0)||decide (cs.getD i 0=x))):=h_ (fun _=>rfl);have h2f:2^f<2^cs.length:=aa4 o_ hf;have h240:(2:Nat)^cs.length<=2^40:=aaF o_ hF40;have HR1:Hid (∀k,qG (fun g=>(qX ns ls).getD g 0) (okX cs f x) cs.length (2^f) k<2^40):=h_ (fun k=>aaE (Qe h2f k) h240);have HR2:Hid (∀s k,s<2^40->k<=cs.length->rndC (fun g=>(qX ns ls).getD g 0) (okX cs f x) s k<2^40):=h_ (fun s k hs hk=>Vf hs k o_);have fg:=h_ (fun k=>z7T (fun g=>(qX ns ls).getD g 0) (okX cs f x) cs.length (2^f) k);have gB:=h_ (fun s k=>z9b (fun g=>(qX ns ls).getD g 0) (okX cs f x) s k);have HN:=h_ (fun s g h=>zaP (near:=fun g=>(qX ns ls).getD g 0) (ok:=okX cs f x) (s:=s) (g:=g) h);have HY:=h_ (fun s g h1 h2=>z9S (near:=fun g=>(qX ns ls).getD g 0) (ok:=okX cs f x) (s:=s) (g:=g) h1 h2);have HZ1:Hid (qG (fun g=>(qX ns ls).getD g 0) (okX cs f x) cs.length (2^f) 0=2^f):=h_ rfl;have HZ2:Hid (∀s,rndC (fun g=>(qX ns ls).getD g 0) (okX cs f x) s 0=s):=h_ (fun _=>rfl);have U3:=h_ (z1g vn vl ns ls _ (hn.below Hg) (hl.below Hg) hw);have xf:=shl64 (k:=f) o_;have hf64:f<64:=o_
 have if1:(0:Int)<=(f:Int):=o_
 have if2:(f:Int)<(cs.length:Int):=o_
 have hyf:=Ce.out f hf;generalize cs.getD f 0=y at*;generalize qG (fun g=>(qX ns ls).getD g 0) (okX cs f x) cs.length (2^f)=RS1 at*;generalize rndC (fun g=>(qX ns ls).getD g 0) (okX cs f x)=RC at*;generalize stpC (fun g=>(qX ns ls).getD g 0) (okX cs f x)=ST at*;generalize okX cs f x=OK at*;generalize qX ns ls=NN at*;have FN:Hid (RS1 0=2^f):=HZ1;generalize hQ2:((2^f:Nat):Int)=Q2 at*;have HQ2:=h_ hQ2;clear hQ2 h2f h240 Gz FR hc hn hl hw Cj fG GB Ho
 go_enter Tryz.func227,Tryz.ntmps227
 go_wp2_with fail
 refine U3.out.mono ?_
 rintro e w1 ⟨v1,rfl,Hj,h9⟩;have h8:=Hg.trans (h9.mono Hg.size);obtain⟨bA,cA,rfl,hcA,hbA0,G9,nH⟩:=OwnI.blk Hj (by rw[za,HNN.out];omega);rw[za,HNN.out] at hcA nH⊢;have HA:Hid (∀k,k<cs.length->w1.cell? ⟨bA,k,none⟩=some (.int .i64 (NN.getD k 0:Nat))):=h_ (fun k hk=>by rw[nH k hk,qj]);have hyf1:=(h8.cell (p:=⟨bc,oc+f,none⟩) Gs).trans hyf;have hbc1:bc<w1.heap.size:=aaE Gs h8.size;have HCC1:Hid (∀k,k<cs.length->w1.cell? ⟨bc,oc+k,none⟩=some (.int .i64 (cs.getD k 0))):=h_ (fun k hk=>(h8.cell (p:=⟨bc,oc+k,none⟩) Gs).trans (Ce.out k hk));clear h9 Hj nH Hg hyf U3;go_wp2
 go_loopw [10,19] (fun s t wr=>∃j:Nat,j<=cs.length/\t= .int .i64 j/\s= .int .i64 (RS1 j:Nat)/\wr=w1) (fun _ t _=>cs.length -(intOf t).toNat)
 case atStart=>exact⟨0,aab _,rfl,by rw[FN.out];simp only[HQ2.out,xf],rfl⟩
 case round=>
  obtain⟨j,hj,rfl,rfl,rfl⟩:=hrel
  by_cases Hd:j<cs.length
  ·have Hr:(j:Int)<(cs.length:Int):=o_
   have HT:=h_ (HR1.out j);have UW:=h_ (fg.out j);have HTZ:=h_ (HZ2.out (RS1 j));generalize hT:RS1 j=T at*;clear hT;go_wp2
   go_loopw [10,23] (fun s t w2=>∃i:Nat,i<=cs.length/\t= .int .i64 i/\s= .int .i64 (RC T i:Nat)/\w2=wr) (fun _ t _=>cs.length -(intOf t).toNat)
   case atStart=>exact⟨0,aab _,rfl,by rw[HTZ.out],rfl⟩
   case round=>
    obtain⟨i,hi,rfl,rfl,rfl⟩:=hrel
    by_cases Fm:i<cs.length
    ·have hil1:(i:Int)<(cs.length:Int):=o_
     have ii1:(0:Int)<=(i:Int):=o_
     have hs40:=HR2.out T i HT.out hi;have HS:=h_ (gB.out T i);have Gb:=HCC1.out i Fm;have nV:=HA.out i Fm;have N7:=mQ.out i Fm;have F9:=h_ (fun s h=>HN.out s i h);have MT:=h_ (fun s h1 h2=>HY.out s i h1 h2);have HO:=h_ (be.out i);generalize cs.getD i 0=c at*;generalize RC T i=s at*;generalize NN.getD i 0=nk at*;have oa:=ZC (a:=nk) (b:=s) o_ o_;have xi:=shl64 (k:=i) o_;have hi64:i<64:=o_
     have Pi:2^i<2^40:=aa4 o_ o_;have oo:=yZ (a:=s) (b:=2^i) o_ o_;generalize hnd:nk &&& s=nd at*;generalize CW:s ||| 2^i=os at*
     generalize hPI:((2^i:Nat):Int)=P2 at*;have us:=h_ hnd;have HOR:=h_ CW;clear hnd CW hPI Pi hs40 N7
     by_cases BI:c=y∨c=x
     ·have M8:Hid (OK i=true):=h_ (by rw[HO.out];rcases BI with h|h<;>simp[h])
      by_cases h0:nd=0
      ·have e3:(((nd:Nat):Int) != 0)=false:=by rw[h0];rfl
       have HX:=h_ (F9.out s (.inr (by rw[us.out];exact h0)));clear h0
       by_cases h1:c=y
       ·have e1:(c==y)=true:=beq_iff_eq.2 h1
        clear BI h1;go_wp2;go_roundw
        case rel=>exact⟨i+1,by omega,by go_num,by rw[HS.out,HX.out],by trivial⟩
        case measure=>simp[intOf];omega
       ·have e1:(c==y)=false:=beq_eq_false_iff_ne.2 h1
        have e2:(c==x)=true:=beq_iff_eq.2 (BI.resolve_left h1);clear BI h1;go_wp2;go_roundw
        case rel=>exact⟨i+1,by omega,by go_num,by rw[HS.out,HX.out],by trivial⟩
        case measure=>simp[intOf];omega
      ·have e3:(((nd:Nat):Int) != 0)=true:=by rw[bne_iff_ne];omega
       have HX:=h_ ((MT.out s M8.out (by rw[us.out];exact h0)).trans HOR.out);clear h0
       by_cases h1:c=y
       ·have e1:(c==y)=true:=beq_iff_eq.2 h1
        clear BI h1;go_wp2;go_roundw
        case rel=>exact⟨i+1,by omega,by go_num,by rw[HS.out,HX.out],by trivial⟩
        case measure=>simp[intOf];omega
       ·have e1:(c==y)=false:=beq_eq_false_iff_ne.2 h1
        have e2:(c==x)=true:=beq_iff_eq.2 (BI.resolve_left h1);clear BI h1;go_wp2;go_roundw
        case rel=>exact⟨i+1,by omega,by go_num,by rw[HS.out,HX.out],by trivial⟩
        case measure=>simp[intOf];omega
     ·have e1:(c==y)=false:=beq_eq_false_iff_ne.2 (fun h=>BI (.inl h))
      have e2:(c==x)=false:=beq_eq_false_iff_ne.2 (fun h=>BI (.inr h));have HX:=h_ (F9.out s (.inl (by rw[HO.out];simp only[not_or] at BI;simp[BI.1,BI.2])));clear BI;go_wp2;go_roundw
      case rel=>exact⟨i+1,by omega,by go_num,by rw[HS.out,HX.out],by trivial⟩
      case measure=>simp[intOf];omega
    ·have NF:i=cs.length:=o_
     subst NF;go_wp2;go_roundw
     case rel=>exact⟨j+1,by omega,by go_num,by rw[UW.out],by trivial⟩
     case measure=>simp[intOf];omega
  ·have GV:j=cs.length:=o_
   subst GV;go_wp2;go_ret
   exact⟨rfl,h8⟩
theorem yu {ns ls:List Pr} {cs:List Int} {f x:Int} (h:yo ns ls cs f x=false):Jl ns ls cs f x=[]:=by unfold Jl;rw[h];rfl
theorem kV {ns ls:List Pr} {cs:List Int} {f:Nat} {x:Int} (h:yo ns ls cs f x=true):Jl ns ls cs f x=q7 ns ls cs f x:=by unfold Jl;rw[h,aa6];rfl
theorem vM {ns ls:List Pr} {cs:List Int} {f x:Int} (h:zY ns ls cs=false∨inB f 0 ((cs.length:Int) -1)=false∨inB x 0 5=false):yo ns ls cs f x=false:=by
 unfold yo
 rcases h with h|h|h<;>simp[h]
theorem VO {ns ls:List Pr} {cs:List Int} {f x:Int} (h1:zY ns ls cs=true) (h2:inB f 0 ((cs.length:Int) -1)=true) (h3:inB x 0 5=true):yo ns ls cs f x=true:=by
 unfold yo;rw[h1,h2,h3];rfl
theorem z7F {ns ls:List Pr} {cs:List Int} {f:Nat} {x:Int} (hw:zf ns ls=true) (hl:cs.length=(z9 ns ls).length) (hf:f<cs.length):
  memS (qG (fun g=>(qX ns ls).getD g 0) (okX cs f x) cs.length (2^f) cs.length) cs.length=q7 ns ls cs f x/\qG (fun g=>(qX ns ls).getD g 0) (okX cs f x) cs.length (2^f) cs.length<2^cs.length:=by
 have Cj:=zE hw;have Gc:cs.length=(zg ns ls).length :=by rw[hl,Cj]
 refine⟨?_,Qe (aa4 o_ hf) _⟩
 exact z1M (near:=fun g=>(qX ns ls).getD g 0) (fun g i hg hi=>z4l hw o_) (fun g hg=>by rw[Gc];exact z1T hw o_) (fun g i=>z2O ns ls g i) hf
theorem z23 (vn vl vc:Value) (ns ls:List Pr) (cs:List Int) (f x:Int) (w:World) (hn:RP w vn ns) (hl:RP w vl ls) (hc:RI w vc cs) (hle:cs.length<=1048576):
  Calls Tryz.prog 171 #[.agg #[vn,vl],vc,.int .i64 f,.int .i64 x] w (RetN (natI (Jl ns ls cs f x)) w):=by
 have Hg:Below w.heap.size w (w.alloc (.cells #[vn,vl] 27)):=bel_
 have gD:Blk (w.alloc (.cells #[vn,vl] 27)) w.heap.size 27 #[vn,vl]:=Blk.newAt rfl;obtain⟨Ac,cc,rfl,Gq,bD,_⟩:=hc.form;unfold maxLen at bD
 cases hp:zY ns ls cs
 ·have HR:=h_ (yu (vM (f:=f) (x:=x) (.inl hp)))
  go_enter Tryz.func171,Tryz.ntmps171
  go_wp2_with fail
  refine(k6 _ _ _ ns ls cs _ _ (hn.below Hg) (hl.below Hg) (hc.below Hg) hp).mono ?_
  rintro e w1 ⟨rfl,h9⟩;have h8:=Hg.trans (h9.mono Hg.size);go_wp2;go_ret
  exact⟨_,rfl,by rw[HR.out];exact OwnI.nil _ _,fun _=>rfl,h8⟩
 ·cases hf:inB f 0 ((cs.length:Int) -1)
  ·have HR:=h_ (yu (vM (ns:=ns) (ls:=ls) (x:=x) (.inr (.inl hf))))
   have HF:=h_ hf;clear hf
   go_enter Tryz.func171,Tryz.ntmps171
   go_wp2_with fail
   refine(k6 _ _ _ ns ls cs _ _ (hn.below Hg) (hl.below Hg) (hc.below Hg) hp).mono ?_
   rintro e w1 ⟨rfl,h9⟩;have h8:=Hg.trans (h9.mono Hg.size)
   go_wp2_with fail
   refine(zm f 0 _ false _ HF.out).mono ?_
   rintro e w' ⟨rfl,rfl⟩;go_wp2;go_ret
   exact⟨_,rfl,by rw[HR.out];exact OwnI.nil _ _,fun _=>rfl,h8⟩
  ·cases hx:inB x 0 5
   ·have HR:=h_ (yu (vM (ns:=ns) (ls:=ls) (cs:=cs) (f:=f) (.inr (.inr hx))))
    have HF:=h_ hf;have HX:=h_ hx;clear hf hx
    go_enter Tryz.func171,Tryz.ntmps171
    go_wp2_with fail
    refine(k6 _ _ _ ns ls cs _ _ (hn.below Hg) (hl.below Hg) (hc.below Hg) hp).mono ?_
    rintro e w1 ⟨rfl,h9⟩;have h8:=Hg.trans (h9.mono Hg.size)
    go_wp2_with fail
    refine(zm f 0 _ true _ HF.out).mono ?_
    rintro e w' ⟨rfl,rfl⟩
    go_wp2_with fail
    refine(zm x 0 5 false _ HX.out).mono ?_
    rintro e w' ⟨rfl,rfl⟩;go_wp2;go_ret
    exact⟨_,rfl,by rw[HR.out];exact OwnI.nil _ _,fun _=>rfl,h8⟩
   ·obtain⟨k,rfl⟩:∃k:Nat,f=k:=⟨f.toNat,by have:=zd.1 hf;omega⟩
    have hk:k<cs.length:=by have:=zd.1 hf;omega
    have HR:=h_ (kV (VO hp hf hx));obtain⟨hw,Ho,_,_⟩:=vO.1 hp;rw[<-zE hw] at Ho;have GB:=zq ns ls;obtain⟨F4,hm2⟩:=z7F (x:=x) hw Ho hk;have HM:=h_ F4;have HL:=h_ hm2;have HS:=h_ (Qi (ns:=ns) (ls:=ls) (x:=x) hk);have HCH:=h_ (fun (v:World) (hb:Below w.heap.size w v)=>z7K vn vl _ ns ls cs k x v (hn.below hb) (hl.below hb) (hc.below hb) hw Ho hk);have uK:=h_ (k6 vn vl _ ns ls cs _ _ (hn.below Hg) (hl.below Hg) (hc.below Hg) hp);have cY:cs.length<=40:=o_
    have HF:=h_ hf;have HX:=h_ hx;clear hf hx F4 hm2 Ho GB hn hl hc hw hp;generalize qG (fun g=>(qX ns ls).getD g 0) (okX cs k x) cs.length (2^k) cs.length=R at*
    go_enter Tryz.func171,Tryz.ntmps171
    go_wp2_with fail
    refine uK.out.mono ?_
    rintro e w1 ⟨rfl,h9⟩;have h8:=Hg.trans (h9.mono Hg.size);have gg:=gD.below h9 gD.lt;clear h9 Hg gD uK
    go_wp2_with fail
    refine(zm _ 0 _ true _ HF.out).mono ?_
    rintro e w' ⟨rfl,rfl⟩
    go_wp2_with fail
    refine(zm x 0 5 true _ HX.out).mono ?_
    rintro e w' ⟨rfl,rfl⟩;obtain⟨a_0,a_1⟩:=gg.c2
    go_wp2_with fail
    refine(HCH.out _ h8).mono ?_
    rintro e w2 ⟨rfl,He⟩;have Ha:=h8.trans (He.mono h8.size);clear He gg a_0 a_1
    go_wp2_with fail
    refine(Zs R cs.length _ HL.out cY).mono ?_
    rintro e w3 ⟨v3,rfl,Hq,Hf⟩;have HB:=h_ (Ha.trans (Hf.mono Ha.size));have HO:=h_ (OwnI.mono Hq Ha.size);clear Hq Hf;go_wp2;go_ret
    refine⟨_,rfl,by rw[HR.out,<-HM.out];exact HO.out,fun h=>?_,HB.out⟩
    rw[HR.out,za] at h;have:=HS.out;rw[aby h] at this
    cases this
theorem z3d (cs:List Int) (C:List Nat) (y x:Int) (k:Nat):swK cs C y x (k+1)=(swK cs C y x k).set (C.getD k 0) (if cs.getD (C.getD k 0) 0=x then y else x):=rfl
theorem Zz {ns ls:List Pr} {cs:List Int} {f x:Int} (h:yo ns ls cs f x=false∨cs.getD f.toNat 0=x):vy ns ls cs f x=false/\vA ns ls cs f x=cs:=by
 have hb:vy ns ls cs f x=false:=by
  unfold vy
  rcases h with h|h
  ·rw[h];rfl
  ·rw[aaR h];simp
 exact⟨hb,by unfold vA;rw[hb];rfl⟩
theorem z0F {ns ls:List Pr} {cs:List Int} {f:Nat} {x:Int} (h1:yo ns ls cs f x=true) (h2:¬cs.getD f 0=x):vy ns ls cs f x=true/\vA ns ls cs f x=swK cs (q7 ns ls cs f x) (cs.getD f 0) x (q7 ns ls cs f x).length :=by
 have hb:vy ns ls cs f x=true:=by
  unfold vy;rw[h1,aa6,aaP h2];rfl
 exact⟨hb,by unfold vA;rw[hb,aa6];rfl⟩
theorem z7I (vn vl vc:Value) (ns ls:List Pr) (cs:List Int) (f x:Int) (w:World) (hn:RP w vn ns) (hl:RP w vl ls) (hc:RI w vc cs) (hle:cs.length<=1048576):
  Calls Tryz.prog 96 #[.agg #[vn,vl],vc,.int .i64 f,.int .i64 x] w (z0N (vA ns ls cs f x) (vy ns ls cs f x) w):=by
 have Hg:Below w.heap.size w (w.alloc (.cells #[vn,vl] 27)):=bel_
 have gD:Blk (w.alloc (.cells #[vn,vl] 27)) w.heap.size 27 #[vn,vl]:=Blk.newAt rfl;have Uz:=h_ (fun (v:World) (hb:Below w.heap.size w v)=>z23 vn vl vc ns ls cs f x v (hn.below hb) (hl.below hb) (hc.below hb) hle);have HCP:=h_ (kx vc cs _ (hc.below Hg) hle);have nz:=fun (u:World) (a:Option Addr) (l c:Nat)=>Lib.run_eql_slice_nil (P:=Tryz.prog) u 31 3 a l c 0 0 Tryz.underlying31
 cases hq:yo ns ls cs f x
 ·obtain⟨Fv,Fw⟩:=Zz (.inl hq)
  have fg:=h_ Fv;have gB:=h_ Fw;have HI:=h_ (yu hq);clear Fv Fw hq
  go_enter Tryz.func96,Tryz.ntmps96
  go_wp2_with fail
  refine HCP.out.mono ?_
  rintro e w1 ⟨v1,rfl,Hj,h9⟩;have h8:=Hg.trans (h9.mono Hg.size);have gg:=gD.below h9 gD.lt;obtain⟨a_0,a_1⟩:=gg.c2;clear h9 HCP
  go_wp2_with fail
  refine(Uz.out _ h8).mono ?_
  rw[HI.out];rintro e w2 ⟨v2,rfl,_,hv2,He⟩;have e2:=hv2 rfl;subst e2;have HB:=h_ (h8.trans (He.mono h8.size));have HO:=h_ (OwnI.mono (Hj.kept He) (show w.heap.size<=_ by simp));clear Hj hv2 He gg a_0 a_1 Uz;go_wp2;exact bodyPost_ret (v:= .tuple #[v1,.bool false]) (by simp[results,Tryz.results96,go_sem]) rfl ⟨_,by rw[fg.out],by rw[gB.out];exact HO.out,HB.out⟩
 ·have rv:=hq
  unfold yo at rv;rw[aaH,aaH] at rv;obtain⟨k,rfl⟩:∃k:Nat,f=k:=⟨f.toNat,by have:=zd.1 rv.2.1;omega⟩;have hk:k<cs.length:=by have:=zd.1 rv.2.1;omega
  have HI:=h_ (kV hq);have HMEM:=h_ (Qi (ns:=ns) (ls:=ls) (x:=x) hk);have F0:=h_ (fun i (h:i∈q7 ns ls cs k x)=>z13 h);obtain⟨Ac,cc,rfl,Gq,bD,Gz⟩:=hc.form;unfold maxLen at bD;obtain⟨bc,oc,rfl,Gs,FR⟩:=Gz o_;have Ce:=h_ FR;have ik1:(0:Int)<=(k:Int):=o_
  have ik2:(k:Int)<(cs.length:Int):=o_
  have b7:=h_ (fun h=>Zz (ns:=ns) (ls:=ls) (cs:=cs) (f:=(k:Int)) (x:=x) (.inr h));have HYE:=h_ (fun h=>z0F (ns:=ns) (ls:=ls) (cs:=cs) (f:=k) (x:=x) hq h);have YX:=h_ (fun C y k=>z3d cs C y x k);have bB:=h_ (fun C y k=>Zy cs C y x k);have HSZ:Hid (∀C y,swK cs C y x 0=cs):=h_ (fun _ _=>rfl);clear hq rv hc Gz FR hn hl;rw[aa6] at b7;have hcwl:=Vp ns ls cs k x;generalize q7 ns ls cs k x=C at*;have hCp:0<C.length:=abi HMEM.out;have wg:Hid (∀j,j<C.length->C.getD j 0<cs.length):=h_ (fun j hj=>F0.out _ (by rw[aa7,aac hj];exact abh hj))
  go_enter Tryz.func96,Tryz.ntmps96
  go_wp2_with fail
  refine HCP.out.mono ?_
  rintro e w1 ⟨v1,rfl,Hj,h9⟩;have h8:=Hg.trans (h9.mono Hg.size);have gg:=gD.below h9 gD.lt;obtain⟨a_0,a_1⟩:=gg.c2;clear h9 HCP
  go_wp2_with fail
  refine(Uz.out _ h8).mono ?_
  rw[HI.out];rintro e w2 ⟨v2,rfl,Hm,_,He⟩;have Ha:=h8.trans (He.mono h8.size);have go:=OwnI.mono (Hj.kept He) (show w.heap.size<=_ by simp);obtain⟨g1,c1,rfl,Gb,hg1b,fF,_⟩:=OwnI.blk Hj o_;obtain⟨b2,c2,rfl,fa,m6,hb2l,GG⟩:=OwnI.blk Hm (by rw[za];exact hCp);rw[za] at fa GG⊢;have hne12:b2≠g1:=o_
  have HC2:=h_ GG;have hyk:=(Ha.cell (p:=⟨bc,oc+k,none⟩) Gs).trans (Ce.out k hk);have Ux:bc<w2.heap.size:=aaE Gs Ha.size;have Nv:w.heap.size<=g1:=by simp at hg1b;omega
  clear Hj Hm He gg a_0 a_1 Uz GG;generalize cs.getD k 0=y at*
  by_cases nI:y=x
  ·have e1:(y==x)=true:=beq_iff_eq.2 nI
   obtain⟨Fv,Fw⟩:=b7.out nI;have fg:=h_ Fv;have gB:=h_ Fw;have HO:=h_ go;clear Fv Fw go nI;go_wp2;exact bodyPost_ret (v:= .tuple #[.slice (some ⟨g1,0,none⟩) cs.length c1,.bool false]) (by simp[results,Tryz.results96,go_sem]) rfl ⟨_,by rw[fg.out],by rw[gB.out];exact HO.out,Ha⟩
  ·have e1:(y==x)=false:=beq_eq_false_iff_ne.2 nI
   obtain⟨Fv,Fw⟩:=HYE.out nI;have fg:=h_ Fv;have gB:=h_ Fw;have bT:OwnI w.heap.size w2 (.slice (some ⟨g1,0,none⟩) cs.length c1) (swK cs C y x 0):=by rw[HSZ.out];exact go
   have fY:w2.grownBy w2 (some g1):=qt _ _;clear Fv Fw go nI;go_wp2
   go_loopw [34] (fun t wr=>∃j:Nat,j<=C.length/\t= .int .i64 j/\OwnI w.heap.size wr (.slice (some ⟨g1,0,none⟩) cs.length c1) (swK cs C y x j)/\w2.grownBy wr (some g1)) (fun t _=>C.length -(intOf t).toNat)
   case atStart=>exact⟨0,aab _,rfl,bT,fY⟩
   case round=>
    clear bT fY;obtain⟨j,hj,rfl,ho,hg⟩:=hrel
    by_cases Hd:j<C.length
    ·have Hr:(j:Int)<(C.length:Int):=o_
     have ij1:(0:Int)<=(j:Int):=o_
     have q0:=(jH (o:=j) (hg.block b2 hb2l (fun e=>hne12 (by cases e;rfl)))).trans (HC2.out j Hd);rw[qj] at q0;have cD:=wg.out j Hd;have HS:=h_ (YX.out C y j);have hln:=bB.out C y j;generalize C.getD j 0=d at*;have q1:=(jH (o:=oc+d) (hg.block bc Ux (fun e=>by cases e;omega))).trans ((Ha.cell (p:=⟨bc,oc+d,none⟩) Gs).trans (Ce.out d cD));have q2:=(jH (o:=oc+k) (hg.block bc Ux (fun e=>by cases e;omega))).trans hyk;have id1:(0:Int)<=(d:Int):=o_
     have id2:(d:Int)<(cs.length:Int):=o_
     have GU:=OwnE.cell (t:=3) (enc:=vI) ho 0 (q:=d) o_;obtain⟨zz,Yo⟩:∃z,wr.cell? ⟨g1,d,none⟩=some z:=⟨_,GU⟩;have fz:=OwnE.frz (t:=3) (enc:=vI) ho d;have HO:=h_ (fun z=>kl ho d z);have HG:=h_ (fun z=>qs hg d z);generalize cs.getD d 0=c at*;clear GU ho hg hln
     by_cases BH:c=x
     ·have e2:(c==x)=true:=beq_iff_eq.2 BH
      have HS':=h_ (HS.out.trans (by rw[aao BH]));clear BH;go_wp2;go_roundw
      case rel=>exact⟨j+1,by omega,by go_num,by rw[HS'.out];exact HO.out y,HG.out _⟩
      case measure=>simp[intOf];omega
     ·have e2:(c==x)=false:=beq_eq_false_iff_ne.2 BH
      have HS':=h_ (HS.out.trans (by rw[aaq BH]));clear BH;go_wp2;go_roundw
      case rel=>exact⟨j+1,by omega,by go_num,by rw[HS'.out];exact HO.out x,HG.out _⟩
      case measure=>simp[intOf];omega
    ·have GV:j=C.length:=o_
     subst GV;have HB:=h_ (Ha.grown hg Ha.size (fun k hk=>by cases hk;exact Nv));have HO:=h_ ho;clear ho hg;go_wp2;exact bodyPost_ret (v:= .tuple #[.slice (some ⟨g1,0,none⟩) cs.length c1,.bool true]) (by simp[results,Tryz.results96,go_sem]) rfl ⟨_,by rw[fg.out],by rw[gB.out];exact HO.out,HB.out⟩
def km (F:Nat) (T:List Nat):List Bool:=(List.range F).map (fun i=>decide (i∈T))
theorem kG (F:Nat) (T:List Nat):(km F T).length =F:=by simp[km]
theorem z0n {F i:Nat} (T:List Nat) (h:i<F):(km F T).getD i false=decide (i∈T):=by simp[km,aa7,h]
theorem Jj {F:Nat} (T:List Nat) (i:Nat):(km F T).set i true=km F (T++[i]):=by
 apply aat
 intro j;rw[aa1,kG];unfold km
 by_cases hj:j<F
 ·by_cases e:i=j
  ·subst e;simp[hj]
  ·have:¬j=i:=fun h=>e h.symm
   simp[hj,e,this]
 ·by_cases e:i=j
  ·subst e;simp[hj]
  ·simp[hj,e]
theorem z6J (F f:Nat):(List.replicate F false).set f true=km F [f]:=by
 have h:=Jj (F:=F) [] f;rw[List.nil_append] at h;rw[<-h]
 congr 1
 apply aat
 intro j
 by_cases hj:j<F
 ·simp[km,hj]
 ·simp[km,hj]
def outL (T:List Nat) (k:Nat):List Nat:=(List.range k).filter (fun i=>decide (i∈T))
theorem z9x {T:List Nat} {k:Nat} (h:k∈T):outL T (k+1)=outL T k++[k]:=by simp[outL,abf,abg,h]
theorem zam {T:List Nat} {k:Nat} (h:k∉T):outL T (k+1)=outL T k:=by simp[outL,abf,abg,h]
theorem z9n (T:List Nat) (k:Nat):(outL T k).length <=k:=by
 have:=List.length_filter_le (fun i=>decide (i∈T)) (List.range k)
 simpa[outL] using this
theorem Vx (l:List Nat) (i:Nat):natI (l++[i])=natI l++[(i:Int)]:=by simp[natI]
theorem z8Z (f:Nat):natI [f]=[(f:Int)]:=rfl
theorem z7Q (b cT F:Nat) (adj:Nat->Nat->Bool) (vc:Value) (cs:List Int) (f:Nat) (x:Int) (w:World) (ht:Xm w b 0 F adj) (hc:RI w vc cs) (hl:cs.length=F) (hf:f<F) (hF:F<=40):
  Calls Tryz.prog 223 #[.slice (some ⟨b,0,none⟩) F cT,vc,.int .i64 f,.int .i64 x] w (RetI (natI (kA adj (okX cs f x) F f)) w):=by
 obtain⟨i0,hi,iz0,iz1,iz2⟩:=info_parts Zl;obtain⟨Ac,cc,rfl,Gq,bD,Gz⟩:=hc.form;unfold maxLen at bD;obtain⟨bc,oc,rfl,Gs,FR⟩:=Gz o_;rw[hl] at Gq bD FR⊢;have Ce:=h_ FR;have HT:=h_ ht.2;have CF:=ht.1;have be:Hid (∀i,okX cs f x i=(decide (cs.getD i 0=cs.getD f 0)||decide (cs.getD i 0=x))):=h_ (fun _=>rfl);have HG0:=h_ (Grow.start (adj:=adj) (ok:=okX cs f x) hf);have HGE:=h_ (fun T k j (h:Grow adj (okX cs f x) F f T k j) hk=>h.end_ hk);have if1:(0:Int)<=(f:Int):=o_
 have if2:(f:Int)<(F:Int):=o_
 have hyf:=Ce.out f hf;have HL:=h_ hl;generalize cs.getD f 0=y at*;clear Gz FR hc ht hl
 go_enter Tryz.func223,Tryz.ntmps223
 go_wp2_with (at_make;refine wpList_make_full _ rfl _ _ 182 rfl w.heap.size 4 i0 (.bool false) 1 Tryz.underlying182 hi iz0 iz1 .i64 .i64 _ _ F rfl rfl rfl rfl (by rw[iz2];omega) (by unfold maxLen;omega) (aaa _) ?_)
 intro w1 Hz gQ;have hB1:Below w.heap.size w w1:=(aaj _ _).grown gQ (aaa _) (by intro k hk;cases hk)
 have Fv:OwnE 4 Value.bool w.heap.size w1 (.slice (some ⟨w.heap.size,0,none⟩) F F) (List.replicate F false):=by
  unfold OwnE;rw[aaD,<-z67];exact Hz
 have GU:=OwnE.cell Fv false (q:=f) (by simp;exact hf);obtain⟨zz,Yo⟩:∃z,w1.cell? ⟨w.heap.size,f,none⟩=some z:=⟨_,GU⟩;have fz:=OwnE.frz Fv f;have Fw:=OwnE.set_ Fv f true;rw[z6J] at Fw;have m6:=hB1.setCell (p:=⟨w.heap.size,f,none⟩) (aaa _) (.bool true);obtain⟨w2,gS⟩:∃u,u=(w1.setCell ⟨w.heap.size,f,none⟩ (.bool true)).alloc (.cells #[.int .i64 f] 3):=⟨_,rfl⟩;have GL:OwnE 4 Value.bool w.heap.size w2 (.slice (some ⟨w.heap.size,0,none⟩) F F) (km F [f]):=by rw[gS];exact Fw.alloc _
 have GZ:Below w.heap.size w w2:=by rw[gS];exact m6.alloc (by simpa[World.setCell] using hB1.size) _
 have BZ:OwnI w.heap.size w2 (.slice (some ⟨w1.heap.size,0,none⟩) 1 1) (natI [f]):=by
  rw[gS,z8Z];have:=World.ownsRow_lit (base:=w.heap.size) (e:=3) (size:=1) (w1.setCell ⟨w.heap.size,f,none⟩ (.bool true)) #[.int .i64 f] 1 (by simpa[World.setCell] using hB1.size) (by decide) (by simp)
  simpa[World.setCell,OwnI,vI] using this
 have CT:=h_ gS;clear gS Fv Fw m6 GU Hz gQ i0 hi iz0 iz1 iz2
 go_wp2_with fail
 rw[<-CT.out];clear CT
 go_loopw [10,11] (fun v t wr=>∃(T:List Nat) (k:Nat),t= .int .i64 k/\OwnI w.heap.size wr v (natI T)/\OwnE 4 Value.bool w.heap.size wr (.slice (some ⟨w.heap.size,0,none⟩) F F) (km F T)/\Hid (Grow adj (okX cs f x) F f T k 0/\k<=T.length)/\Below w.heap.size w wr) (fun _ t _=>F -(intOf t).toNat)
 case atStart=>exact⟨[f],0,rfl,BZ,GL,h_ ⟨HG0.out,aab _⟩,GZ⟩
 case round=>
  clear BZ GL GZ Yo fz;obtain⟨T,k,rfl,ho,hs,m5,hB⟩:=hrel;have Cb:=m5.out.1.len;have bj:=m5.out.2;have hTF:=ho.lt;obtain⟨At,ct,rfl⟩:=OwnE.form (t:=3) (enc:=vI) ho;rw[za] at ho⊢
  by_cases Hd:k<T.length
  ·have Hr:(k:Int)<(T.length:Int):=o_
   have ik1:(0:Int)<=(k:Int):=o_
   have HG1:=h_ m5.out.1;clear m5 hTF;go_wp2
   go_loopw [10,12] (fun v t wr=>∃(T:List Nat) (i:Nat),i<=F/\t= .int .i64 i/\k<T.length/\OwnI w.heap.size wr v (natI T)/\OwnE 4 Value.bool w.heap.size wr (.slice (some ⟨w.heap.size,0,none⟩) F F) (km F T)/\Hid (Grow adj (okX cs f x) F f T k i)/\Below w.heap.size w wr) (fun _ t _=>F -(intOf t).toNat)
   case atStart=>exact⟨T,0,aab _,rfl,Hd,ho,hs,HG1,hB⟩
   case round=>
    clear ho hs hB HG1 Hd Hr Cb bj
    rename_i T0
    obtain⟨T,i,hi,rfl,Ni,ho,hs,HG,hB⟩:=hrel;have Cb:=HG.out.len;obtain⟨bt,ct,rfl,hct,hbt0,UX,Ho⟩:=OwnI.blk ho (by rw[za];omega);rw[za] at hct Ho ho⊢
    by_cases Fm:i<F
    ·have hil1:(i:Int)<(F:Int):=o_
     have ii1:(0:Int)<=(i:Int):=o_
     have F5:(k:Int)<(T.length:Int):=o_
     have q0:=Ho k Ni;rw[qj] at q0;have hTk:T.getD k 0=T[k]:=by simp[List.getD,Ni]
     have hdF:T.getD k 0<F:=by rw[hTk];exact HG.out.lt _ (abh Ni)
     have HDK:=h_ hTk.symm;clear hTk Ho;generalize hd:T.getD k 0=d at*;obtain⟨bi,hbi,C8,hcc0⟩:=HT.out d hdF;have q1:=(hB.cell (p:=⟨b,0+d,none⟩) CF).trans C8;rw[aaG] at q1;have q2:=(hB.cell (p:=⟨bi,i,none⟩) hbi).trans (hcc0 i Fm);have q3:=OwnE.cell hs false (q:=i) (by rw[kG];exact Fm);rw[z0n T Fm] at q3;have q4:=(hB.cell (p:=⟨bc,oc+i,none⟩) Gs).trans (Ce.out i Fm);have q5:=(hB.cell (p:=⟨bc,oc+f,none⟩) Gs).trans hyf;have id1:(0:Int)<=(d:Int):=o_
     have id2:(d:Int)<(F:Int):=o_
     have mS:=(hs.lt _ rfl).2;have hz:=hB.size;have l1:b<wr.heap.size:=o_
     have l2:bi<wr.heap.size:=o_
     have l3:bc<wr.heap.size:=o_
     have Bh:=h_ (be.out i);clear C8 hcc0 hd;generalize cs.getD i 0=c at*;obtain⟨a,ha⟩:∃a,adj d i=a:=⟨_,rfl⟩;rw[ha] at q2;have HAE:=h_ ha;clear ha;obtain⟨m,hm⟩:∃m,decide (i∈T)=m:=⟨_,rfl⟩;rw[hm] at q3;have Ye:=h_ hm;clear hm
     cases a
     ·go_wp2_with fail
      (refine z7 k_ k_ (fun hG=>?_))
      repeat (go_big_quiet_step (fail))
      refine wpQuiet_nil ?_
      clear hG;rintro w5 ⟨⟨_,Gn⟩,rfl⟩;have fQ:=ho.kept Gn;have bE:=hs.kept Gn;have GR:=hB.trans (Gn.mono hB.size);have UA:=h_ (HG.out.skip (fun u hu ha _=>by rw[aac Ni] at hu;cases hu;rw[HDK.out,HAE.out] at ha;cases ha));have HO:=h_ fQ;have HS:=h_ bE;have HB:=h_ GR;clear ho hs hB fQ bE GR Gn q0 q1 q2 q3 q4 q5;go_wp2;go_roundw
      case rel=>exact⟨T,i+1,by omega,by go_num,Ni,HO.out,HS.out,UA,HB.out⟩
      case measure=>simp[intOf];omega
     ·cases m
      ·have HNM:Hid (i∉T):=h_ (by simpa using Ye.out)
       by_cases h1:c=x
       ·have e1:(c==x)=true:=beq_iff_eq.2 h1
        have M8:Hid (okX cs f x i=true):=h_ (by rw[Bh.out];simp[h1]);clear h1
        go_wp2_with fail
        (refine z7 k_ k_ (fun hG=>?_))
        repeat (go_big_quiet_step (fail))
        refine wpQuiet_nil ?_
        clear hG;rintro w5 ⟨⟨_,Gn⟩,rfl⟩;have fQ:=ho.kept Gn;have bE:=hs.kept Gn;have GR:=hB.trans (Gn.mono hB.size);have hgl5:=(bE.lt _ rfl).2;have Ns:=OwnE.cell bE false (q:=i) (by rw[kG];exact Fm);obtain⟨z5,hz5'⟩:∃z,w5.cell? ⟨w.heap.size,i,none⟩=some z:=⟨_,Ns⟩;have fz5:=OwnE.frz bE i;have mG:=OwnE.set_ bE i true;rw[Jj] at mG;have fD:OwnI w.heap.size (w5.setCell ⟨w.heap.size,i,none⟩ (.bool true)) (.slice (some ⟨bt,0,none⟩) T.length ct) (natI T):=OwnE.other (t:=3) (enc:=vI) fQ bE ZX (qs (qt _ _) i _);have CO:=GR.setCell (p:=⟨w.heap.size,i,none⟩) (aaa _) (.bool true);have Ct:w.heap.size<=(w5.setCell ⟨w.heap.size,i,none⟩ (.bool true)).heap.size :=CO.size;have UA:=h_ (HG.out.push Ni Fm (by rw[HDK.out,HAE.out]) M8.out HNM.out);clear ho hs hB fQ GR Gn q0 q1 q2 q3 q4 q5 Ns
        go_wp2_with (at_builtin;refine zR rfl _ _ rfl w.heap.size _ (natI T) (i:Int) rfl w5.heap.size rfl (qH (by simp[World.setCell])) (fD.alloc _) (by rw[za];omega) (by simp[World.setCell] at Ct⊢;omega) ?_)
        intro v7 w7 bY FP _;have UB:=OwnE.alloc mG (.cells #[.int .i64 i] 3);have HS:=h_ (OwnE.other UB (fD.alloc (.cells #[.int .i64 i] 3)) (fun e=>ZX e.symm) FP);have HO:=h_ (show OwnI w.heap.size w7 v7 (natI (T++[i])) by rw[Vx];exact bY);have HB:=h_ ((CO.alloc Ct (.cells #[.int .i64 i] 3)).grown FP (by simp[World.setCell] at Ct⊢;omega) (fun q hq=>(fD.lt q hq).1));clear bY FP UB mG fD CO Ct;go_wp2;go_roundw
        case rel=>exact⟨T++[i],i+1,by omega,by go_num,by simp;omega,HO.out,HS.out,UA,HB.out⟩
        case measure=>simp[intOf];omega
       ·have e1:(c==x)=false:=beq_eq_false_iff_ne.2 h1
        by_cases h2:c=y
        ·have e2:(c==y)=true:=beq_iff_eq.2 h2
         have M8:Hid (okX cs f x i=true):=h_ (by rw[Bh.out];simp[h2]);clear h1 h2
         go_wp2_with fail
         (refine z7 k_ k_ (fun hG=>?_))
         repeat (go_big_quiet_step (fail))
         refine wpQuiet_nil ?_
         clear hG;rintro w5 ⟨⟨_,Gn⟩,rfl⟩;have fQ:=ho.kept Gn;have bE:=hs.kept Gn;have GR:=hB.trans (Gn.mono hB.size);have hgl5:=(bE.lt _ rfl).2;have Ns:=OwnE.cell bE false (q:=i) (by rw[kG];exact Fm);obtain⟨z5,hz5'⟩:∃z,w5.cell? ⟨w.heap.size,i,none⟩=some z:=⟨_,Ns⟩;have fz5:=OwnE.frz bE i;have mG:=OwnE.set_ bE i true;rw[Jj] at mG;have fD:OwnI w.heap.size (w5.setCell ⟨w.heap.size,i,none⟩ (.bool true)) (.slice (some ⟨bt,0,none⟩) T.length ct) (natI T):=OwnE.other (t:=3) (enc:=vI) fQ bE ZX (qs (qt _ _) i _);have CO:=GR.setCell (p:=⟨w.heap.size,i,none⟩) (aaa _) (.bool true);have Ct:w.heap.size<=(w5.setCell ⟨w.heap.size,i,none⟩ (.bool true)).heap.size :=CO.size;have UA:=h_ (HG.out.push Ni Fm (by rw[HDK.out,HAE.out]) M8.out HNM.out);clear ho hs hB fQ GR Gn q0 q1 q2 q3 q4 q5 Ns
         go_wp2_with (at_builtin;refine zR rfl _ _ rfl w.heap.size _ (natI T) (i:Int) rfl w5.heap.size rfl (qH (by simp[World.setCell])) (fD.alloc _) (by rw[za];omega) (by simp[World.setCell] at Ct⊢;omega) ?_)
         intro v7 w7 bY FP _;have UB:=OwnE.alloc mG (.cells #[.int .i64 i] 3);have HS:=h_ (OwnE.other UB (fD.alloc (.cells #[.int .i64 i] 3)) (fun e=>ZX e.symm) FP);have HO:=h_ (show OwnI w.heap.size w7 v7 (natI (T++[i])) by rw[Vx];exact bY);have HB:=h_ ((CO.alloc Ct (.cells #[.int .i64 i] 3)).grown FP (by simp[World.setCell] at Ct⊢;omega) (fun q hq=>(fD.lt q hq).1));clear bY FP UB mG fD CO Ct;go_wp2;go_roundw
         case rel=>exact⟨T++[i],i+1,by omega,by go_num,by simp;omega,HO.out,HS.out,UA,HB.out⟩
         case measure=>simp[intOf];omega
        ·have e2:(c==y)=false:=beq_eq_false_iff_ne.2 h2
         have M8:Hid (okX cs f x i=false):=h_ (by rw[Bh.out];simp[h1,h2]);clear h1 h2
         go_wp2_with fail
         (refine z7 k_ k_ (fun hG=>?_))
         repeat (go_big_quiet_step (fail))
         refine wpQuiet_nil ?_
         clear hG;rintro w5 ⟨⟨_,Gn⟩,rfl⟩;have fQ:=ho.kept Gn;have bE:=hs.kept Gn;have GR:=hB.trans (Gn.mono hB.size);have UA:=h_ (HG.out.skip (fun u hu _ ho=>by rw[M8.out] at ho;cases ho));have HO:=h_ fQ;have HS:=h_ bE;have HB:=h_ GR;clear ho hs hB fQ bE GR Gn q0 q1 q2 q3 q4 q5;go_wp2;go_roundw
         case rel=>exact⟨T,i+1,by omega,by go_num,Ni,HO.out,HS.out,UA,HB.out⟩
         case measure=>simp[intOf];omega
      ·have HNM:Hid (i∈T):=h_ (by simpa using Ye.out)
       go_wp2_with fail
       (refine z7 k_ k_ (fun hG=>?_))
       repeat (go_big_quiet_step (fail))
       refine wpQuiet_nil ?_
       clear hG;rintro w5 ⟨⟨_,Gn⟩,rfl⟩;have fQ:=ho.kept Gn;have bE:=hs.kept Gn;have GR:=hB.trans (Gn.mono hB.size);have UA:=h_ (HG.out.skip (fun _ _ _ _=>HNM.out));have HO:=h_ fQ;have HS:=h_ bE;have HB:=h_ GR;clear ho hs hB fQ bE GR Gn q0 q1 q2 q3 q4 q5;go_wp2;go_roundw
       case rel=>exact⟨T,i+1,by omega,by go_num,Ni,HO.out,HS.out,UA,HB.out⟩
       case measure=>simp[intOf];omega
    ·have NF:i=F:=o_
     subst NF;have HGN:=h_ (show Grow adj (okX cs f x) i f T (k+1) 0/\k+1<=T.length from⟨HG.out.next Ni,Ni⟩);clear Ho;go_wp2;go_roundw
     case rel=>exact⟨T,k+1,by go_num,ho,hs,HGN,hB⟩
     case measure=>simp[intOf];omega
  ·have Hw:k=T.length:=o_
   have HE:=h_ (HGE.out T k 0 m5.out.1 o_);have Gd:=hB.size;have GM:OwnI w.heap.size (wr.alloc (.cells #[] 3)) (.slice (some ⟨wr.heap.size,0,none⟩) 0 0) (natI (outL T 0)):=OwnI.made rfl Gd;have GL:=OwnE.alloc hs (.cells #[] 3);have GZ:=hB.alloc Gd (.cells #[] 3);have Ff:¬(k:Int)<(T.length:Int):=o_
   clear m5 ho hs hB Hw Hd hTF bj;go_wp2
   go_loopw [13,14] (fun v t w2=>∃j:Nat,j<=F/\t= .int .i64 j/\OwnI w.heap.size w2 v (natI (outL T j))/\OwnE 4 Value.bool w.heap.size w2 (.slice (some ⟨w.heap.size,0,none⟩) F F) (km F T)/\Below w.heap.size w w2) (fun _ t _=>F -(intOf t).toNat)
   case atStart=>exact⟨0,aab _,rfl,GM,GL,GZ⟩
   case round=>
    clear GM GL GZ Gd;obtain⟨j,hj,rfl,ho,hs,hB⟩:=hrel;have hz:=hB.size;have mS:=(hs.lt _ rfl).2
    by_cases FL:j<F
    ·have hj1:(j:Int)<(F:Int):=o_
     have ij1:(0:Int)<=(j:Int):=o_
     have q3:=OwnE.cell hs false (q:=j) (by rw[kG];exact FL);rw[z0n T FL] at q3;obtain⟨m,hm⟩:∃m,decide (j∈T)=m:=⟨_,rfl⟩;rw[hm] at q3;have Ye:=h_ hm;clear hm;have hol:=z9n T j
     cases m
     ·have HX:=h_ (zam (T:=T) (k:=j) (by simpa using Ye.out))
      go_wp2;go_roundw
      case rel=>exact⟨j+1,by omega,by go_num,by rw[HX.out];exact ho,hs,hB⟩
      case measure=>simp[intOf];omega
     ·have HX:=h_ (z9x (T:=T) (k:=j) (by simpa using Ye.out))
      generalize outL T j=G at*
      go_wp2_with (at_builtin;refine zR rfl _ _ rfl w.heap.size _ (natI G) (j:Int) rfl wr.heap.size rfl (qH rfl) (ho.alloc _) (by rw[za];omega) (by simp;omega) ?_)
      intro v7 w7 bY FP _;have UB:=OwnE.alloc hs (.cells #[.int .i64 j] 3);have HS:=h_ (OwnE.other UB (ho.alloc (.cells #[.int .i64 j] 3)) (fun e=>ZX e.symm) FP);have HO:=h_ (show OwnI w.heap.size w7 v7 (natI (G++[j])) by rw[Vx];exact bY);have HB:=h_ ((hB.alloc hz (.cells #[.int .i64 j] 3)).grown FP (by simp;omega) (fun q hq=>(ho.lt q hq).1));clear bY FP UB ho hs hB q3;go_wp2;go_roundw
      case rel=>exact⟨j+1,by omega,by go_num,by rw[HX.out];exact HO.out,HS.out,HB.out⟩
      case measure=>simp[intOf];omega
    ·have GV:j=F:=o_
     subst GV;go_wp2;go_ret
     exact⟨_,rfl,by rw[<-HE.out];exact ho,hB⟩
theorem zaT {base:Nat} {w:World} {v:Value} {gs:List Nat} {ns ls:List Pr} (hq:zf ns ls=true) (h:OwnTab base w v (z9 ns ls).length gs (besW ns ls)):∃g c,v= .slice (some ⟨g,0,none⟩) (z9 ns ls).length c/\Xm w g 0 (z9 ns ls).length (adB ns ls):=by
 have CN:=ye hq;have Cj:=zE hq;have Hb:(besW ns ls).length =(z9 ns ls).length :=by unfold besW;rw[jT,Cj]
 have Fs:∀i,i<(z9 ns ls).length ->((besW ns ls).getD i []).length =(z9 ns ls).length :=fun i hi=>by unfold besW;rw[vZ _ _ _ _ (by rw[<-Cj];exact hi),Cj]
 obtain⟨g,c,rfl,fF,Gr⟩:=h.blk (by rw[Hb];exact CN);refine⟨g,c,by rw[h.len,Hb],Gr,fun i hi=>⟨gs.getD i 0,(z40 h (by rw[Hb];exact hi)).2,?_,fun j hj=>?_⟩⟩
 ·rw[aaG];exact h.cell (by rw[Hb];exact hi)
 ·rw[h.cell2 (by rw[Hb];exact hi) (by rw[Fs i hi];exact hj),z63 hq (by rw[<-Cj];exact hi) (by rw[<-Cj];exact hj)]
theorem kT (vn vl vc:Value) (ns ls:List Pr) (cs:List Int) (b:Bool) (w:World) (hn:RP w vn ns) (hl:RP w vl ls) (hc:RI w vc cs) (hb:zY ns ls cs=b):
  CB_ 46 #[.agg #[vn,vl],vc] w (.bool b):=XT vn vl vc ns ls cs b w hn hl hc hb
theorem z2t (vn vl vc:Value) (ns ls:List Pr) (cs:List Int) (f x:Int) (w:World) (hn:RP w vn ns) (hl:RP w vl ls) (hc:RI w vc cs) (hle:cs.length<=1048576):
  Calls Tryz.prog 166 #[.agg #[vn,vl],vc,.int .i64 f,.int .i64 x] w (RetI (natI (Jl ns ls cs f x)) w):=by
 have Hg:Below w.heap.size w (w.alloc (.cells #[vn,vl] 27)):=bel_
 have gD:Blk (w.alloc (.cells #[vn,vl] 27)) w.heap.size 27 #[vn,vl]:=Blk.newAt rfl;obtain⟨Ac,cc,rfl,Gq,bD,_⟩:=hc.form;unfold maxLen at bD;have HOM:Hid (∀v:World,w.heap.size<=v.heap.size->OwnI w.heap.size (v.alloc (.cells #[] 3)) (.slice (some ⟨v.heap.size,0,none⟩) 0 0) (natI [])):=h_ (fun v h=>OwnI.made rfl h)
 cases hp:zY ns ls cs
 ·have HR:=h_ (yu (vM (f:=f) (x:=x) (.inl hp)))
  go_enter Tryz.func166,Tryz.ntmps166
  go_wp2_with fail
  refine(kT _ _ _ ns ls cs _ _ (hn.below Hg) (hl.below Hg) (hc.below Hg) hp).mono ?_
  rintro e w1 ⟨rfl,h9⟩;have h8:=Hg.trans (h9.mono Hg.size);have HO:=h_ (HOM.out w1 h8.size);have HB:=h_ (h8.alloc h8.size (.cells #[] 3));go_wp2;go_ret
  exact⟨_,rfl,by rw[HR.out];exact HO.out,HB.out⟩
 ·cases hf:inB f 0 ((cs.length:Int) -1)
  ·have HR:=h_ (yu (vM (ns:=ns) (ls:=ls) (x:=x) (.inr (.inl hf))))
   have HF:=h_ hf;clear hf
   go_enter Tryz.func166,Tryz.ntmps166
   go_wp2_with fail
   refine(kT _ _ _ ns ls cs _ _ (hn.below Hg) (hl.below Hg) (hc.below Hg) hp).mono ?_
   rintro e w1 ⟨rfl,h9⟩;have h8:=Hg.trans (h9.mono Hg.size);have HO:=h_ (HOM.out w1 h8.size);have HB:=h_ (h8.alloc h8.size (.cells #[] 3))
   go_wp2_with fail
   refine(qa _ _ _ _).mono ?_
   rintro e w' ⟨rfl,rfl⟩;rw[HF.out];go_wp2;go_ret
   exact⟨_,rfl,by rw[HR.out];exact HO.out,HB.out⟩
  ·cases hx:inB x 0 5
   ·have HR:=h_ (yu (vM (ns:=ns) (ls:=ls) (cs:=cs) (f:=f) (.inr (.inr hx))))
    have HF:=h_ hf;have HX:=h_ hx;clear hf hx
    go_enter Tryz.func166,Tryz.ntmps166
    go_wp2_with fail
    refine(kT _ _ _ ns ls cs _ _ (hn.below Hg) (hl.below Hg) (hc.below Hg) hp).mono ?_
    rintro e w1 ⟨rfl,h9⟩;have h8:=Hg.trans (h9.mono Hg.size);have HO:=h_ (HOM.out w1 h8.size);have HB:=h_ (h8.alloc h8.size (.cells #[] 3))
    go_wp2_with fail
    refine(qa _ _ _ _).mono ?_
    rintro e w' ⟨rfl,rfl⟩;rw[HF.out]
    go_wp2_with fail
    refine(qa _ _ _ _).mono ?_
    rintro e w' ⟨rfl,rfl⟩;rw[HX.out];go_wp2;go_ret
    exact⟨_,rfl,by rw[HR.out];exact HO.out,HB.out⟩
   ·obtain⟨k,rfl⟩:∃k:Nat,f=k:=⟨f.toNat,by have:=zd.1 hf;omega⟩
    have hk:k<cs.length:=by have:=zd.1 hf;omega
    have HR:=h_ (kV (VO hp hf hx));obtain⟨hw,Ho,_,_⟩:=vO.1 hp;rw[<-zE hw] at Ho;have GB:=zq ns ls;have uK:=h_ (kT vn vl _ ns ls cs _ _ (hn.below Hg) (hl.below Hg) (hc.below Hg) hp);have M7:=h_ (fun (v:World) (hb:Below w.heap.size w v)=>JQ vn vl ns ls v (hn.below hb) (hl.below hb) hw);have HTB:=h_ (fun base w v gs h=>zaT (base:=base) (w:=w) (v:=v) (gs:=gs) hw h);have HCW:Hid (q7 ns ls cs k x=kA (adB ns ls) (okX cs k x) (z9 ns ls).length k):=h_ (by unfold q7;rw[Ho]);have HF:=h_ hf;have HX:=h_ hx;have HC:=h_ hc;have cX:=h_ Ho;have MR:k<(z9 ns ls).length :=o_
    clear hf hx Ho hn hl hc hw hp;generalize (z9 ns ls).length =F at*
    go_enter Tryz.func166,Tryz.ntmps166
    go_wp2_with fail
    refine uK.out.mono ?_
    rintro e w1 ⟨rfl,h9⟩;have h8:=Hg.trans (h9.mono Hg.size);have gg:=gD.below h9 gD.lt;clear h9 Hg gD uK
    go_wp2_with fail
    refine(qa _ _ _ _).mono ?_
    rintro e w' ⟨rfl,rfl⟩;rw[HF.out]
    go_wp2_with fail
    refine(qa _ _ _ _).mono ?_
    rintro e w' ⟨rfl,rfl⟩;rw[HX.out];obtain⟨a_0,a_1⟩:=gg.c2
    go_wp2_with fail
    refine(M7.out _ h8).mono ?_
    rintro e w2 ⟨v2,gs,rfl,Hm,He⟩;obtain⟨g,c,rfl,CS⟩:=HTB.out _ _ _ _ Hm;have Ha:=h8.trans (He.mono h8.size);have HCH:=h_ (z7Q g c F (adB ns ls) _ cs k x w2 CS (HC.out.below Ha) cX.out MR GB);clear Hm He gg a_0 a_1 HTB M7 CS
    go_wp2_with fail
    refine HCH.out.mono ?_
    rintro e w3 ⟨v3,rfl,Hq,Hf⟩;have HB:=h_ (Ha.trans (Hf.mono Ha.size));have HO:=h_ (OwnI.mono Hq Ha.size);clear Hq Hf;go_wp2;go_ret
    exact⟨_,rfl,by rw[HR.out,HCW.out];exact HO.out,HB.out⟩
theorem z8w (vC vc:Value) (cs:List Int) (C:List Nat) (k:Nat) (x:Int) (w:World) (hC:RI w vC (natI C)) (hc:RI w vc cs) (hk:k<cs.length) (hCN:∀j,j<C.length->C.getD j 0<cs.length) (hle:cs.length<=1048576) (hCl:C.length<=cs.length) (hCp:0<C.length):
  Calls Tryz.prog 167 #[vC,vc,.int .i64 k,.int .i64 x] w (RetI (swK cs C (cs.getD k 0) x C.length) w):=by
 obtain⟨i0,hi,iz0,iz1,iz2⟩:=info_parts ql;obtain⟨Ac,cc,rfl,Gq,bD,Gz⟩:=hc.form;obtain⟨AC,cC,rfl,hcC,hmC,Mg⟩:=hC.form;unfold maxLen at bD hmC;rw[za] at hcC hmC Mg⊢;obtain⟨bc,oc,rfl,Gs,FR⟩:=Gz o_;obtain⟨bC,oC,rfl,hbC,hclC⟩:=Mg hCp;have Ce:=h_ FR;have cX:=h_ hclC;have wg:=h_ hCN;have ik1:(0:Int)<=(k:Int):=o_
 have ik2:(k:Int)<(cs.length:Int):=o_
 have hyk:=Ce.out k hk;have YX:=h_ (fun j=>z3d cs C (cs.getD k 0) x j);have bB:=h_ (fun j=>Zy cs C (cs.getD k 0) x j);have HSZ:Hid (swK cs C (cs.getD k 0) x 0=cs):=h_ rfl;have HH:=h_ hc;have Hg:Below w.heap.size w (w.alloc (.cells #[] 3)):=bel_
 generalize cs.getD k 0=y at*;clear Gz Mg FR hclC hC hc hCN
 go_enter Tryz.func167,Tryz.ntmps167
 go_wp2_with (at_builtin;refine zM rfl _ _ _ rfl w.heap.size 3 i0 (.int .i64 0) 1 8 Tryz.underlying31 hi iz0 iz1 iz2 rfl (by decide) (.slice (some ⟨w.heap.size,0,none⟩) 0 0) _ 0 cs.length [] (cs.map vI) rfl rfl (zG (aaa _) rfl) (RI.below HH.out Hg) (yc cs) o_ (by decide) (by simp) ?_)
 intro A2 c2 w1 Hj fF _;have h9:Below w.heap.size w w1:=Hg.grown fF (by simp) (fun q hq=>by cases hq;exact aaa _);have go:OwnI w.heap.size w1 (.slice A2 cs.length c2) cs:=by unfold OwnI;simpa using Hj
 obtain⟨g1,c1,e1,Gb,FG,hg1l,_⟩:=OwnI.blk go o_
 injection e1 with e1 _ e3
 subst e1;subst e3;have bT:OwnI w.heap.size w1 (.slice (some ⟨g1,0,none⟩) cs.length c2) (swK cs C y x 0):=by rw[HSZ.out];exact go
 clear Hj fF go Hg i0 hi iz0 iz1 iz2;go_wp2
 go_loopw [10] (fun t wr=>∃j:Nat,j<=C.length/\t= .int .i64 j/\OwnI w.heap.size wr (.slice (some ⟨g1,0,none⟩) cs.length c2) (swK cs C y x j)/\Below w.heap.size w wr) (fun t _=>C.length -(intOf t).toNat)
 case atStart=>exact⟨0,aab _,rfl,bT,h9⟩
 case round=>
  clear bT h9;obtain⟨j,hj,rfl,ho,hB⟩:=hrel
  by_cases Hd:j<C.length
  ·have Hr:(j:Int)<(C.length:Int):=o_
   have ij1:(0:Int)<=(j:Int):=o_
   have q0:=(hB.cell (p:=⟨bC,oC+j,none⟩) hbC).trans (cX.out j Hd);rw[qj] at q0;have cD:=wg.out j Hd;have HS:=h_ (YX.out j);have hln:=bB.out j;generalize C.getD j 0=d at*;have q1:=(hB.cell (p:=⟨bc,oc+d,none⟩) Gs).trans (Ce.out d cD);have q2:=(hB.cell (p:=⟨bc,oc+k,none⟩) Gs).trans hyk;have id1:(0:Int)<=(d:Int):=o_
   have id2:(d:Int)<(cs.length:Int):=o_
   have GU:=OwnE.cell (t:=3) (enc:=vI) ho 0 (q:=d) o_;obtain⟨zz,Yo⟩:∃z,wr.cell? ⟨g1,d,none⟩=some z:=⟨_,GU⟩;have fz:=OwnE.frz (t:=3) (enc:=vI) ho d;have HO:=h_ (fun z=>kl ho d z);have HB:=h_ (fun z=>hB.setCell (p:=⟨g1,d,none⟩) FG z);generalize cs.getD d 0=c at*;clear GU ho hB hln
   by_cases BH:c=x
   ·have e2:(c==x)=true:=beq_iff_eq.2 BH
    have HS':=h_ (HS.out.trans (by rw[aao BH]));clear BH
    go_wp2_with fail
    go_region
    all_goals go_wp2
    all_goals go_roundw
    case rel=>exact⟨j+1,by omega,by go_num,by rw[HS'.out];exact HO.out y,(HB.out _).drew⟩
    case measure=>simp[intOf];omega
   ·have e2:(c==x)=false:=beq_eq_false_iff_ne.2 BH
    have HS':=h_ (HS.out.trans (by rw[aaq BH]));clear BH;go_wp2;go_roundw
    case rel=>exact⟨j+1,by omega,by go_num,by rw[HS'.out];exact HO.out x,HB.out _⟩
    case measure=>simp[intOf];omega
  ·have GV:j=C.length:=o_
   subst GV;go_wp2;go_ret
   exact⟨_,rfl,ho,hB⟩
theorem z7r (vn vl vc:Value) (ns ls:List Pr) (cs:List Int) (f x:Int) (w:World) (hn:RP w vn ns) (hl:RP w vl ls) (hc:RI w vc cs) (hle:cs.length<=1048576):
  Calls Tryz.prog 93 #[.agg #[vn,vl],vc,.int .i64 f,.int .i64 x] w (z0N (vA ns ls cs f x) (vy ns ls cs f x) w):=by
 have Hg:Below w.heap.size w (w.alloc (.cells #[vn,vl] 27)):=bel_
 have Uz:=h_ (z2t vn vl vc ns ls cs f x _ (hn.below Hg) (hl.below Hg) (hc.below Hg) hle);obtain⟨i0,hi,iz0,iz1,iz2⟩:=info_parts ql;obtain⟨Ac,cc,rfl,Gq,bD,Gz⟩:=hc.form;unfold maxLen at bD;have HH:=h_ hc
 cases hq:yo ns ls cs f x
 ·obtain⟨Fv,Fw⟩:=Zz (.inl hq)
  have fg:=h_ Fv;have gB:=h_ Fw;have HI:=h_ (yu hq);clear Fv Fw hq Gz hc
  go_enter Tryz.func93,Tryz.ntmps93
  go_wp2_with fail
  refine Uz.out.mono ?_
  rw[HI.out];rintro e w1 ⟨v1,rfl,Hj,h9⟩;obtain⟨A1,c1,rfl⟩:=OwnE.form (t:=3) (enc:=vI) Hj;have h8:=Hg.trans (h9.mono Hg.size);have He:Below w1.heap.size w1 (w1.alloc (.cells #[] 3)):=bel_
  have Ha:=h8.trans (He.mono h8.size);clear Hj h9 Uz
  go_wp2_with (at_builtin;refine zM rfl _ _ _ rfl w.heap.size 3 i0 (.int .i64 0) 1 8 Tryz.underlying31 hi iz0 iz1 iz2 rfl (by decide) (.slice (some ⟨w1.heap.size,0,none⟩) 0 0) _ 0 cs.length [] (cs.map vI) rfl rfl (zG h8.size rfl) (RI.below HH.out Ha) (yc cs) o_ (by decide) Ha.size ?_)
  intro A2 c2 w3 Hq gM _;have HB:Hid (Below w.heap.size w w3):=h_ (Ha.grown gM Ha.size (fun q hq=>by cases hq;exact h8.size));have HO:Hid (OwnI w.heap.size w3 (.slice A2 (0+cs.length) c2) cs):=h_ (by unfold OwnI;simpa using Hq);clear Hq gM;go_wp2;exact bodyPost_ret (v:= .tuple #[.slice A2 (0+cs.length) c2,.bool false]) (by simp[results,Tryz.results93,go_sem]) rfl ⟨_,by rw[fg.out],by rw[gB.out];exact HO.out,HB.out⟩
 ·have rv:=hq
  unfold yo at rv;rw[aaH,aaH] at rv;obtain⟨k,rfl⟩:∃k:Nat,f=k:=⟨f.toNat,by have:=zd.1 rv.2.1;omega⟩;have hk:k<cs.length:=by have:=zd.1 rv.2.1;omega
  have HI:=h_ (kV hq);have CR:=Qi (ns:=ns) (ls:=ls) (x:=x) hk;have hCN:∀j,j<(q7 ns ls cs k x).length ->(q7 ns ls cs k x).getD j 0<cs.length:=fun j hj=>z13 (by rw[aa7,aac hj];exact abh hj)
  have hCl:=Vp ns ls cs k x;have hCp:0<(q7 ns ls cs k x).length :=abi CR;have M6:=h_ (fun (vC:Value) (v:World) (hb:Below w.heap.size w v) (hC:RI v vC (natI (q7 ns ls cs k x)))=>z8w vC _ cs (q7 ns ls cs k x) k x v hC (hc.below hb) hk hCN hle hCl hCp);obtain⟨bc,oc,rfl,Gs,FR⟩:=Gz o_;have hyk:=FR k hk;have ik1:(0:Int)<=(k:Int):=o_
  have ik2:(k:Int)<(cs.length:Int):=o_
  have b7:=h_ (fun h=>Zz (ns:=ns) (ls:=ls) (cs:=cs) (f:=(k:Int)) (x:=x) (.inr h));have HYE:=h_ (fun h=>z0F (ns:=ns) (ls:=ls) (cs:=cs) (f:=k) (x:=x) hq h);rw[aa6] at b7;clear hq rv hc Gz FR hn hl CR hCN;generalize q7 ns ls cs k x=C at*;generalize cs.getD k 0=y at*;have hCp1:((C.length:Int)==0)=false:=beq_eq_false_iff_ne.2 o_
  go_enter Tryz.func93,Tryz.ntmps93
  go_wp2_with fail
  refine Uz.out.mono ?_
  rw[HI.out];rintro e w1 ⟨v1,rfl,Hj,h9⟩;obtain⟨A1,c1,rfl⟩:=OwnE.form (t:=3) (enc:=vI) Hj;rw[za] at Hj⊢;have h8:=Hg.trans (h9.mono Hg.size);have nZ:=OwnI.reads Hj;have q1:=(h8.cell (p:=⟨bc,oc+k,none⟩) Gs).trans hyk;clear Hj h9 Uz hyk
  by_cases nI:y=x
  ·have e1:(y==x)=true:=beq_iff_eq.2 nI
   obtain⟨Fv,Fw⟩:=b7.out nI;have fg:=h_ Fv;have gB:=h_ Fw;have He:Below w1.heap.size w1 (w1.alloc (.cells #[] 3)):=bel_
   have Ha:=h8.trans (He.mono h8.size);clear Fv Fw nI
   go_wp2_with (at_builtin;refine zM rfl _ _ _ rfl w.heap.size 3 i0 (.int .i64 0) 1 8 Tryz.underlying31 hi iz0 iz1 iz2 rfl (by decide) (.slice (some ⟨w1.heap.size,0,none⟩) 0 0) _ 0 cs.length [] (cs.map vI) rfl rfl (zG h8.size rfl) (RI.below HH.out Ha) (yc cs) o_ (by decide) Ha.size ?_)
   intro A2 c2 w3 Hq gM _;have HB:Hid (Below w.heap.size w w3):=h_ (Ha.grown gM Ha.size (fun q hq=>by cases hq;exact h8.size));have HO:Hid (OwnI w.heap.size w3 (.slice A2 (0+cs.length) c2) cs):=h_ (by unfold OwnI;simpa using Hq);clear Hq gM;go_wp2;exact bodyPost_ret (v:= .tuple #[.slice A2 (0+cs.length) c2,.bool false]) (by simp[results,Tryz.results93,go_sem]) rfl ⟨_,by rw[fg.out],by rw[gB.out];exact HO.out,HB.out⟩
  ·have e1:(y==x)=false:=beq_eq_false_iff_ne.2 nI
   obtain⟨Fv,Fw⟩:=HYE.out nI;have fg:=h_ Fv;have gB:=h_ Fw;have HC:=h_ (M6.out _ w1 h8 nZ);clear Fv Fw nI M6 nZ
   go_wp2_with fail
   refine HC.out.mono ?_
   rintro e w3 ⟨v3,rfl,Hq,Hf⟩;have HB:=h_ (h8.trans (Hf.mono h8.size));have HO:=h_ (OwnI.mono Hq h8.size);clear Hq Hf HC;go_wp2;exact bodyPost_ret (v:= .tuple #[v3,.bool true]) (by simp[results,Tryz.results93,go_sem]) rfl ⟨_,by rw[fg.out],by rw[gB.out];exact HO.out,HB.out⟩
theorem Xq (v0 v1 v2 v3 v4 v5 v6:Value) (S:St) (x:Int) (y:Int) (w:World) (h:RSt w v0 v1 v2 v3 v4 v5 v6 S) (hle:StLe S):
  Calls Tryz.prog 29 #[.agg #[v0,v1,v2,v3,v4,v5,v6,.int .i64 S.fund],.int .i64 x,.int .i64 y] w (yk (swpS S x y) (swpB S x y) w):=by
 obtain⟨r,hr⟩:∃r,ze S=r:=⟨_,rfl⟩;have HR:=h_ hr;have gi:=h_ hle;obtain⟨B6,d6,ev6,CE,cJ,Gy⟩:=h.ds.at_;subst ev6;unfold maxLen at cJ;obtain⟨E,hE⟩:∃E,swpS S x y=E:=⟨_,rfl⟩;obtain⟨bb,gc⟩:∃bb,swpB S x y=bb:=⟨_,rfl⟩;rw[hE,gc];have HE:=h_ hE;have gm:=h_ gc;have HH:=h_ h
 go_enter Tryz.func29,Tryz.ntmps29
 go_wp2_with fail
 refine(qw _ _ _ _ _ _ _ S _ (HH.out.below bel_) gi.out).mono ?_
 rintro e w1 ⟨A0,a0,A1,a1,A2,a2,A3,a3,A4,a4,A5,a5,A6,a6,fs,rfl,Hj,h9⟩;have gh:Blk w1 w.heap.size 34 #[v0,v1,v2,v3,v4,v5,.slice B6 S.ds.length d6,.int .i64 S.fund]:=Blk.below ((Blk.newAt rfl).alloc _) h9 sz_;have gu:Blk w1 (w.heap.size+1) 34 z8_:=Blk.below (Blk.newAt (by simp)) h9 sz_;have h8:Below w.heap.size w w1:=bel_
 have Gi:OwnSt (w.heap.size+1+1) w1 (.slice A0 S.D.fn.length a0) (.slice A1 S.D.fl.length a1) (.slice A2 S.D.nn.length a2) (.slice A3 S.D.nl.length a3) (.slice A4 S.D.ss.length a4) (.slice A5 S.cs.length a5) (.slice A6 S.ds.length a6) S fs:=by simpa using Hj
 have gB:=h_ (OutSS.start Gi (aaa _) gh gu h8);obtain⟨x_0,x_1,x_2,x_3,x_4,x_5,x_6,x_7⟩:=gh.c8;have fi:=gh.lt
 go_wp2_with fail
 obtain⟨w2,gS⟩:∃w2,w2=w1.alloc (.cells #[.slice A0 S.D.fn.length a0,.slice A1 S.D.fl.length a1,.slice A2 S.D.nn.length a2,.slice A3 S.D.nl.length a3,.slice A4 S.D.ss.length a4,.slice A5 S.cs.length a5,.slice A6 S.ds.length a6,.int .i64 S.fund] 34):=⟨_,rfl⟩;rw[<-gS] at gB⊢;generalize w1.heap.size=Z at*;obtain⟨l',Gc⟩:∃l,vA S.D.nn S.D.nl S.cs x y=l:=⟨_,rfl⟩;obtain⟨b',gw⟩:∃b,vy S.D.nn S.D.nl S.cs x y=b:=⟨_,rfl⟩;have BC:=h_ Gc;have fR:=h_ gw;have HN:=h_ (HH.out.dr.nn.below gB.out.blw);have HL:=h_ (HH.out.dr.nl.below gB.out.blw);have HC:=h_ (HH.out.cs.below gB.out.blw);refine(z7I _ _ _ S.D.nn S.D.nl S.cs x y _ HN.out HL.out HC.out gi.out.cs).mono ?_
 rw[Gc,gw];rintro e w4 ⟨vt,rfl,gF,Hv⟩;obtain⟨T5,t5,rfl⟩:=OwnE.form (t:=3) (enc:=vI) gF;have gd:=h_ (gB.out.below Hv);have HO:=h_ gF;have mV:=h_ Hv;have hX:=gd.out.X;obtain⟨x_0,x_1,x_2,x_3,x_4,x_5,x_6,x_7⟩:=hX.c8
 go_wp2_with fail
 refine(qM _ _ _ _ _ _ _ S r _ (HH.out.below gd.out.blw) HR).mono ?_
 rintro e w5 ⟨rfl,gf⟩;have gZ:=h_ (gd.out.below gf);have HF:=h_ (OutSS.newCs gB.out (mV.out.trans (gf.mono mV.out.size)) (OwnI.kept HO.out gf))
 cases r
 ·clear HF
  obtain⟨u1,u2⟩:=z1H (S:=S) (x:=x) (y:=y) (.inl hr);have hu:S=E:=by rw[<-HE.out];exact u1.symm
  have hv:false=bb:=by rw[<-gm.out];exact u2.symm
  subst hu;subst hv;have HF:=gZ;obtain⟨_,_,hR,hZ,Ga,_,_⟩:=HF.out;obtain⟨z_0,z_1,z_2,z_3,z_4,z_5,z_6,z_7⟩:=hZ.c8;obtain⟨r_0,r_1,r_2,r_3,r_4,r_5,r_6,r_7,r_f0,r_f1,r_f2,r_f3,r_f4,r_f5,r_f6,r_f7⟩:=hR.b8;have Hl:=hR.lt;have Hy:=h_ (HF.out.fin);go_wp2;exact bodyPost_ret (v:= .tuple #[.agg (s8_ A0 A1 A2 A3 A4 A5 A6 a0 a1 a2 a3 a4 a5 a6 S),.bool false]) (by simp[results,Tryz.results29,go_sem,r_0,r_1,r_2,r_3,r_4,r_5,r_6,r_7,Hl]) rfl ⟨_,_,_,_,_,_,_,_,_,_,_,_,_,_,fs,rfl,(Hy.out _ _ _ _ _ _ _ _).1,(Hy.out _ _ _ _ _ _ _ _).2⟩
 ·cases b'
  ·clear HF
   obtain⟨u1,u2⟩:=z1H (S:=S) (x:=x) (y:=y) (.inr fR.out);have hu:S=E:=by rw[<-HE.out];exact u1.symm
   have hv:false=bb:=by rw[<-gm.out];exact u2.symm
   subst hu;subst hv;have HF:=gZ;obtain⟨_,_,hR,hZ,Ga,_,_⟩:=HF.out;obtain⟨z_0,z_1,z_2,z_3,z_4,z_5,z_6,z_7⟩:=hZ.c8;obtain⟨r_0,r_1,r_2,r_3,r_4,r_5,r_6,r_7,r_f0,r_f1,r_f2,r_f3,r_f4,r_f5,r_f6,r_f7⟩:=hR.b8;have Hl:=hR.lt;have Hy:=h_ (HF.out.fin);go_wp2;exact bodyPost_ret (v:= .tuple #[.agg (s8_ A0 A1 A2 A3 A4 A5 A6 a0 a1 a2 a3 a4 a5 a6 S),.bool false]) (by simp[results,Tryz.results29,go_sem,r_0,r_1,r_2,r_3,r_4,r_5,r_6,r_7,Hl]) rfl ⟨_,_,_,_,_,_,_,_,_,_,_,_,_,_,fs,rfl,(Hy.out _ _ _ _ _ _ _ _).1,(Hy.out _ _ _ _ _ _ _ _).2⟩
  ·obtain⟨u1,u2⟩:=z5W (S:=S) (x:=x) (y:=y) hr fR.out
   rw[BC.out] at u1;have hu:(⟨S.D,l',S.ds,S.fund⟩:St)=E:=by rw[<-HE.out];exact u1.symm
   have hv:true=bb:=by rw[<-gm.out];exact u2.symm
   subst hu;subst hv;obtain⟨_,_,hR,hZ,Ga,_,_⟩:=gZ.out;obtain⟨z_0,z_1,z_2,z_3,z_4,z_5,z_6,z_7,z_f0,z_f1,z_f2,z_f3,z_f4,z_f5,z_f6,z_f7⟩:=hZ.b8;obtain⟨r_0,r_1,r_2,r_3,r_4,r_5,r_6,r_7,r_f0,r_f1,r_f2,r_f3,r_f4,r_f5,r_f6,r_f7⟩:=hR.b8;have Hl:=hR.lt;have Fr:=hZ.lt;have Hy:=h_ (HF.out.fin);have FK:¬Z=w.heap.size+1:=o_
   have Gv:¬w.heap.size+1=Z:=o_
   go_wp2;exact bodyPost_ret (v:= .tuple #[.agg #[.slice A0 S.D.fn.length a0,.slice A1 S.D.fl.length a1,.slice A2 S.D.nn.length a2,.slice A3 S.D.nl.length a3,.slice A4 S.D.ss.length a4,.slice T5 l'.length t5,.slice A6 S.ds.length a6,.int .i64 S.fund],.bool true]) (by simp[results,Tryz.results29,go_sem,r_0,r_1,r_2,r_3,r_4,r_5,r_6,r_7,z_0,z_1,z_2,z_3,z_4,z_5,z_6,z_7,Hl,Fr,FK,Gv]) rfl ⟨_,_,_,_,_,_,_,_,_,_,_,_,_,_,fs,rfl,(Hy.out _ _ _ _ _ _ _ _).1,(Hy.out _ _ _ _ _ _ _ _).2⟩
theorem Vs (v0 v1 v2 v3 v4 v5 v6:Value) (S:St) (x:Int) (y:Int) (w:World) (h:RSt w v0 v1 v2 v3 v4 v5 v6 S) (hle:StLe S):
  Calls Tryz.prog 27 #[.agg #[v0,v1,v2,v3,v4,v5,v6,.int .i64 S.fund],.int .i64 x,.int .i64 y] w (yk (swpS S x y) (swpB S x y) w):=by
 obtain⟨r,hr⟩:∃r,ze S=r:=⟨_,rfl⟩;have HR:=h_ hr;have gi:=h_ hle;obtain⟨B6,d6,ev6,CE,cJ,Gy⟩:=h.ds.at_;subst ev6;unfold maxLen at cJ;obtain⟨E,hE⟩:∃E,swpS S x y=E:=⟨_,rfl⟩;obtain⟨bb,gc⟩:∃bb,swpB S x y=bb:=⟨_,rfl⟩;rw[hE,gc];have HE:=h_ hE;have gm:=h_ gc;have HH:=h_ h
 go_enter Tryz.func27,Tryz.ntmps27
 go_wp2_with fail
 refine(jm _ _ _ _ _ _ _ S _ (HH.out.below bel_) gi.out).mono ?_
 rintro e w1 ⟨A0,a0,A1,a1,A2,a2,A3,a3,A4,a4,A5,a5,A6,a6,fs,rfl,Hj,h9⟩;have gh:Blk w1 w.heap.size 34 #[v0,v1,v2,v3,v4,v5,.slice B6 S.ds.length d6,.int .i64 S.fund]:=Blk.below ((Blk.newAt rfl).alloc _) h9 sz_;have gu:Blk w1 (w.heap.size+1) 34 z8_:=Blk.below (Blk.newAt (by simp)) h9 sz_;have h8:Below w.heap.size w w1:=bel_
 have Gi:OwnSt (w.heap.size+1+1) w1 (.slice A0 S.D.fn.length a0) (.slice A1 S.D.fl.length a1) (.slice A2 S.D.nn.length a2) (.slice A3 S.D.nl.length a3) (.slice A4 S.D.ss.length a4) (.slice A5 S.cs.length a5) (.slice A6 S.ds.length a6) S fs:=by simpa using Hj
 have gB:=h_ (OutSS.start Gi (aaa _) gh gu h8);obtain⟨x_0,x_1,x_2,x_3,x_4,x_5,x_6,x_7⟩:=gh.c8;have fi:=gh.lt
 go_wp2_with fail
 obtain⟨w2,gS⟩:∃w2,w2=w1.alloc (.cells #[.slice A0 S.D.fn.length a0,.slice A1 S.D.fl.length a1,.slice A2 S.D.nn.length a2,.slice A3 S.D.nl.length a3,.slice A4 S.D.ss.length a4,.slice A5 S.cs.length a5,.slice A6 S.ds.length a6,.int .i64 S.fund] 34):=⟨_,rfl⟩;rw[<-gS] at gB⊢;generalize w1.heap.size=Z at*;refine(j8 _ _ _ _ _ _ _ S r _ (HH.out.below gB.out.blw) HR).mono ?_
 rintro e w3 ⟨rfl,Hf⟩;have gd:=h_ (gB.out.below Hf);have gU:=gd.out.X;obtain⟨x_0,x_1,x_2,x_3,x_4,x_5,x_6,x_7⟩:=gU.c8
 cases r
 ·obtain⟨u1,u2⟩:=z1H (S:=S) (x:=x) (y:=y) (.inl hr)
  have hu:S=E:=by rw[<-HE.out];exact u1.symm
  have hv:false=bb:=by rw[<-gm.out];exact u2.symm
  subst hu;subst hv;have HF:=gd;obtain⟨_,_,hR,hZ,Ga,_,_⟩:=HF.out;obtain⟨z_0,z_1,z_2,z_3,z_4,z_5,z_6,z_7⟩:=hZ.c8;obtain⟨r_0,r_1,r_2,r_3,r_4,r_5,r_6,r_7,r_f0,r_f1,r_f2,r_f3,r_f4,r_f5,r_f6,r_f7⟩:=hR.b8;have Hl:=hR.lt;have Hy:=h_ (HF.out.fin);go_wp2;exact bodyPost_ret (v:= .tuple #[.agg (s8_ A0 A1 A2 A3 A4 A5 A6 a0 a1 a2 a3 a4 a5 a6 S),.bool false]) (by simp[results,Tryz.results27,go_sem,r_0,r_1,r_2,r_3,r_4,r_5,r_6,r_7,Hl]) rfl ⟨_,_,_,_,_,_,_,_,_,_,_,_,_,_,fs,rfl,(Hy.out _ _ _ _ _ _ _ _).1,(Hy.out _ _ _ _ _ _ _ _).2⟩
 ·clear gU x_0 x_1 x_2 x_3 x_4 x_5 x_6 x_7
  obtain⟨l',Gc⟩:∃l,vA S.D.nn S.D.nl S.cs x y=l:=⟨_,rfl⟩;obtain⟨b',gw⟩:∃b,vy S.D.nn S.D.nl S.cs x y=b:=⟨_,rfl⟩;have BC:=h_ Gc;have fR:=h_ gw;have HN:=h_ (HH.out.dr.nn.below gd.out.blw);have HL:=h_ (HH.out.dr.nl.below gd.out.blw);have HC:=h_ (HH.out.cs.below gd.out.blw);have hX:=gd.out.X;obtain⟨x_0,x_1,x_2,x_3,x_4,x_5,x_6,x_7⟩:=hX.c8
  go_wp2_with fail
  refine(z7r _ _ _ S.D.nn S.D.nl S.cs x y _ HN.out HL.out HC.out gi.out.cs).mono ?_
  rw[Gc,gw];rintro e w4 ⟨vt,rfl,gF,Hv⟩;obtain⟨T5,t5,rfl⟩:=OwnE.form (t:=3) (enc:=vI) gF;have HF:=h_ (OutSS.newCs gd.out Hv gF);have gZ:=h_ (gd.out.below Hv)
  cases b'
  ·clear HF
   obtain⟨u1,u2⟩:=z1H (S:=S) (x:=x) (y:=y) (.inr fR.out);have hu:S=E:=by rw[<-HE.out];exact u1.symm
   have hv:false=bb:=by rw[<-gm.out];exact u2.symm
   subst hu;subst hv;have HF:=gZ;obtain⟨_,_,hR,hZ,Ga,_,_⟩:=HF.out;obtain⟨z_0,z_1,z_2,z_3,z_4,z_5,z_6,z_7⟩:=hZ.c8;obtain⟨r_0,r_1,r_2,r_3,r_4,r_5,r_6,r_7,r_f0,r_f1,r_f2,r_f3,r_f4,r_f5,r_f6,r_f7⟩:=hR.b8;have Hl:=hR.lt;have Hy:=h_ (HF.out.fin);go_wp2;exact bodyPost_ret (v:= .tuple #[.agg (s8_ A0 A1 A2 A3 A4 A5 A6 a0 a1 a2 a3 a4 a5 a6 S),.bool false]) (by simp[results,Tryz.results27,go_sem,r_0,r_1,r_2,r_3,r_4,r_5,r_6,r_7,Hl]) rfl ⟨_,_,_,_,_,_,_,_,_,_,_,_,_,_,fs,rfl,(Hy.out _ _ _ _ _ _ _ _).1,(Hy.out _ _ _ _ _ _ _ _).2⟩
  ·obtain⟨u1,u2⟩:=z5W (S:=S) (x:=x) (y:=y) hr fR.out
   rw[BC.out] at u1;have hu:(⟨S.D,l',S.ds,S.fund⟩:St)=E:=by rw[<-HE.out];exact u1.symm
   have hv:true=bb:=by rw[<-gm.out];exact u2.symm
   subst hu;subst hv;obtain⟨_,_,hR,hZ,Ga,_,_⟩:=gZ.out;obtain⟨z_0,z_1,z_2,z_3,z_4,z_5,z_6,z_7,z_f0,z_f1,z_f2,z_f3,z_f4,z_f5,z_f6,z_f7⟩:=hZ.b8;obtain⟨r_0,r_1,r_2,r_3,r_4,r_5,r_6,r_7,r_f0,r_f1,r_f2,r_f3,r_f4,r_f5,r_f6,r_f7⟩:=hR.b8;have Hl:=hR.lt;have Fr:=hZ.lt;have Hy:=h_ (HF.out.fin);have FK:¬Z=w.heap.size+1:=o_
   have Gv:¬w.heap.size+1=Z:=o_
   go_wp2;exact bodyPost_ret (v:= .tuple #[.agg #[.slice A0 S.D.fn.length a0,.slice A1 S.D.fl.length a1,.slice A2 S.D.nn.length a2,.slice A3 S.D.nl.length a3,.slice A4 S.D.ss.length a4,.slice T5 l'.length t5,.slice A6 S.ds.length a6,.int .i64 S.fund],.bool true]) (by simp[results,Tryz.results27,go_sem,r_0,r_1,r_2,r_3,r_4,r_5,r_6,r_7,z_0,z_1,z_2,z_3,z_4,z_5,z_6,z_7,Hl,Fr,FK,Gv]) rfl ⟨_,_,_,_,_,_,_,_,_,_,_,_,_,_,fs,rfl,(Hy.out _ _ _ _ _ _ _ _).1,(Hy.out _ _ _ _ _ _ _ _).2⟩
end Go.Proofs.YtnjcpljhmhdhkaaGreat
