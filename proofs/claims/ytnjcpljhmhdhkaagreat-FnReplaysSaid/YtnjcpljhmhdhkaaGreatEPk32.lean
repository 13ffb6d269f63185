/- part 32 -/
import Derived.Test.YtnjcpljhmhdhkaaGreatEPk25
import Derived.Test.YtnjcpljhmhdhkaaGreatEPk31
import Derived.Laws.EntriesVeiled
set_option linter.unusedSimpArgs false
set_option linter.unusedVariables false
set_option maxRecDepth 100000
set_option maxHeartbeats 16000000
namespace Go.Proofs.YtnjcpljhmhdhkaaGreat
open Go.RowKit
def Tw (bC gO:Nat) (k:Nat):Prop:=k=bC∨k=gO
structure Fx (bC gO:Nat) (w:World) (g o:Nat) (v:Value):Prop where
 lt:g<w.heap.size
 nc:g≠bC
 no:g≠gO
 at_:w.cell? ⟨g,o,none⟩=some v
theorem Fx.turned {bC gO:Nat} {w w':World} {g o:Nat} {v:Value} (h:Fx bC gO w g o v) (ht:Turns (Tw bC gO) w w'):Fx bC gO w' g o v:=
 ⟨aaD h.lt ht.size,h.nc,h.no,(jC (ht.block g h.lt (fun e=>e.elim h.nc h.no))).trans h.at_⟩
theorem z5U (v:Value) (L:List Int) (gO:Nat) (w:World) (h:RI w v L) (hle:L.length<=40) (hO:Blk w gO 31 #[.slice none 0 0]):
  Calls Tryz.prog 237 #[v,.pointer (some ⟨gO,0,none⟩)] w fun e w'=>e= .returned (.bool true)/\∃u,Blk w' gO 31 #[u]/\OwnI w.heap.size w' u L/\w.grownBy w' (some gO):=by
 have zS:=hO.lt;have HO:=h_ hO
 go_enter Tryz.func237,Tryz.ntmps237
 go_wp2_with fail
 refine(vZ v L _ h o_).mono ?_
 rintro e w1 ⟨u,rfl,Hi,h9⟩;obtain⟨Au,cu,rfl⟩:=OwnE.form (t:=3) (enc:=vI) Hi;have GQ:=HO.out.below h9 zS;have q0:w1.cell? ⟨gO,0,none⟩=some (.slice none 0 0):=GQ.cell 0;have q1:w1.frozen? ⟨gO,0,none⟩=false:=GQ.frozen 0;have HB:=h_ (GQ.set_ 0 (.slice Au L.length cu));have HL:=h_ (OwnI.far Hi (qU (qW w1 (some gO)) 0 (.slice Au L.length cu)) (fun k hk=>by cases hk;exact zS));have HG:=h_ (qU (g:=gO) (z9S (qW w (some gO)) h9) 0 (.slice Au L.length cu));go_wp2;go_ret
 exact⟨rfl,_,HB.out,HL.out,HG.out⟩
structure PutI (bC gO gC gT gN gW gA gP bW oW cW bA oA cA F n:Nat) (near:Nat->Nat) (w:World):Prop where
 C:Fx bC gO w gC 0 (.slice (some ⟨bC,0,none⟩) F F)
 T:Fx bC gO w gT 0 (.func (.func 237) #[] #[.pointer (some ⟨gO,0,none⟩)])
 N:Fx bC gO w gN 0 (.int .i64 n)
 W:Fx bC gO w gW 0 (.slice (some ⟨bW,oW,none⟩) F cW)
 A:Fx bC gO w gA 0 (.slice (some ⟨bA,oA,none⟩) F cA)
 P:Fx bC gO w gP 0 (.func (.func 257) #[] #[.pointer (some ⟨gC,0,none⟩),.pointer (some ⟨gT,0,none⟩),.pointer (some ⟨gN,0,none⟩),.pointer (some ⟨gW,0,none⟩),.pointer (some ⟨gA,0,none⟩),.pointer (some ⟨gP,0,none⟩)])
 w_:∀k,k<F->Fx bC gO w bW (oW+k) (.int .i64 (-1))
 a_:∀k,k<F->Fx bC gO w bA (oA+k) (.int .i64 (near k:Nat))
theorem PutI.turned {bC gO gC gT gN gW gA gP bW oW cW bA oA cA F n:Nat} {near:Nat->Nat} {w w':World} (h:PutI bC gO gC gT gN gW gA gP bW oW cW bA oA cA F n near w) (ht:Turns (Tw bC gO) w w'):
  PutI bC gO gC gT gN gW gA gP bW oW cW bA oA cA F n near w':=
 ⟨h.C.turned ht,h.T.turned ht,h.N.turned ht,h.W.turned ht,h.A.turned ht,h.P.turned ht,fun k hk=>(h.w_ k hk).turned ht,fun k hk=>(h.a_ k hk).turned ht⟩
def PutQ (base bC gO F:Nat) (hd:List Int) (o:Option (List Int)) (w:World) (e:Ending) (w':World):Prop:=
 ∃b:Bool,e= .returned (.bool b)/\Turns (Tw bC gO) w w'/\(∃cs,OwnI base w' (.slice (some ⟨bC,0,none⟩) F F) cs/\cs.take hd.length=hd)/\
  ((b=false/\o=none/\Blk w' gO 31 #[.slice none 0 0])∨(b=true/\∃L u,o=some L/\Blk w' gO 31 #[u]/\OwnI w.heap.size w' u L))
theorem z6d {cs hd:List Int} (h:cs.take hd.length=hd) {i:Nat} (hi:i<hd.length):cs.getD i 0=hd.getD i 0:=by
 rw[<-h,aa6,aa6,List.getElem?_take];rw[aao hi]
theorem z71 {cs hd:List Int} (h:cs.take hd.length=hd) (hl:hd.length<cs.length) (x:Int):(cs.set hd.length x).take (hd++[x]).length =hd++[x]:=by
 rw[aaW,aa8,aax (by simpa using hl)];rw[List.take_set_of_le (aaa _),h];simp
theorem z4T {cs hd:List Int} {x:Int} (h:cs.take (hd++[x]).length =hd++[x]):cs.take hd.length=hd:=by
 have e:=congrArg (List.take hd.length) h;rw[List.take_take,aaW,aa8,Nat.min_eq_left o_,List.take_left'] at e
 ·exact e
 ·rfl
theorem z8s (base bC gO gC gT gN gW gA gP bW oW cW bA oA cA F n:Nat) (near:Nat->Nat) (adj:Nat->Nat->Bool) (MS:∀g f,g<F->f<F->(near f).testBit g=adj g f) (Hf:∀f,f<F->near f<2^40) (hF:F<=40) (hn:n<=6) (hCO:bC≠gO):
  ∀(r:Nat) (hd cs:List Int) (z:Int) (w:World),z=hd.length->hd.length+r=F->PutI bC gO gC gT gN gW gA gP bW oW cW bA oA cA F n near w->OwnI base w (.slice (some ⟨bC,0,none⟩) F F) cs->cs.take hd.length=hd->Blk w gO 31 #[.slice none 0 0]->
   Calls Tryz.prog 257 #[.int .i64 z,.pointer (some ⟨gC,0,none⟩),.pointer (some ⟨gT,0,none⟩),.pointer (some ⟨gN,0,none⟩),.pointer (some ⟨gW,0,none⟩),.pointer (some ⟨gA,0,none⟩),.pointer (some ⟨gP,0,none⟩)] w
    (PutQ base bC gO F hd (srch adj (noW F) n r hd) w):=by
 intro r
 induction r with
 |zero=>
  intro hd cs z w hz hl hP hC fU hO;subst hz;have hlc:cs.length=F:=by have:=OwnE.len (t:=3) (enc:=vI) hC;omega
  have Rh:cs=hd:=by
   rw[show hd.length=cs.length by omega,aaA] at fU;exact fU
  subst Rh;have HR:Hid (srch adj (noW F) n 0 cs=some cs):=h_ rfl;have c0:=hP.C.at_;have c1:=hP.T.at_;have HT:=h_ (z5U _ cs gO w hC.reads o_ hO);have HC:=h_ hC;clear hP hO hC MS Hf fU
  go_enter Tryz.func257,Tryz.ntmps257
  go_wp2_with fail
  refine HT.out.mono ?_
  rintro e w1 ⟨rfl,u,GQ,Hi,gD⟩;have rF:=h_ (yE (S:=fun k=>k=gO) HC.out (Turns.ofGrown gD (fun k hk=>by cases hk;rfl)) (fun k hk e=>by cases hk;exact hCO e));have HQ:Hid (Turns (Tw bC gO) w w1):=h_ (Turns.ofGrown gD (fun k hk=>by cases hk;exact .inr rfl));have mn:=h_ GQ;have Ho1:=h_ Hi;clear GQ Hi gD;go_wp2;go_ret
  exact⟨true,rfl,HQ.out,⟨cs,rF.out,aaA⟩,.inr ⟨rfl,cs,u,HR.out,mn.out,Ho1.out⟩⟩
 |succ r ih=>
  intro hd cs z w hz hl hP hC fU hO;obtain⟨k,hk⟩:∃k,hd.length=k:=⟨_,rfl⟩;have Mm:k<F:=o_
  have e1:((k:Int)==(F:Int))=false:=beq_eq_false_iff_ne.2 o_;have NX:=h_ (fun (x:Nat) h=>z5C (adj:=adj) (gv:=noW F) (n:=n) (r:=r) (hd:=hd) (x:=x) h);have WK:=h_ (fun (x:Nat) h1 h2=>z6L (adj:=adj) (gv:=noW F) (n:=n) (r:=r) (hd:=hd) (x:=x) h1 h2);have HHI:=h_ (fun (x:Nat) (L:List Int) hx hp h=>z1f (adj:=adj) (gv:=noW F) (n:=n) (r:=r) (hd:=hd) (L:=L) (x:=x) hx hp h);have HMI:=h_ (fun hp=>Xu (adj:=adj) (gv:=noW F) (n:=n) (r:=r) (hd:=hd) hp);have Ro:=h_ (fun (x:Int) (i:Nat)=>z2B (adj:=adj) (hd:=hd) (k:=k) (x:=x) (i:=i));have HOA:Hid (∀x:Int,okP adj hd k x k=okC adj hd k x):=h_ (fun _=>rfl);have Rv:Hid (∀x:Int,okP adj hd k x 0=true):=h_ (fun _=>rfl);have HWY:Hid (∀x:Int,ZX (noW F) k x=true):=h_ (fun x=>z6b Mm);have HTG:=h_ (fun (cs:List Int) (h:cs.take hd.length=hd) (i:Nat) (hi:i<hd.length)=>z6d h hi);have rp:=h_ (fun (cs:List Int) (h:cs.take hd.length=hd) (hl:hd.length<cs.length) (x:Int)=>z71 h hl x);have HTL:=h_ (fun (cs:List Int) (x:Int) (h:cs.take (hd++[x]).length =hd++[x])=>z4T h);have HLX:Hid (∀x:Int,(hd++[x]).length =k+1):=h_ (fun x=>by simp[hk]);have HIH:=h_ ih;have HLR:Hid (∀x:Int,(hd++[x]).length +r=F):=h_ (fun x=>by simp;omega)
  have HP:=h_ hP;have ni:=h_ (fun i (hi:i<F)=>MS i k hi Mm);have hnk:=Hf k Mm;have WL:=h_ hk;unfold PutQ;rw[hk] at NX WK HTG rp HTL;rw[hz,hk];generalize srch adj (noW F) n (r+1) hd=RR at*;have W7:cs.take k=hd:=by rw[<-hk];exact fU
  clear hP ih hl fU MS Hf hz;have ik1:(0:Int)<=(k:Int):=o_
  have ik2:(k:Int)<(F:Int):=o_
  have c0:=HP.out.C.at_
  go_enter Tryz.func257,Tryz.ntmps257
  go_wp2;clear c0
  go_loopw [9] (fun s wr=>∃x:Nat,x<=n/\s= .int .i64 x/\Hid (∀y,y<x->srF adj (noW F) n r hd y=none)/\Turns (Tw bC gO) w wr/\(∃cs,OwnI base wr (.slice (some ⟨bC,0,none⟩) F F) cs/\Hid (cs.take k=hd))/\Blk wr gO 31 #[.slice none 0 0]) (fun s _=>n -(intOf s).toNat)
  case atStart=>exact⟨0,aab _,rfl,h_ (fun y hy=>absurd hy o_),Turns.refl _ _,⟨cs,hC,h_ W7⟩,hO⟩
  case round=>
   clear hC hO W7;obtain⟨x,hxn,rfl,uX,ht,⟨ds,hC,Zc⟩,hO⟩:=hrel;have Bb:=HP.out.turned ht;have c0:=Bb.C.at_;have c2:=Bb.N.at_;have c3:=Bb.W.at_;have c4:=Bb.A.at_;have c5:=Bb.P.at_;have l0:=Bb.C.lt;have l2:=Bb.N.lt;have l3:=Bb.W.lt;have l4:=Bb.A.lt;have l5:=Bb.P.lt;have w1:=(Bb.w_ k Mm).at_;have w2:=(Bb.w_ k Mm).lt;have a1:=(Bb.a_ k Mm).at_;have a2:=(Bb.a_ k Mm).lt;have hlc:ds.length=F:=by have:=OwnE.len (t:=3) (enc:=vI) hC;omega
   have hCl:=(OwnI.lt hC bC rfl).2
   by_cases Hf:x<n
   ·have Hp:(x:Int)<(n:Int):=o_
    have Fo:=h_ hC;have HOO:=h_ hO;have Yt:=h_ ht;have mQ:=h_ Bb;clear hC hO ht Bb;go_wp2;obtain⟨wq,FI⟩:∃u,u=wr:=⟨_,rfl⟩;rw[<-FI]
    go_loopw [10,11] (fun s t w2=>∃i:Nat,i<=k/\t= .int .i64 i/\s= .bool (okP adj hd k x i)/\w2=wr) (fun _ t _=>k -(intOf t).toNat)
    case atStart=>exact⟨0,aab _,rfl,by rw[Rv.out],FI⟩
    case round=>
     clear FI wq;obtain⟨i,RE,rfl,rfl,rfl⟩:=hrel
     by_cases cf:i<k
     ·have WF:(i:Int)<(k:Int):=o_
      have ii1:(0:Int)<=(i:Int):=o_
      have ii2:(i:Int)<(F:Int):=o_
      have x0:=OwnE.cell (t:=3) (enc:=vI) Fo.out 0 (q:=i) o_;rw[HTG.out ds Zc.out i cf] at x0;have x0':wr.cell? ⟨bC,i,none⟩=some (.int .i64 (hd.getD i 0)):=x0;have bt:=QS (s:=near k) (k:=i) o_;rw[ni.out i o_] at bt;have h64:i<64:=o_
      have HS:=h_ (Ro.out x i);clear x0;generalize adj i k=a at*;generalize hd.getD i 0=h at*;generalize okP adj hd k x i=o at*;generalize near k=nk at*
      cases o
      ·clear bt
       go_wp2;go_roundw
       case rel=>exact⟨i+1,by omega,by go_num,by rw[HS.out];rfl,by trivial⟩
       case measure=>simp[intOf];omega
      ·cases a
       ·have bt':bits .and .i64 ((nk:Int)/2^i) 1=0:=bt
        clear bt;go_wp2;go_roundw
        case rel=>exact⟨i+1,by omega,by go_num,by rw[HS.out];rfl,by trivial⟩
        case measure=>simp[intOf];omega
       ·have bt':bits .and .i64 ((nk:Int)/2^i) 1=1:=bt
        clear bt
        by_cases he:h=(x:Int)
        ·have e2:(h==(x:Int))=true:=beq_iff_eq.2 he
         have e3:(h != (x:Int))=false:=by rw[bne,e2];rfl
         rw[e2] at HS;clear he;go_wp2;go_roundw
         case rel=>exact⟨i+1,by omega,by go_num,by rw[HS.out];rfl,by trivial⟩
         case measure=>simp[intOf];omega
        ·have e2:(h==(x:Int))=false:=beq_eq_false_iff_ne.2 he
         have e3:(h != (x:Int))=true:=by rw[bne,e2];rfl
         rw[e2] at HS;clear he;go_wp2;go_roundw
         case rel=>exact⟨i+1,by omega,by go_num,by rw[HS.out];rfl,by trivial⟩
         case measure=>simp[intOf];omega
     ·have Ns:i=k:=o_
      subst Ns;rw[HOA.out];have uY:=h_ (NX.out x);have uZ:=h_ (WK.out x (HWY.out x));generalize okC adj hd i (x:Int)=o at*
      cases o
      ·have HX:=h_ (uY.out rfl)
       have Fd:=h_ (xO uX.out HX.out);go_wp2;go_roundw
       case rel=>exact⟨x+1,by omega,by go_num,Fd,Yt.out,⟨ds,Fo.out,Zc⟩,HOO.out⟩
       case measure=>simp[intOf];omega
      ·have HX:=h_ (uZ.out rfl)
       have rv:=kA Fo.out i x;have r6:Turns (Tw bC gO) wr (wr.setCell ⟨bC,i,none⟩ (.int .i64 x)):=Turns.ofGrown (qU (g:=bC) (qW wr (some bC)) i (.int .i64 x)) (fun k hk=>by cases hk;exact .inl rfl);have Ca:Blk (wr.setCell ⟨bC,i,none⟩ (.int .i64 x)) gO 31 #[.slice none 0 0]:=HOO.out.far (p:=⟨bC,i,none⟩) (show gO≠bC from fun e=>hCO e.symm) _;have hP2:=mQ.out.turned r6;have Bc:=h_ (HIH.out (hd++[(x:Int)]) (ds.set i x) ((i:Int)+1) (wr.setCell ⟨bC,i,none⟩ (.int .i64 x)) (by rw[HLX.out];omega) (HLR.out _) hP2 rv (rp.out ds Zc.out o_ x) Ca);have Uu:=h_ (Yt.out.trans r6);have fz:=OwnE.frz (t:=3) (enc:=vI) Fo.out i;have xz:=OwnE.cell (t:=3) (enc:=vI) Fo.out 0 (q:=i) o_;obtain⟨zz,YO⟩:∃z,wr.cell? ⟨bC,i,none⟩=some z:=⟨_,xz⟩;have d5:¬gP=bC:=mQ.out.P.nc;clear rv r6 Ca hP2 xz
       go_wp2_with fail
       refine Bc.out.mono ?_
       rintro e w5 ⟨b,rfl,ht5,⟨es,UQ,hes⟩,h5⟩;have HES:=h_ (HTL.out es x hes);have HT5:=h_ (Uu.out.trans ht5)
       rcases h5 with ⟨rfl,hn5,C9⟩|⟨rfl,L,u,hL5,C9,hu5⟩
       ·have HP3:=h_ (xO uX.out (HX.out.trans hn5))
        have Ny:=h_ UQ;have Cl:=h_ C9;clear UQ C9 ht5 hes Bc;go_wp2;go_roundw
        case rel=>exact⟨x+1,by omega,by go_num,HP3,HT5.out,⟨es,Ny.out,HES⟩,Cl.out⟩
        case measure=>simp[intOf];omega
       ·have HR:=h_ (HHI.out x L Hf uX.out (HX.out.trans hL5))
        have Ny:=h_ UQ;have Cl:=h_ C9;have HU5:=h_ (OwnI.mono hu5 (show w.heap.size<=(wr.setCell ⟨bC,i,none⟩ (.int .i64 x)).heap.size from Uu.out.size));clear UQ C9 ht5 hes hu5 Bc;go_wp2;go_ret
        exact⟨true,rfl,HT5.out,⟨es,Ny.out,HES.out⟩,.inr ⟨rfl,L,u,HR.out,Cl.out,HU5.out⟩⟩
   ·have hxx:x=n:=o_
    subst hxx;have HR:=h_ (HMI.out uX.out);have HQ:Hid (PutQ base bC gO F hd RR w (.returned (.bool false)) wr):=h_ ⟨false,rfl,ht,⟨ds,hC,by have:=Zc.out;rw[WL.out];exact this⟩,.inl ⟨rfl,HR.out,hO⟩⟩;clear hC hO ht Bb;go_wp2;go_ret
    have:=HQ.out;unfold PutQ at this;rw[WL.out] at this;exact this
noncomputable def colW (ns ls:List Pr) (n:Int):List Int:=(jZ ns ls n).getD []
noncomputable def kV (ns ls:List Pr) (n:Int):Bool:=(jZ ns ls n).isSome
theorem QA {ns ls:List Pr} {n:Int} (h:ze ns ls=false∨inB n 1 6=false):jZ ns ls n=none:=by
 unfold jZ
 rcases h with h|h
 ·rw[h];rfl
 ·rw[h,Bool.and_false];rfl
theorem z1n {ns ls:List Pr} {n:Nat} (h1:ze ns ls=true) (h2:inB n 1 6=true):jZ ns ls n=srch (adB ns ls) (noW (z9 ns ls).length) n (z9 ns ls).length []:=by
 unfold jZ;rw[h1,h2,zW h1];rfl
theorem z8T (F:Nat):yT (noW F) (-1) 5=true:=by
 rw[jL];intro j hj;rw[Qs] at hj;rw[z0D hj];decide
def noK (F k:Nat):List Int:=List.replicate k (-1)++List.replicate (F -k) 0
theorem z6y (F:Nat):noK F 0=List.replicate F 0:=by simp[noK]
theorem z7J (F:Nat):noK F F=noW F:=by simp[noK,noW]
theorem z6D {F k:Nat} (h:k<F):(noK F k).set k (-1)=noK F (k+1):=by
 unfold noK;rw[aan,aaq (by simp),aaC,aae,show F -k=(F -(k+1))+1 by omega,List.replicate_succ,aal,List.replicate_succ' (n:=k),aay];rfl
theorem z8g {F k:Nat} (h:k<=F):(noK F k).length =F:=by simp[noK];omega
theorem z1l (vn vl:Value) (ns ls:List Pr) (w:World) (hn:RP w vn ns) (hl:RP w vl ls):
  Calls Tryz.prog 183 #[.agg #[vn,vl]] w (RetI (noW (z9 ns ls).length) w):=by
 have Hg:Below w.heap.size w (w.alloc (.cells #[vn,vl] 27)):=bel_
 obtain⟨i0,hi,iz0,iz1,iz2⟩:=info_parts qu;have fc:=zJ ns ls
 go_enter Tryz.func183,Tryz.ntmps183
 go_wp2_with fail
 refine(jK _ _ ns ls _ (hn.below Hg) (hl.below Hg)).mono ?_
 rintro e w1 ⟨v1,rfl,Hi,h9⟩;have h8:=Hg.trans (h9.mono Hg.size);obtain⟨A1,c1,rfl⟩:=Hi.form;generalize (z9 ns ls).length =F at*
 go_wp2_with (at_make;refine wpList_make_full _ rfl _ _ 31 rfl w.heap.size 3 i0 (.int .i64 0) 1 Tryz.underlying31 hi iz0 iz1 .i64 .i64 _ _ F rfl rfl rfl rfl (by rw[iz2];omega) (by unfold maxLen;omega) (by have:=h8.size;omega) ?_)
 intro w3 gY gL;have GO:Below w1.heap.size w1 w3:=(aaj _ _).grown gL (aaa _) (by intro k hk;cases hk);have Hc:=h8.trans (GO.mono h8.size)
 have G0:OwnI w.heap.size w3 (.slice (some ⟨w1.heap.size,0,none⟩) F F) (noK F 0):=by
  rw[z6y];unfold OwnI;rw[aaC,<-z2l];exact gY
 have Ht:=h8.size;generalize w1.heap.size=gs at*;go_wp2
 go_loopw [11] (fun x wr=>∃k:Nat,k<=F/\x= .int .i64 k/\OwnI w.heap.size wr (.slice (some ⟨gs,0,none⟩) F F) (noK F k)/\Below w.heap.size w wr) (fun x _=>F -(intOf x).toNat)
 case atStart=>exact⟨0,aab _,rfl,G0,Hc⟩
 case round=>
  obtain⟨k,hk,rfl,ho,hB⟩:=hrel
  by_cases Hf:k<F
  ·have Hp:(k:Int)<(F:Int):=o_
   have ik1:(0:Int)<=(k:Int):=o_
   have hx:=OwnE.cell (t:=3) (enc:=vI) ho 0 (q:=k) (by rw[z8g hk];exact Hf);obtain⟨z,hz⟩:∃z,wr.cell? ⟨gs,k,none⟩=some z:=⟨_,hx⟩;have fz:=OwnE.frz (t:=3) (enc:=vI) ho k;have HO:=h_ (show OwnI w.heap.size (wr.setCell ⟨gs,k,none⟩ (.int .i64 (-1))) (.slice (some ⟨gs,0,none⟩) F F) (noK F (k+1)) by rw[<-z6D Hf];exact kA ho k (-1));have HB:=h_ (hB.setCell (p:=⟨gs,k,none⟩) Ht (.int .i64 (-1)));go_wp2;go_roundw
   case rel=>exact⟨k+1,by omega,by go_num,HO.out,HB.out⟩
   case measure=>simp[intOf];omega
  ·have gi:k=F:=o_
   subst gi;rw[z7J] at ho;go_wp2;go_ret
   exact⟨_,rfl,ho,hB⟩
theorem xC (vn vl vw:Value) (ns ls:List Pr) (w:World) (hn:RP w vn ns) (hl:RP w vl ls) (hw:RI w vw (noW (z9 ns ls).length)):
  CB_ 235 #[.agg #[vn,vl],vw] w (.bool (ze ns ls)):=by
 have Hg:Below w.heap.size w (w.alloc (.cells #[vn,vl] 27)):=bel_
 have gy:Blk (w.alloc (.cells #[vn,vl] 27)) w.heap.size 27 #[vn,vl]:=Blk.newAt rfl;obtain⟨Aw,cw,rfl,rV,hmw,_⟩:=hw.form;rw[Qs] at*;have Nx:=h_ (z8T (z9 ns ls).length);have HW:=h_ hw
 cases hq:ze ns ls
 ·go_enter Tryz.func235,Tryz.ntmps235
  go_wp2_with fail
  refine(j8 _ _ ns ls _ _ (hn.below Hg) (hl.below Hg) hq).mono ?_
  rintro e w1 ⟨rfl,h9⟩;have h8:=Hg.trans (h9.mono Hg.size);go_wp2;go_ret
  exact⟨rfl,h8⟩
 ·go_enter Tryz.func235,Tryz.ntmps235
  go_wp2_with fail
  refine(j8 _ _ ns ls _ _ (hn.below Hg) (hl.below Hg) hq).mono ?_
  rintro e w1 ⟨rfl,h9⟩;have h8:=Hg.trans (h9.mono Hg.size);have Hz:=gy.below h9 gy.lt;obtain⟨a_0,a_1⟩:=Hz.c2
  go_wp2_with fail
  refine(jK _ _ ns ls _ (hn.below h8) (hl.below h8)).mono ?_
  rintro e w2 ⟨v2,rfl,Hk,Hd⟩;obtain⟨A2,c2,rfl⟩:=Hk.form;have Ha:=h8.trans (Hd.mono h8.size)
  go_wp2_with fail
  refine(XT _ _ (-1) 5 _ (HW.out.below Ha)).mono ?_
  rintro e w' ⟨rfl,rfl⟩;rw[Nx.out];go_wp2;go_ret
  exact⟨rfl,Ha⟩
theorem z5p {w:World} {b o F c:Nat} (h:RI w (.slice (some ⟨b,o,none⟩) F c) (noW F)) (hF:0<F):b<w.heap.size/\∀k,k<F->w.cell? ⟨b,o+k,none⟩=some (.int .i64 (-1)):=by
 obtain⟨Aw,cw,he,_,_,rV⟩:=h.form;rw[Qs] at rV;obtain⟨bw',ow',hA,hbW,hcw2⟩:=rV hF
 injection he with he1 _ _
 rw[<-he1] at hA
 injection hA with hA
 injection hA with GM Ft _
 subst GM;subst Ft;exact⟨hbW,fun k hk=>by rw[hcw2 k hk,z0D hk]⟩
theorem z5j (vn vl:Value) (ns ls:List Pr) (bW oW cW n gO:Nat) (w:World) (hn:RP w vn ns) (hl:RP w vl ls) (hw:ze ns ls=true) (Uf:n<=6)
  (hcW:(z9 ns ls).length <=cW) (hW:RI w (.slice (some ⟨bW,oW,none⟩) (z9 ns ls).length cW) (noW (z9 ns ls).length)) (hO:Blk w gO 31 #[.slice none 0 0]):
  Calls Tryz.prog 236 #[.agg #[vn,vl],.slice (some ⟨bW,oW,none⟩) (z9 ns ls).length cW,.int .i64 n,.func (.func 237) #[] #[.pointer (some ⟨gO,0,none⟩)]] w fun e w'=>
   e= .returned (.tuple #[])/\∃u,Blk w' gO 31 #[u]/\OwnI w.heap.size w' u ((srch (adB ns ls) (noW (z9 ns ls).length) n (z9 ns ls).length []).getD [])/\(srch (adB ns ls) (noW (z9 ns ls).length) n (z9 ns ls).length []=none->u= .slice none 0 0)/\w.grownBy w' (some gO):=by
 obtain⟨i0,hi,iz0,iz1,iz2⟩:=info_parts qu;have fc:=zJ ns ls;have CB:=ym hw;have CO:=zW hw;have zS:=hO.lt;obtain⟨w0,Gx⟩:∃u,u=(((w.alloc (.cells #[vn,vl] 27)).alloc (.cells #[.slice (some ⟨bW,oW,none⟩) (z9 ns ls).length cW] 31)).alloc (.cells #[.int .i64 n] 3)).alloc (.cells #[.func (.func 237) #[] #[.pointer (some ⟨gO,0,none⟩)]] 205):=⟨_,rfl⟩;have Hg:Below w.heap.size w w0:=by rw[Gx];exact bel_
 have Cc:Blk w0 w.heap.size 27 #[vn,vl]:=by rw[Gx];exact(((Blk.newAt rfl).alloc _).alloc _).alloc _
 have YH:Blk w0 (w.heap.size+1) 31 #[.slice (some ⟨bW,oW,none⟩) (z9 ns ls).length cW]:=by rw[Gx];exact((Blk.newAt (by simp)).alloc _).alloc _
 have hN0:Blk w0 (w.heap.size+1+1) 3 #[.int .i64 n]:=by rw[Gx];exact(Blk.newAt (by simp)).alloc _
 have uC:Blk w0 (w.heap.size+1+1+1) 205 #[.func (.func 237) #[] #[.pointer (some ⟨gO,0,none⟩)]]:=by rw[Gx];exact Blk.newAt (by simp)
 have nU:=h_ (Xj vn vl ns ls w0 (hn.below Hg) (hl.below Hg) hw);have bT:=h_ Gx;obtain⟨hbW,rV⟩:=z5p hW CB;have HCW:=h_ rV
 have hWO:bW≠gO:=by
  intro e;have h1:=HCW.out 0 CB;rw[e,hO.cell] at h1
  rcases oW with _|o
  ·cases h1
  ·simp at h1
 have HBIT:Hid (∀g f,g<(z9 ns ls).length ->f<(z9 ns ls).length ->((qZ ns ls).getD f 0).testBit g=adB ns ls g f):=h_ (fun g f hg hf=>by rw[z22 hw (by rw[<-CO];exact hf),z1m]);have mI:Hid (∀f,f<(z9 ns ls).length ->(qZ ns ls).getD f 0<2^40):=h_ (fun f hf=>aaD (z0E hw (by rw[<-CO];exact hf)) (aaE o_ (by rw[<-CO];exact fc)));have fb:(qZ ns ls).length =(z9 ns ls).length :=by unfold qZ;rw[jU,CO]
 generalize hRR:srch (adB ns ls) (noW (z9 ns ls).length) n (z9 ns ls).length []=RR at*;have Y2:=h_ hRR;have Ml:=h_ fb;generalize (z9 ns ls).length =F at*;generalize qZ ns ls=NN at*
 go_enter Tryz.func236,Tryz.ntmps236
 go_wp2_with fail
 rw[<-bT.out];refine nU.out.mono ?_
 rintro e w1 ⟨v1,rfl,Hi,h9⟩;have h8:=Hg.trans (h9.mono Hg.size);obtain⟨bA,cA,rfl,hcA,hbA0,rP,mW⟩:=OwnI.blk Hi (by rw[za,Ml.out];exact CB);rw[za,Ml.out] at hcA mW⊢;have bm:=YH.below h9 YH.lt;have Ze:=hN0.below h9 hN0.lt;have Wo:=uC.below h9 uC.lt;have Ht:=Wo.lt;have HCA:Hid (∀k,k<F->w1.cell? ⟨bA,k,none⟩=some (.int .i64 (NN.getD k 0:Nat))):=h_ (fun k hk=>by rw[mW k hk,qs]);have g0:w1.cell? ⟨w.heap.size+1,0,none⟩=some (.slice (some ⟨bW,oW,none⟩) F cW):=bm.cell 0;have uW:F<=40:=fc;obtain⟨w2,gR⟩:∃u,u=w1.alloc (.cells #[.slice (some ⟨bA,0,none⟩) F cA] 31):=⟨_,rfl⟩;have Hd:Below w1.heap.size w1 w2:=by rw[gR];exact bel_
 have Ft:Blk w2 w1.heap.size 31 #[.slice (some ⟨bA,0,none⟩) F cA]:=by rw[gR];exact Blk.newAt rfl
 have CX:=h_ gR;have Ha:=h8.trans (Hd.mono h8.size);have l1:w.heap.size+1<w1.heap.size:=o_
 go_wp2_with (at_make;refine wpList_make_full _ rfl _ _ 31 rfl w.heap.size 3 i0 (.int .i64 0) 1 Tryz.underlying31 hi iz0 iz1 .i64 .i64 _ _ F rfl rfl rfl rfl (by rw[iz2];omega) (by unfold maxLen;omega) (by simp;omega) ?_)
 rw[<-CX.out];intro w3 gY gL;have F6:w2.heap.size=w1.heap.size+1:=by rw[CX.out];simp
 have GO:Below w2.heap.size w2 w3:=(aaj _ _).grown gL (aaa _) (by intro k hk;cases hk);have Hc:=Ha.trans (GO.mono Ha.size)
 have hC3:OwnI w.heap.size w3 (.slice (some ⟨w1.heap.size+1,0,none⟩) F F) (List.replicate F 0):=by
  unfold OwnI;rw[aaC,<-z2l];exact gY
 have hC3l:w1.heap.size+1<w3.heap.size:=(OwnI.lt hC3 (w1.heap.size+1) rfl).2;have HB0S:=h_ Hg.size;have b12:=Hd.trans (GO.mono Hd.size);have UR:=bm.below b12 bm.lt;have Cp:=Ze.below b12 Ze.lt;have bj:=Wo.below b12 Wo.lt;have cj:=Ft.below GO Ft.lt;have HCA3:Hid (∀k,k<F->w3.cell? ⟨bA,0+k,none⟩=some (.int .i64 (NN.getD k 0:Nat))):=h_ (fun k hk=>by rw[aaF];exact(b12.cell (p:=⟨bA,k,none⟩) rP).trans (HCA.out k hk));have HCW3:Hid (∀k,k<F->w3.cell? ⟨bW,oW+k,none⟩=some (.int .i64 (-1))):=h_ (fun k hk=>(Hc.cell (p:=⟨bW,oW+k,none⟩) hbW).trans (HCW.out k hk));have GH:=hO.below Hc zS;have W8:=h8.size;have nA:¬w1.heap.size=w1.heap.size+1:=o_
 have hbb0:w.heap.size<=bA:=by have:=HB0S.out;omega
 obtain⟨w5,fe⟩:∃u,u=(w3.alloc (.cells #[.slice (some ⟨w1.heap.size+1,0,none⟩) F F] 31)).alloc (.cells #[.func (.func 257) #[] #[.pointer (some ⟨w3.heap.size,0,none⟩),.pointer (some ⟨w.heap.size+1+1+1,0,none⟩),.pointer (some ⟨w.heap.size+1+1,0,none⟩),.pointer (some ⟨w.heap.size+1,0,none⟩),.pointer (some ⟨w1.heap.size,0,none⟩),.pointer (some ⟨w3.heap.size+1,0,none⟩)]] 218):=⟨_,rfl⟩;have b35:Below w3.heap.size w3 w5:=by rw[fe];exact bel_
 have Hv:=Hc.trans (b35.mono Hc.size);have W9:Blk w5 w3.heap.size 31 #[.slice (some ⟨w1.heap.size+1,0,none⟩) F F]:=by rw[fe];exact(Blk.newAt rfl).alloc _
 have ya:Blk w5 (w3.heap.size+1) 218 #[.func (.func 257) #[] #[.pointer (some ⟨w3.heap.size,0,none⟩),.pointer (some ⟨w.heap.size+1+1+1,0,none⟩),.pointer (some ⟨w.heap.size+1+1,0,none⟩),.pointer (some ⟨w.heap.size+1,0,none⟩),.pointer (some ⟨w1.heap.size,0,none⟩),.pointer (some ⟨w3.heap.size+1,0,none⟩)]]:=by rw[fe];exact Blk.newAt (by simp)
 have hG5:=UR.below b35 UR.lt;have ma:=Cp.below b35 Cp.lt;have Fe:=bj.below b35 bj.lt;have cD:=cj.below b35 cj.lt;have C9:=GH.below b35 GH.lt;have UQ:=hC3.kept b35;have G1:w5.heap.size=w3.heap.size+1+1:=by rw[fe];simp
 have HP:PutI (w1.heap.size+1) gO w3.heap.size (w.heap.size+1+1+1) (w.heap.size+1+1) (w.heap.size+1) w1.heap.size (w3.heap.size+1) bW oW cW bA 0 cA F n (fun k=>NN.getD k 0) w5:=
  ⟨⟨W9.lt,by omega,by omega,W9.cell 0⟩,⟨Fe.lt,by omega,by omega,Fe.cell 0⟩,⟨ma.lt,by omega,by omega,ma.cell 0⟩,⟨hG5.lt,by omega,by omega,hG5.cell 0⟩,⟨cD.lt,nA,by omega,cD.cell 0⟩,⟨ya.lt,by omega,by omega,ya.cell 0⟩,
   fun k hk=>⟨by omega,by omega,hWO,(b35.cell (p:=⟨bW,oW+k,none⟩) (show bW<w3.heap.size by have:=W8;omega)).trans (HCW3.out k hk)⟩,
   fun k hk=>⟨by omega,by omega,by omega,(b35.cell (p:=⟨bA,0+k,none⟩) (show bA<w3.heap.size by omega)).trans (HCA3.out k hk)⟩⟩
 have Bc:=h_ (z8s w.heap.size (w1.heap.size+1) gO w3.heap.size (w.heap.size+1+1+1) (w.heap.size+1+1) (w.heap.size+1) w1.heap.size (w3.heap.size+1) bW oW cW bA 0 cA F n (fun k=>NN.getD k 0) (adB ns ls) HBIT.out mI.out uW Uf o_ F [] (List.replicate F 0) 0 w5 rfl (by simp) HP UQ rfl C9);have HW5:=h_ fe;have HBW5:=h_ Hv
 go_wp2_with fail
 rw[<-HW5.out];refine Bc.out.mono ?_
 rintro e w6 ⟨b,rfl,ht,_,h6⟩;have Hv:=HBW5.out;have HG:Hid (w.grownBy w6 (some gO)):=h_ ⟨ht.os.trans Hv.os,ht.tape.trans Hv.tape,ht.output.trans Hv.output,aai Hv.size ht.size,fun i hi gd=>(ht.block i (aaD hi Hv.size) (fun e=>e.elim (fun e=>by omega) (fun e=>gd (by rw[e])))).trans (Hv.block i hi)⟩
 have HQ:Hid (∃u,Blk w6 gO 31 #[u]/\OwnI w.heap.size w6 u (RR.getD [])/\(RR=none->u= .slice none 0 0)):=h_ (by
  rw[<-Y2.out]
  rcases h6 with ⟨_,Uf,Cy⟩|⟨_,L,u,hL6,Cy,hu6⟩
  ·exact⟨_,Cy,by rw[Uf];exact OwnI.nil _ _,fun _=>rfl⟩
  ·exact⟨u,Cy,by rw[hL6];exact OwnI.mono hu6 Hv.size,fun h=>by rw[hL6] at h;cases h⟩)
 go_wp2
 go_end0
 obtain⟨u,h1,h2,h3⟩:=HQ.out;exact⟨rfl,u,h1,h2,h3,HG.out⟩
theorem z5s (vn vl vw:Value) (ns ls:List Pr) (z:Int) (w:World) (hn:RP w vn ns) (hl:RP w vl ls) (hW:RI w vw (noW (z9 ns ls).length)):
  Calls Tryz.prog 182 #[.agg #[vn,vl],vw,.int .i64 z] w (z24 (colW ns ls z) (kV ns ls z) w):=by
 have Hg:Below w.heap.size w (w.alloc (.cells #[vn,vl] 27)):=bel_
 have gy:Blk (w.alloc (.cells #[vn,vl] 27)) w.heap.size 27 #[vn,vl]:=Blk.newAt rfl
 cases hq:ze ns ls
 ·have HR:=h_ (QA (n:=z) (.inl hq))
  go_enter Tryz.func182,Tryz.ntmps182
  go_wp2_with fail
  refine(xC _ _ _ ns ls _ (hn.below Hg) (hl.below Hg) (hW.below Hg)).mono ?_
  rw[hq];rintro e w1 ⟨rfl,h9⟩;have h8:=Hg.trans (h9.mono Hg.size);go_wp2;exact bodyPost_ret (v:= .tuple #[.slice none 0 0,.bool false]) (by simp[results,Tryz.results182,go_sem]) rfl ⟨_,by unfold kV;rw[HR.out];rfl,by unfold colW;rw[HR.out];exact OwnI.nil _ _,h8⟩
 ·cases hz:inB z 1 6
  ·have HR:=h_ (QA (ns:=ns) (ls:=ls) (n:=z) (.inr hz))
   go_enter Tryz.func182,Tryz.ntmps182
   go_wp2_with fail
   refine(xC _ _ _ ns ls _ (hn.below Hg) (hl.below Hg) (hW.below Hg)).mono ?_
   rw[hq];rintro e w1 ⟨rfl,h9⟩;have h8:=Hg.trans (h9.mono Hg.size)
   go_wp2_with fail
   refine(zu z 1 6 false _ hz).mono ?_
   rintro e w' ⟨rfl,rfl⟩;go_wp2;exact bodyPost_ret (v:= .tuple #[.slice none 0 0,.bool false]) (by simp[results,Tryz.results182,go_sem]) rfl ⟨_,by unfold kV;rw[HR.out];rfl,by unfold colW;rw[HR.out];exact OwnI.nil _ _,h8⟩
  ·obtain⟨n,rfl⟩:∃n:Nat,z=n:=⟨z.toNat,by have:=zf.1 hz;omega⟩
   have Uf:n<=6:=by have:=zf.1 hz;omega
   have HS:=h_ (z1n hq hz);have CB:=ym hq;obtain⟨Aw,cw,rfl,rV,hmw,mf⟩:=hW.form;rw[Qs] at rV hmw mf hW⊢;obtain⟨bw,ow,rfl,H8,_⟩:=mf CB;have HZ:=h_ hz;have Wk:Hid (∀L,srch (adB ns ls) (noW (z9 ns ls).length) n (z9 ns ls).length []=some L->L.length=(z9 ns ls).length):=h_ (fun L h=>by have:=z68 h;simpa using this);clear hz mf
   go_enter Tryz.func182,Tryz.ntmps182
   go_wp2_with fail
   refine(xC _ _ _ ns ls _ (hn.below Hg) (hl.below Hg) (hW.below Hg)).mono ?_
   rw[hq];rintro e w1 ⟨rfl,h9⟩;have h8:=Hg.trans (h9.mono Hg.size);have Hz:=gy.below h9 gy.lt;have Ht:=Hz.lt;clear h9 gy Hg
   go_wp2_with fail
   refine(zu _ 1 6 true _ HZ.out).mono ?_
   rintro e w' ⟨rfl,rfl⟩;have Hd:=h8.alloc h8.size (.cells #[.slice none 0 0] 31);have Ca:Blk (w1.alloc (.cells #[.slice none 0 0] 31)) w1.heap.size 31 #[.slice none 0 0]:=Blk.newAt rfl;have HP:=h_ (z5j vn vl ns ls bw ow cw n w1.heap.size _ (hn.below Hd) (hl.below Hd) hq Uf rV (hW.below Hd) Ca);have cV:=h_ Hd;obtain⟨a_0,a_1⟩:=Hz.c2;clear Hd Ca hW hn hl Hz hq
   go_wp2_with fail
   refine HP.out.mono ?_
   rintro e w3 ⟨rfl,u,GH,hu3,GK,gn⟩;have He:Below w.heap.size w w3:=cV.out.grown gn cV.out.size (fun k hk=>by cases hk;exact h8.size);have yn:=OwnI.mono hu3 (cV.out.size);have hO3l:=GH.lt;have hnq:=fun (u:World) (a:Option Addr) (l c:Nat)=>run_neq_slice_nil_any (P:=Tryz.prog) u 31 3 a l c 0 0 Tryz.underlying31
   clear HP cV hu3 gn a_0 a_1;generalize srch (adB ns ls) (noW (z9 ns ls).length) n (z9 ns ls).length []=RR at*
   cases RR with
   |none=>
    have e1:=GK rfl;subst e1;have q0:w3.cell? ⟨w1.heap.size,0,none⟩=some (.slice none 0 0):=GH.cell 0;clear GK GH
    go_wp2_with fail
    (refine z7 k_ k_ (fun hG=>?_))
    repeat (go_big_quiet_step (fail))
    refine wpQuiet_nil ?_
    clear hG;rintro w5 ⟨⟨_,G1⟩,rfl⟩;have fX:=h_ (He.trans (G1.mono He.size));clear G1 q0;go_wp2;exact bodyPost_ret (v:= .tuple #[.slice none 0 0,.bool false]) (by simp[results,Tryz.results182,go_sem]) rfl ⟨_,by unfold kV;rw[HS.out];rfl,by unfold colW;rw[HS.out];exact OwnI.nil _ _,fX.out⟩
   |some L=>
    have hL:OwnI w.heap.size w3 u L:=yn;have hl:=Wk.out L rfl;obtain⟨bu,cu,rfl,_,_,_,_⟩:=OwnI.blk hL o_;have q0:w3.cell? ⟨w1.heap.size,0,none⟩=some (.slice (some ⟨bu,0,none⟩) L.length cu):=GH.cell 0;clear GK GH yn hl
    go_wp2_with fail
    (refine z7 k_ k_ (fun hG=>?_))
    repeat (go_big_quiet_step (fail))
    refine wpQuiet_nil ?_
    clear hG;rintro w5 ⟨⟨_,G1⟩,rfl⟩;have fX:=h_ (He.trans (G1.mono He.size));have HL5:=h_ (hL.kept G1);clear G1 q0 hL;go_wp2;exact bodyPost_ret (v:= .tuple #[.slice (some ⟨bu,0,none⟩) L.length cu,.bool true]) (by simp[results,Tryz.results182,go_sem]) rfl ⟨_,by unfold kV;rw[HS.out];rfl,by unfold colW;rw[HS.out];exact HL5.out,fX.out⟩
theorem VN (vn vl:Value) (ns ls:List Pr) (z:Int) (w:World) (hn:RP w vn ns) (hl:RP w vl ls):
  Calls Tryz.prog 104 #[.agg #[vn,vl],.int .i64 z] w (z24 (colW ns ls z) (kV ns ls z) w):=by
 have Bs:=h_ (fun (v:World) (hb:Below w.heap.size w v)=>z1l vn vl ns ls v (hn.below hb) (hl.below hb));have WC:=h_ (fun (v:World) (u:Value) (hb:Below w.heap.size w v) (hu:RI v u (noW (z9 ns ls).length))=>z5s vn vl u ns ls z v (hn.below hb) (hl.below hb) hu)
 go_enter Tryz.func104,Tryz.ntmps104
 go_wp2_with fail
 go_region_held3 (fun w'=>w'.cell? ⟨w.heap.size,0,none⟩=some vn/\w'.cell? ⟨w.heap.size,1,none⟩=some vl)
  (go_keep)
  (first|(go_at_call 183;refine(Bs.out _ bel_).mono ?_;rintro e w1 ⟨v1,rfl,Hi,h9⟩;(have gc:=bdC h9);have Ht:=h9.size;(try simp at Ht);(try have gF:=p0_ w w1);have h8:Below w.heap.size w w1:=bel_)|(go_at_call 182;refine(WC.out _ _ bel_ (Hi.reads.below bel_)).mono ?_;rintro e w2 ⟨v2,rfl,Hk,Hd⟩;(have gE:=bcC Hd)))
 have Ha:Below w.heap.size w w2:=bel_
 have FJ:=h_ (OwnI.mono Hk (show w.heap.size<=_ by first|omega|(have:=h8.size;simp at*;omega)));go_wp2;exact bodyPost_ret (v:= .tuple #[v2,.bool (kV ns ls z)]) (by simp[results,Tryz.results104,go_sem]) rfl ⟨_,rfl,FJ.out,Ha⟩
theorem VJ (vn vl:Value) (ns ls:List Pr) (z:Int) (w:World) (hn:RP w vn ns) (hl:RP w vl ls):
  Calls Tryz.prog 103 #[.agg #[vn,vl],.int .i64 z] w (z24 (colW ns ls z) (kV ns ls z) w):=by
 have Hg:Below w.heap.size w (w.alloc (.cells #[vn,vl] 27)):=bel_
 have gy:Blk (w.alloc (.cells #[vn,vl] 27)) w.heap.size 27 #[vn,vl]:=Blk.newAt rfl
 cases hq:ze ns ls
 ·have HR:=h_ (QA (n:=z) (.inl hq))
  go_enter Tryz.func103,Tryz.ntmps103
  go_wp2_with fail
  refine(qR _ _ ns ls _ _ (hn.below Hg) (hl.below Hg) hq).mono ?_
  rintro e w1 ⟨rfl,h9⟩;have h8:=Hg.trans (h9.mono Hg.size);have HO:Hid (OwnI w.heap.size (w1.alloc (.cells #[] 3)) (.slice (some ⟨w1.heap.size,0,none⟩) 0 0) []):=h_ (OwnI.made rfl h8.size);have HB:=h_ (h8.alloc h8.size (.cells #[] 3));go_wp2;exact bodyPost_ret (v:= .tuple #[.slice (some ⟨w1.heap.size,0,none⟩) 0 0,.bool false]) (by simp[results,Tryz.results103,go_sem]) rfl ⟨_,by unfold kV;rw[HR.out];rfl,by unfold colW;rw[HR.out];exact HO.out,HB.out⟩
 ·cases hz:inB z 1 6
  ·have HR:=h_ (QA (ns:=ns) (ls:=ls) (n:=z) (.inr hz))
   have HZ:=h_ hz
   go_enter Tryz.func103,Tryz.ntmps103
   go_wp2_with fail
   refine(qR _ _ ns ls _ _ (hn.below Hg) (hl.below Hg) hq).mono ?_
   rintro e w1 ⟨rfl,h9⟩;have h8:=Hg.trans (h9.mono Hg.size);have HO:Hid (OwnI w.heap.size (w1.alloc (.cells #[] 3)) (.slice (some ⟨w1.heap.size,0,none⟩) 0 0) []):=h_ (OwnI.made rfl h8.size);have HB:=h_ (h8.alloc h8.size (.cells #[] 3))
   go_wp2_with fail
   refine(j7 _ _ _ _).mono ?_
   rintro e w' ⟨rfl,rfl⟩;rw[HZ.out];go_wp2;exact bodyPost_ret (v:= .tuple #[.slice (some ⟨w1.heap.size,0,none⟩) 0 0,.bool false]) (by simp[results,Tryz.results103,go_sem]) rfl ⟨_,by unfold kV;rw[HR.out];rfl,by unfold colW;rw[HR.out];exact HO.out,HB.out⟩
  ·obtain⟨n,rfl⟩:∃n:Nat,z=n:=⟨z.toNat,by have:=zf.1 hz;omega⟩
   have Uf:n<=6:=by have:=zf.1 hz;omega
   have HS:=h_ (z1n hq hz);have CB:=ym hq;have fc:=zJ ns ls;have HZ:=h_ hz;have Mc:=h_ (fun (v:World) (hb:Below w.heap.size w v)=>z1C vn vl ns ls v (hn.below hb) (hl.below hb) hq);have Wt:=h_ (qR vn vl ns ls true _ (hn.below Hg) (hl.below Hg) hq)
   have HTB:Hid (∀base w v gs,OwnTab base w v (z9 ns ls).length gs (besW ns ls)->∃g c,v= .slice (some ⟨g,0,none⟩) (z9 ns ls).length c/\z1r w g 0 (z9 ns ls).length (adB ns ls)):=h_ (fun base w v gs h=>by
    have CO:=zW hq;have Hb:(besW ns ls).length =(z9 ns ls).length :=by unfold besW;rw[y6,CO]
    have fV:∀i,i<(z9 ns ls).length ->((besW ns ls).getD i []).length =(z9 ns ls).length :=fun i hi=>by unfold besW;rw[kr _ _ _ _ (by rw[<-CO];exact hi),CO]
    obtain⟨g,c,rfl,gD,gm⟩:=h.blk (by rw[Hb];exact CB);refine⟨g,c,by rw[h.len,Hb],gm,fun i hi=>⟨gs.getD i 0,(z3N h (by rw[Hb];exact hi)).2,?_,fun j hj=>?_⟩⟩
    ·rw[aaF];exact h.cell (by rw[Hb];exact hi)
    ·rw[h.cell2 (by rw[Hb];exact hi) (by rw[fV i hi];exact hj),z7U hq (by rw[<-CO];exact hi) (by rw[<-CO];exact hj)])
   generalize (z9 ns ls).length =F at*
   go_enter Tryz.func103,Tryz.ntmps103
   go_wp2_with fail
   refine Wt.out.mono ?_
   rintro e w1 ⟨rfl,h9⟩;have h8:=Hg.trans (h9.mono Hg.size);have Hz:=gy.below h9 gy.lt
   go_wp2_with fail
   refine(j7 _ _ _ _).mono ?_
   rintro e w' ⟨rfl,rfl⟩;rw[HZ.out];obtain⟨a_0,a_1⟩:=Hz.c2
   go_wp2_with fail
   refine(Mc.out _ h8).mono ?_
   rintro e w2 ⟨v2,gs,rfl,Hk,Hd⟩;obtain⟨g,c,rfl,r6⟩:=HTB.out _ _ _ _ Hk;have Ha:=h8.trans (Hd.mono h8.size)
   go_wp2_with fail
   refine(z56 F _ fc).mono ?_
   rintro e w3 ⟨v3,rfl,Hm,He⟩;have Hc:=Ha.trans (He.mono Ha.size);have ht3:=r6.below He;have Hw:Below w3.heap.size w3 (w3.alloc (.cells #[] 3)):=bel_
   have Hn:=Hc.trans (Hw.mono Hc.size);have HSE:=h_ (z39 F n g c (adB ns ls) v3 fc Uf F [] (.slice (some ⟨w3.heap.size,0,none⟩) 0 0) (w3.alloc (.cells #[] 3)) (by simp) ⟨ht3.below Hw,Hm.reads.below Hw⟩ (OwnI.reads (OwnI.made (base:=0) rfl (aab _))));have BQ:=h_ Hn
   go_wp2_with fail
   refine HSE.out.mono ?_
   rw[<-HS.out];rintro e w5 ⟨v5,rfl,fG,H0⟩;have Cl:=h_ (OwnI.mono fG BQ.out.size);have fX:=h_ (BQ.out.trans (H0.mono BQ.out.size));go_wp2;exact bodyPost_ret (v:= .tuple #[v5,.bool (jZ ns ls n).isSome]) (by simp[results,Tryz.results103,go_sem]) rfl ⟨_,rfl,Cl.out,fX.out⟩
attribute [local go_sem ↓] zr zt zR zQ
theorem z2b (vn vl:Value) (ns ls:List Pr) (k:Nat) (w:World) (hn:RP w vn ns) (hl:RP w vl ls) (hw:zC ns ls) (hk:k<ls.length):
  Calls Tryz.prog 260 #[.agg #[vn,vl],.int .i64 k] w fun e w'=>(∃x y:Int,e= .returned (.agg #[.int .i64 x,.int .i64 y]))/\Below w.heap.size w w':=by
 obtain⟨An,cn,rfl,Fk,GL,Hl⟩:=hn.formI;obtain⟨Al,cl,rfl,Hy,Gz,H9⟩:=hl.formI;unfold maxLen at GL Gz;have f8:=hw.2.1;have BW:=hw.1;have WP:=hw.2.2.1;obtain⟨p1,p2,p3,c1,c2,_⟩:=zZ.1 (hw.2.2.2.2.2 k hk).1;obtain⟨p,hp⟩:∃p:Nat,(ndI ls k).1=p:=⟨(ndI ls k).1.toNat,by omega⟩;obtain⟨q,hq⟩:∃q:Nat,(ndI ls k).2=q:=⟨(ndI ls k).2.toNat,by omega⟩;obtain⟨bn,offn,rfl,Gd,me⟩:=Hl o_;obtain⟨bl,offl,rfl,Hb,ng⟩:=H9 o_;obtain⟨l0,l1⟩:=ng k hk;obtain⟨a0,a1⟩:=me p o_;obtain⟨b0,b1⟩:=me q o_;rw[hp] at l0 c1;rw[hq] at l1 c2;obtain⟨d0,d1,d2,d3⟩:=zD (x:=(ndI ns (p:Int)).1) (y:=(ndI ns (p:Int)).2) c1;obtain⟨e0,e1,e2,e3⟩:=zD (x:=(ndI ns (q:Int)).1) (y:=(ndI ns (q:Int)).2) c2;generalize (ndI ns (p:Int)).1=x0 at*;generalize (ndI ns (p:Int)).2=y0 at*;generalize (ndI ns (q:Int)).1=x1 at*;generalize (ndI ns (q:Int)).2=y1 at*;have ip0:(0:Int)<=(p:Int):=o_
 have ip1:(p:Int)<(ns.length:Int):=o_
 have iq0:(0:Int)<=(q:Int):=o_
 have iq1:(q:Int)<(ns.length:Int):=o_
 have ik0:(0:Int)<=(k:Int):=o_
 have ik1:(k:Int)<(ls.length:Int):=o_
 clear hw Hl H9 ng me hp hq p1 p2 p3 c1 c2
 go_enter Tryz.func260,Tryz.ntmps260
 go_upto_region 1 with (fail)
 obtain⟨w1,F5⟩:∃v,v=(w.alloc (.cells #[.slice (some ⟨bn,offn,none⟩) ns.length cn,.slice (some ⟨bl,offl,none⟩) ls.length cl] 27)).alloc (.cells #[.int .i64 0,.int .i64 0] 106):=⟨_,rfl⟩;have GM:Blk w1 w.heap.size 27 #[.slice (some ⟨bn,offn,none⟩) ns.length cn,.slice (some ⟨bl,offl,none⟩) ls.length cl]:=F5▸(Blk.newAt rfl).alloc _;have Hx:Blk w1 (w.heap.size+1) 106 #[.int .i64 0,.int .i64 0]:=F5▸Blk.newAt (by simp);have h9:Below w.heap.size w w1:=F5▸by exact bel_
 have FQ:w1.heap.size=w.heap.size+1+1:=by rw[F5];simp
 rw[<-F5];clear F5;have m0:=(h9.cell (p:=⟨bl,offl+k*2,none⟩) Hb).trans l0;have m1:=(h9.cell (p:=⟨bn,offn+p*2,none⟩) Gd).trans a0;have m2:=(h9.cell (p:=⟨bn,offn+p*2+1,none⟩) Gd).trans a1
 refine vE (n:=11) (S:=fun w'=>w'.cell? ⟨w.heap.size,0,none⟩=some (.slice (some ⟨bn,offn,none⟩) ns.length cn)/\w'.cell? ⟨w.heap.size,1,none⟩=some (.slice (some ⟨bl,offl,none⟩) ls.length cl)/\
  w'.cell? ⟨bl,offl+k*2,none⟩=some (.int .i64 (p:Int))/\w'.cell? ⟨bn,offn+p*2,none⟩=some (.int .i64 x0)/\w'.cell? ⟨bn,offn+p*2+1,none⟩=some (.int .i64 y0)) k_ ⟨GM.cell 0,GM.cell 1,m0,m1,m2⟩ (fun hS=>?_)
 (refine zw (i:=0) (v:=?_) rfl rfl k_ k_ k_ k_ (fun _ _ _ h=>h) (Or.inl ⟨by rfl,?_⟩) (by assumption) ?_);rotate_left;(focus (intro w' gh;(try dsimp only at gh);go_simp;(try with_reducible rfl)));(try simp only[Act.put,abi,aal,aap])
 (refine zw (i:=1) (v:=?_) rfl rfl k_ k_ k_ k_ (fun _ _ _ h=>h) (Or.inl ⟨by rfl,?_⟩) (by assumption) ?_);rotate_left;(focus (intro w' gh;(try dsimp only at gh);go_simp;(try with_reducible rfl)));(try simp only[Act.put,abi,aal,aap])
 (refine zw (i:=2) (v:=?_) rfl rfl k_ k_ k_ k_ (fun _ _ _ h=>h) (Or.inl ⟨by rfl,?_⟩) (by assumption) ?_);rotate_left;(focus (intro w' gh;(try dsimp only at gh);go_simp;(try with_reducible rfl)));(try simp only[Act.put,abi,aal,aap])
 (refine zw (i:=3) (v:=?_) rfl rfl k_ k_ k_ k_ (fun _ _ _ h=>h) (Or.inl ⟨by rfl,?_⟩) (by assumption) ?_);rotate_left;(focus (intro w' gh;(try dsimp only at gh);go_simp;(try with_reducible rfl)));(try simp only[Act.put,abi,aal,aap])
 (refine zw (i:=4) (v:=?_) rfl rfl k_ k_ k_ k_ (fun _ _ _ h=>h) (Or.inl ⟨by rfl,?_⟩) (by assumption) ?_);rotate_left;(focus (intro w' gh;(try dsimp only at gh);go_simp;(try with_reducible rfl)));(try simp only[Act.put,abi,aal,aap])
 (refine zw (i:=5) (v:=?_) rfl rfl k_ k_ k_ k_ (fun _ _ _ h=>h) (Or.inl ⟨by rfl,?_⟩) (by assumption) ?_);rotate_left;(focus (intro w' gh;(try dsimp only at gh);go_simp;(try with_reducible rfl)));(try simp only[Act.put,abi,aal,aap])
 (refine zw (i:=6) (v:=?_) rfl rfl k_ k_ k_ k_ (fun _ _ _ h=>h) (Or.inl ⟨by rfl,?_⟩) (by assumption) ?_);rotate_left;(focus (intro w' gh;(try dsimp only at gh);go_simp;(try with_reducible rfl)));(try simp only[Act.put,abi,aal,aap])
 (refine zw (i:=7) (v:=?_) rfl rfl k_ k_ k_ k_ (fun _ _ _ h=>h) (Or.inl ⟨by rfl,?_⟩) (by assumption) ?_);rotate_left;(focus (intro w' gh;(try dsimp only at gh);go_simp;(try with_reducible rfl)));(try simp only[Act.put,abi,aal,aap])
 (refine zw (i:=8) (v:=?_) rfl rfl k_ k_ k_ k_ (fun _ _ _ h=>h) (Or.inl ⟨by rfl,?_⟩) (by assumption) ?_);rotate_left;(focus (intro w' gh;(try dsimp only at gh);go_simp;(try with_reducible rfl)));(try simp only[Act.put,abi,aal,aap])
 (refine zw (i:=9) (v:=?_) rfl rfl k_ k_ k_ k_ (fun _ _ _ h=>h) (Or.inl ⟨by rfl,?_⟩) (by assumption) ?_);rotate_left;(focus (intro w' gh;(try dsimp only at gh);go_simp;(try with_reducible rfl)));(try simp only[Act.put,abi,aal,aap])
 (refine qM (i:=10) rfl k_ (fun K hK=>?_));(rw[aao (by rfl)])
 go_simp;have NY:=GM;have yz:=Hx;have h8:=h9;have hsw1:=FQ;clear GM Hx h9 FQ;have NZ:=h_ ((h8.alloc (show w.heap.size<=w1.heap.size by omega) (.cells #[.int .i64 0,.int .i64 0] 106)).drew);have Ug:=((Blk.newAt (w:=w1) (g:=w.heap.size+1+1) (t:=106) (cs:= #[.int .i64 0,.int .i64 0]) o_).drew);refine hK _ _ (fun _=>⟨((NY.alloc _).drew).cell 0,((NY.alloc _).drew).cell 1,(NZ.out.cell (p:=⟨bl,offl+k*2,none⟩) Hb).trans l0,(NZ.out.cell (p:=⟨bn,offn+p*2,none⟩) Gd).trans a0,(NZ.out.cell (p:=⟨bn,offn+p*2+1,none⟩) Gd).trans a1⟩) (fun gp=>?_)
 clear hK K hS gp
 (try simp only[Act.put,abi,aal,aap])
 have cz:=Ug.cell 0;have fz:=Ug.frozen 0;simp only[abd,aah,aag] at cz
 (refine qM (i:=11) rfl k_ (fun K hK=>?_));(rw[aao (by rfl)])
 go_simp;refine hK _ _ (fun h=>absurd rfl h) (fun _=>?_)
 clear hK K cz fz NZ Ug
 (try simp only[Act.put,abi,aal,aap])
 refine kX k_ ?_ _
 obtain⟨w2,gR⟩:∃v,v=(w1.alloc (.cells #[.int .i64 x0,.int .i64 y0] 106)).drew :=⟨_,rfl⟩;have nj:Blk w2 w.heap.size 27 #[.slice (some ⟨bn,offn,none⟩) ns.length cn,.slice (some ⟨bl,offl,none⟩) ls.length cl]:=gR▸(NY.alloc _).drew;have yG:Blk w2 (w.heap.size+1) 106 #[.int .i64 0,.int .i64 0]:=gR▸(yz.alloc _).drew;have yH:Blk w2 (w.heap.size+1+1) 106 #[.int .i64 x0,.int .i64 y0]:=gR▸(Blk.newAt o_).drew;have Ha:Below w.heap.size w w2:=gR▸(h8.alloc (show w.heap.size<=w1.heap.size by omega) _).drew;have hsw2:w2.heap.size=w.heap.size+1+1+1:=by rw[gR];simp;omega
 go_upto_region 2 with (fail)
 try rw[<-gR]
 clear gR NY yz m0 m1 m2 h8 hsw1;have m0:=(Ha.cell (p:=⟨bl,offl+k*2+1,none⟩) Hb).trans l1;have m1:=(Ha.cell (p:=⟨bn,offn+q*2,none⟩) Gd).trans b0;have m2:=(Ha.cell (p:=⟨bn,offn+q*2+1,none⟩) Gd).trans b1
 refine vE (n:=11) (S:=fun w'=>w'.cell? ⟨w.heap.size,0,none⟩=some (.slice (some ⟨bn,offn,none⟩) ns.length cn)/\w'.cell? ⟨w.heap.size,1,none⟩=some (.slice (some ⟨bl,offl,none⟩) ls.length cl)/\
  w'.cell? ⟨bl,offl+k*2+1,none⟩=some (.int .i64 (q:Int))/\w'.cell? ⟨bn,offn+q*2,none⟩=some (.int .i64 x1)/\w'.cell? ⟨bn,offn+q*2+1,none⟩=some (.int .i64 y1)) k_ ⟨nj.cell 0,nj.cell 1,m0,m1,m2⟩ (fun hS=>?_)
 (refine zw (i:=0) (v:=?_) rfl rfl k_ k_ k_ k_ (fun _ _ _ h=>h) (Or.inl ⟨by rfl,?_⟩) (by assumption) ?_);rotate_left;(focus (intro w' gh;(try dsimp only at gh);go_simp;(try with_reducible rfl)));(try simp only[Act.put,abi,aal,aap])
 (refine zw (i:=1) (v:=?_) rfl rfl k_ k_ k_ k_ (fun _ _ _ h=>h) (Or.inl ⟨by rfl,?_⟩) (by assumption) ?_);rotate_left;(focus (intro w' gh;(try dsimp only at gh);go_simp;(try with_reducible rfl)));(try simp only[Act.put,abi,aal,aap])
 (refine zw (i:=2) (v:=?_) rfl rfl k_ k_ k_ k_ (fun _ _ _ h=>h) (Or.inl ⟨by rfl,?_⟩) (by assumption) ?_);rotate_left;(focus (intro w' gh;(try dsimp only at gh);go_simp;(try with_reducible rfl)));(try simp only[Act.put,abi,aal,aap])
 (refine zw (i:=3) (v:=?_) rfl rfl k_ k_ k_ k_ (fun _ _ _ h=>h) (Or.inl ⟨by rfl,?_⟩) (by assumption) ?_);rotate_left;(focus (intro w' gh;(try dsimp only at gh);go_simp;(try with_reducible rfl)));(try simp only[Act.put,abi,aal,aap])
 (refine zw (i:=4) (v:=?_) rfl rfl k_ k_ k_ k_ (fun _ _ _ h=>h) (Or.inl ⟨by rfl,?_⟩) (by assumption) ?_);rotate_left;(focus (intro w' gh;(try dsimp only at gh);go_simp;(try with_reducible rfl)));(try simp only[Act.put,abi,aal,aap])
 (refine zw (i:=5) (v:=?_) rfl rfl k_ k_ k_ k_ (fun _ _ _ h=>h) (Or.inl ⟨by rfl,?_⟩) (by assumption) ?_);rotate_left;(focus (intro w' gh;(try dsimp only at gh);go_simp;(try with_reducible rfl)));(try simp only[Act.put,abi,aal,aap])
 (refine zw (i:=6) (v:=?_) rfl rfl k_ k_ k_ k_ (fun _ _ _ h=>h) (Or.inl ⟨by rfl,?_⟩) (by assumption) ?_);rotate_left;(focus (intro w' gh;(try dsimp only at gh);go_simp;(try with_reducible rfl)));(try simp only[Act.put,abi,aal,aap])
 (refine zw (i:=7) (v:=?_) rfl rfl k_ k_ k_ k_ (fun _ _ _ h=>h) (Or.inl ⟨by rfl,?_⟩) (by assumption) ?_);rotate_left;(focus (intro w' gh;(try dsimp only at gh);go_simp;(try with_reducible rfl)));(try simp only[Act.put,abi,aal,aap])
 (refine zw (i:=8) (v:=?_) rfl rfl k_ k_ k_ k_ (fun _ _ _ h=>h) (Or.inl ⟨by rfl,?_⟩) (by assumption) ?_);rotate_left;(focus (intro w' gh;(try dsimp only at gh);go_simp;(try with_reducible rfl)));(try simp only[Act.put,abi,aal,aap])
 (refine zw (i:=9) (v:=?_) rfl rfl k_ k_ k_ k_ (fun _ _ _ h=>h) (Or.inl ⟨by rfl,?_⟩) (by assumption) ?_);rotate_left;(focus (intro w' gh;(try dsimp only at gh);go_simp;(try with_reducible rfl)));(try simp only[Act.put,abi,aal,aap])
 (refine qM (i:=10) rfl k_ (fun K hK=>?_));(rw[aao (by rfl)])
 go_simp;have N5:=h_ ((Ha.alloc (show w.heap.size<=w2.heap.size by omega) (.cells #[.int .i64 0,.int .i64 0] 106)).drew);have Uh:=((Blk.newAt (w:=w2) (g:=w.heap.size+1+1+1) (t:=106) (cs:= #[.int .i64 0,.int .i64 0]) o_).drew);refine hK _ _ (fun _=>⟨((nj.alloc _).drew).cell 0,((nj.alloc _).drew).cell 1,(N5.out.cell (p:=⟨bl,offl+k*2+1,none⟩) Hb).trans l1,(N5.out.cell (p:=⟨bn,offn+q*2,none⟩) Gd).trans b0,(N5.out.cell (p:=⟨bn,offn+q*2+1,none⟩) Gd).trans b1⟩) (fun gp=>?_)
 clear hK K hS gp
 (try simp only[Act.put,abi,aal,aap])
 have cz:=Uh.cell 0;have fz:=Uh.frozen 0;simp only[abd,aah,aag] at cz
 (refine qM (i:=11) rfl k_ (fun K hK=>?_));(rw[aao (by rfl)])
 go_simp;refine hK _ _ (fun h=>absurd rfl h) (fun _=>?_)
 clear hK K cz fz N5 Uh
 (try simp only[Act.put,abi,aal,aap])
 refine kX k_ ?_ _
 obtain⟨w3,GT⟩:∃v,v=(w2.alloc (.cells #[.int .i64 x1,.int .i64 y1] 106)).drew :=⟨_,rfl⟩;have Ui:Blk w3 (w.heap.size+1) 106 #[.int .i64 0,.int .i64 0]:=GT▸(yG.alloc _).drew;have yW:Blk w3 (w.heap.size+1+1+1) 106 #[.int .i64 x1,.int .i64 y1]:=GT▸(Blk.newAt o_).drew;have yX:Blk w3 (w.heap.size+1+1) 106 #[.int .i64 x0,.int .i64 y0]:=GT▸(yH.alloc _).drew;have Hc:Below w.heap.size w w3:=GT▸(Ha.alloc (show w.heap.size<=w2.heap.size by omega) _).drew
 go_upto_region 3 with (fail)
 try rw[<-GT]
 clear GT nj yG yH Ha hsw2 m0 m1 m2;obtain⟨n_0,n_1⟩:=yX.c2;obtain⟨o_0,o_1⟩:=yW.c2;obtain⟨r_0,r_1,r_f0,r_f1⟩:=Ui.b2;have Gw:=Ui.lt;have Mc:=h_ (fun u0 u1=>(Hc.setCell (p:=⟨w.heap.size+1,0,none⟩) (Nat.le_succ _) u0).setCell (p:=⟨w.heap.size+1,1,none⟩) (Nat.le_succ _) u1);clear yX yW Ui Hc;go_wp2;exact bodyPost_ret (v:= .agg #[.int .i64 _,.int .i64 _]) (by simp[results,Tryz.results260,go_sem,r_0,r_1,Gw];exact⟨rfl,rfl⟩) rfl ⟨⟨_,_,rfl⟩,Mc.out _ _⟩
end Go.Proofs.YtnjcpljhmhdhkaaGreat
