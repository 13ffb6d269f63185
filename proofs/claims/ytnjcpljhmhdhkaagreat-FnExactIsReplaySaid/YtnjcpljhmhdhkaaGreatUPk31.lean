/- part 31 -/
import Derived.Test.YtnjcpljhmhdhkaaGreatUPk30
import Derived.Laws.EntriesVeiled
import Derived.Deep.RegionHeld3
set_option linter.unusedSimpArgs false
set_option linter.unusedVariables false
set_option maxRecDepth 100000
set_option maxHeartbeats 16000000
namespace Go.Proofs.YtnjcpljhmhdhkaaGreat
open Go.RowKit
def Tw (bC gO:Nat) (k:Nat):Prop:=k=bC∨k=gO
structure Fx (bC gO:Nat) (w:World) (g o:Nat) (v:Value):Prop where
 lt:g<w.heap.size
 nc:g≠bC
 no:g≠gO
 at_:w.cell? ⟨g,o,none⟩=some v
theorem Fx.turned {bC gO:Nat} {w w':World} {g o:Nat} {v:Value} (h:Fx bC gO w g o v) (ht:Turns (Tw bC gO) w w'):Fx bC gO w' g o v:=
 ⟨aaE h.lt ht.size,h.nc,h.no,(jH (ht.block g h.lt (fun e=>e.elim h.nc h.no))).trans h.at_⟩
theorem z9a (v:Value) (L:List Int) (gO:Nat) (w:World) (h:RI w v L) (hle:L.length<=40) (hO:Blk w gO 31 #[.slice none 0 0]):
  Calls Tryz.prog 237 #[v,.pointer (some ⟨gO,0,none⟩)] w fun e w'=>e= .returned (.bool true)/\∃u,Blk w' gO 31 #[u]/\OwnI w.heap.size w' u L/\w.grownBy w' (some gO):=by
 have hOl:=hO.lt;have HO:=h_ hO
 go_enter Tryz.func237,Tryz.ntmps237
 go_wp2_with fail
 refine(kx v L _ h o_).mono ?_
 rintro e w1 ⟨u,rfl,Hj,h9⟩;obtain⟨Au,cu,rfl⟩:=OwnE.form (t:=3) (enc:=vI) Hj;have Gi:=HO.out.below h9 hOl;have q0:w1.cell? ⟨gO,0,none⟩=some (.slice none 0 0):=Gi.cell 0;have q1:w1.frozen? ⟨gO,0,none⟩=false:=Gi.frozen 0;have HB:=h_ (Gi.set_ 0 (.slice Au L.length cu));have HL:=h_ (OwnI.far Hj (qs (qt w1 (some gO)) 0 (.slice Au L.length cu)) (fun k hk=>by cases hk;exact hOl));have HG:=h_ (qs (g:=gO) (yM (qt w (some gO)) h9) 0 (.slice Au L.length cu));go_wp2;go_ret
 exact⟨rfl,_,HB.out,HL.out,HG.out⟩
structure PutI (bC gO gC gT gN gW gA gP bW oW cW bA oA cA F n:Nat) (near:Nat->Nat) (w:World):Prop where
 C:Fx bC gO w gC 0 (.slice (some ⟨bC,0,none⟩) F F)
 T:Fx bC gO w gT 0 (.func (.func 237) #[] #[.pointer (some ⟨gO,0,none⟩)])
 N:Fx bC gO w gN 0 (.int .i64 n)
 W:Fx bC gO w gW 0 (.slice (some ⟨bW,oW,none⟩) F cW)
 A:Fx bC gO w gA 0 (.slice (some ⟨bA,oA,none⟩) F cA)
 P:Fx bC gO w gP 0 (.func (.func 257) #[] #[.pointer (some ⟨gC,0,none⟩),.pointer (some ⟨gT,0,none⟩),.pointer (some ⟨gN,0,none⟩),.pointer (some ⟨gW,0,none⟩),.pointer (some ⟨gA,0,none⟩),.pointer (some ⟨gP,0,none⟩)])
 w_:∀k,k<F->Fx bC gO w bW (oW+k) (.int .i64 (-1))
 a_:∀k,k<F->Fx bC gO w bA (oA+k) (.int .i64 (near k:Nat))
theorem PutI.turned {bC gO gC gT gN gW gA gP bW oW cW bA oA cA F n:Nat} {near:Nat->Nat} {w w':World} (h:PutI bC gO gC gT gN gW gA gP bW oW cW bA oA cA F n near w) (ht:Turns (Tw bC gO) w w'):
  PutI bC gO gC gT gN gW gA gP bW oW cW bA oA cA F n near w':=
 ⟨h.C.turned ht,h.T.turned ht,h.N.turned ht,h.W.turned ht,h.A.turned ht,h.P.turned ht,fun k hk=>(h.w_ k hk).turned ht,fun k hk=>(h.a_ k hk).turned ht⟩
def PutQ (base bC gO F:Nat) (hd:List Int) (o:Option (List Int)) (w:World) (e:Ending) (w':World):Prop:=
 ∃b:Bool,e= .returned (.bool b)/\Turns (Tw bC gO) w w'/\(∃cs,OwnI base w' (.slice (some ⟨bC,0,none⟩) F F) cs/\cs.take hd.length=hd)/\
  ((b=false/\o=none/\Blk w' gO 31 #[.slice none 0 0])∨(b=true/\∃L u,o=some L/\Blk w' gO 31 #[u]/\OwnI w.heap.size w' u L))
theorem z8a {cs hd:List Int} (h:cs.take hd.length=hd) {i:Nat} (hi:i<hd.length):cs.getD i 0=hd.getD i 0:=by
 rw[<-h,aa7,aa7,List.getElem?_take];rw[aao hi]
theorem z8A {cs hd:List Int} (h:cs.take hd.length=hd) (hl:hd.length<cs.length) (x:Int):(cs.set hd.length x).take (hd++[x]).length =hd++[x]:=by
 rw[aaX,aa9,aax (by simpa using hl)];rw[List.take_set_of_le (aaa _),h];simp
theorem z7N {cs hd:List Int} {x:Int} (h:cs.take (hd++[x]).length =hd++[x]):cs.take hd.length=hd:=by
 have e:=congrArg (List.take hd.length) h;rw[List.take_take,aaX,aa9,Nat.min_eq_left o_,List.take_left'] at e
 ·exact e
 ·rfl
theorem zad (base bC gO gC gT gN gW gA gP bW oW cW bA oA cA F n:Nat) (near:Nat->Nat) (adj:Nat->Nat->Bool) (rj:∀g f,g<F->f<F->(near f).testBit g=adj g f) (Hd:∀f,f<F->near f<2^40) (hF:F<=40) (hn:n<=6) (hCO:bC≠gO):
  ∀(r:Nat) (hd cs:List Int) (z:Int) (w:World),z=hd.length->hd.length+r=F->PutI bC gO gC gT gN gW gA gP bW oW cW bA oA cA F n near w->OwnI base w (.slice (some ⟨bC,0,none⟩) F F) cs->cs.take hd.length=hd->Blk w gO 31 #[.slice none 0 0]->
   Calls Tryz.prog 257 #[.int .i64 z,.pointer (some ⟨gC,0,none⟩),.pointer (some ⟨gT,0,none⟩),.pointer (some ⟨gN,0,none⟩),.pointer (some ⟨gW,0,none⟩),.pointer (some ⟨gA,0,none⟩),.pointer (some ⟨gP,0,none⟩)] w
    (PutQ base bC gO F hd (srch adj (noW F) n r hd) w):=by
 intro r
 induction r with
 |zero=>
  intro hd cs z w hz hl hP hC Gu hO;subst hz;have Yq:cs.length=F:=by have:=OwnE.len (t:=3) (enc:=vI) hC;omega
  have W8:cs=hd:=by
   rw[show hd.length=cs.length by omega,aaB] at Gu;exact Gu
  subst W8;have HR:Hid (srch adj (noW F) n 0 cs=some cs):=h_ rfl;have c0:=hP.C.at_;have c1:=hP.T.at_;have HT:=h_ (z9a _ cs gO w hC.reads o_ hO);have HC:=h_ hC;clear hP hO hC rj Hd Gu
  go_enter Tryz.func257,Tryz.ntmps257
  go_wp2_with fail
  refine HT.out.mono ?_
  rintro e w1 ⟨rfl,u,Gi,Hj,fF⟩;have HC1:=h_ (zQ (S:=fun k=>k=gO) HC.out (Turns.ofGrown fF (fun k hk=>by cases hk;rfl)) (fun k hk e=>by cases hk;exact hCO e));have HQ:Hid (Turns (Tw bC gO) w w1):=h_ (Turns.ofGrown fF (fun k hk=>by cases hk;exact .inr rfl));have Bh:=h_ Gi;have Ho1:=h_ Hj;clear Gi Hj fF;go_wp2;go_ret
  exact⟨true,rfl,HQ.out,⟨cs,HC1.out,aaB⟩,.inr ⟨rfl,cs,u,HR.out,Bh.out,Ho1.out⟩⟩
 |succ r ih=>
  intro hd cs z w hz hl hP hC Gu hO;obtain⟨k,hk⟩:∃k,hd.length=k:=⟨_,rfl⟩;have MR:k<F:=o_
  have e1:((k:Int)==(F:Int))=false:=beq_eq_false_iff_ne.2 o_;have Uu:=h_ (fun (x:Nat) h=>z8y (adj:=adj) (gv:=noW F) (n:=n) (r:=r) (hd:=hd) (x:=x) h);have HFG:=h_ (fun (x:Nat) h1 h2=>z8U (adj:=adj) (gv:=noW F) (n:=n) (r:=r) (hd:=hd) (x:=x) h1 h2);have HHI:=h_ (fun (x:Nat) (L:List Int) hx hp h=>z3l (adj:=adj) (gv:=noW F) (n:=n) (r:=r) (hd:=hd) (L:=L) (x:=x) hx hp h);have HMI:=h_ (fun hp=>z1s (adj:=adj) (gv:=noW F) (n:=n) (r:=r) (hd:=hd) hp);have Yd:=h_ (fun (x:Int) (i:Nat)=>z2V (adj:=adj) (hd:=hd) (k:=k) (x:=x) (i:=i));have HOA:Hid (∀x:Int,okP adj hd k x k=okC adj hd k x):=h_ (fun _=>rfl);have Yk:Hid (∀x:Int,okP adj hd k x 0=true):=h_ (fun _=>rfl);have HWY:Hid (∀x:Int,JA (noW F) k x=true):=h_ (fun x=>z8D MR);have HTG:=h_ (fun (cs:List Int) (h:cs.take hd.length=hd) (i:Nat) (hi:i<hd.length)=>z8a h hi);have UW:=h_ (fun (cs:List Int) (h:cs.take hd.length=hd) (hl:hd.length<cs.length) (x:Int)=>z8A h hl x);have HTL:=h_ (fun (cs:List Int) (x:Int) (h:cs.take (hd++[x]).length =hd++[x])=>z7N h);have HLX:Hid (∀x:Int,(hd++[x]).length =k+1):=h_ (fun x=>by simp[hk]);have HIH:=h_ ih;have HLR:Hid (∀x:Int,(hd++[x]).length +r=F):=h_ (fun x=>by simp;omega)
  have HP:=h_ hP;have ru:=h_ (fun i (hi:i<F)=>rj i k hi MR);have hnk:=Hd k MR;have HKK:=h_ hk;unfold PutQ;rw[hk] at Uu HFG HTG UW HTL;rw[hz,hk];generalize srch adj (noW F) n (r+1) hd=RR at*;have hcs':cs.take k=hd:=by rw[<-hk];exact Gu
  clear hP ih hl Gu rj Hd hz;have ik1:(0:Int)<=(k:Int):=o_
  have ik2:(k:Int)<(F:Int):=o_
  have c0:=HP.out.C.at_
  go_enter Tryz.func257,Tryz.ntmps257
  go_wp2;clear c0
  go_loopw [9] (fun s wr=>∃x:Nat,x<=n/\s= .int .i64 x/\Hid (∀y,y<x->srF adj (noW F) n r hd y=none)/\Turns (Tw bC gO) w wr/\(∃cs,OwnI base wr (.slice (some ⟨bC,0,none⟩) F F) cs/\Hid (cs.take k=hd))/\Blk wr gO 31 #[.slice none 0 0]) (fun s _=>n -(intOf s).toNat)
  case atStart=>exact⟨0,aab _,rfl,h_ (fun y hy=>absurd hy o_),Turns.refl _ _,⟨cs,hC,h_ hcs'⟩,hO⟩
  case round=>
   clear hC hO hcs';obtain⟨x,hxn,rfl,uK,ht,⟨ds,hC,YU⟩,hO⟩:=hrel;have mg:=HP.out.turned ht;have c0:=mg.C.at_;have c2:=mg.N.at_;have c3:=mg.W.at_;have c4:=mg.A.at_;have c5:=mg.P.at_;have l0:=mg.C.lt;have l2:=mg.N.lt;have l3:=mg.W.lt;have l4:=mg.A.lt;have l5:=mg.P.lt;have w1:=(mg.w_ k MR).at_;have w2:=(mg.w_ k MR).lt;have a1:=(mg.a_ k MR).at_;have a2:=(mg.a_ k MR).lt;have Yq:ds.length=F:=by have:=OwnE.len (t:=3) (enc:=vI) hC;omega
   have hCl:=(OwnI.lt hC bC rfl).2
   by_cases Hd:x<n
   ·have Hr:(x:Int)<(n:Int):=o_
    have Ce:=h_ hC;have HOO:=h_ hO;have HTT:=h_ ht;have nC:=h_ mg;clear hC hO ht mg;go_wp2;obtain⟨wq,cI⟩:∃u,u=wr:=⟨_,rfl⟩;rw[<-cI]
    go_loopw [10,11] (fun s t w2=>∃i:Nat,i<=k/\t= .int .i64 i/\s= .bool (okP adj hd k x i)/\w2=wr) (fun _ t _=>k -(intOf t).toNat)
    case atStart=>exact⟨0,aab _,rfl,by rw[Yk.out],cI⟩
    case round=>
     clear cI wq;obtain⟨i,U2,rfl,rfl,rfl⟩:=hrel
     by_cases Fm:i<k
     ·have hil1:(i:Int)<(k:Int):=o_
      have ii1:(0:Int)<=(i:Int):=o_
      have ii2:(i:Int)<(F:Int):=o_
      have x0:=OwnE.cell (t:=3) (enc:=vI) Ce.out 0 (q:=i) o_;rw[HTG.out ds YU.out i Fm] at x0;have x0':wr.cell? ⟨bC,i,none⟩=some (.int .i64 (hd.getD i 0)):=x0;have bt:=Zo (s:=near k) (k:=i) o_;rw[ru.out i o_] at bt;have h64:i<64:=o_
      have HS:=h_ (Yd.out x i);clear x0;generalize adj i k=a at*;generalize hd.getD i 0=h at*;generalize okP adj hd k x i=o at*;generalize near k=nk at*
      cases o
      ·clear bt
       go_wp2;go_roundw
       case rel=>exact⟨i+1,by omega,by go_num,by rw[HS.out];rfl,by trivial⟩
       case measure=>simp[intOf];omega
      ·cases a
       ·have bt':bits .and .i64 ((nk:Int)/2^i) 1=0:=bt
        clear bt;go_wp2;go_roundw
        case rel=>exact⟨i+1,by omega,by go_num,by rw[HS.out];rfl,by trivial⟩
        case measure=>simp[intOf];omega
       ·have bt':bits .and .i64 ((nk:Int)/2^i) 1=1:=bt
        clear bt
        by_cases he:h=(x:Int)
        ·have e2:(h==(x:Int))=true:=beq_iff_eq.2 he
         have e3:(h != (x:Int))=false:=by rw[bne,e2];rfl
         rw[e2] at HS;clear he;go_wp2;go_roundw
         case rel=>exact⟨i+1,by omega,by go_num,by rw[HS.out];rfl,by trivial⟩
         case measure=>simp[intOf];omega
        ·have e2:(h==(x:Int))=false:=beq_eq_false_iff_ne.2 he
         have e3:(h != (x:Int))=true:=by rw[bne,e2];rfl
         rw[e2] at HS;clear he;go_wp2;go_roundw
         case rel=>exact⟨i+1,by omega,by go_num,by rw[HS.out];rfl,by trivial⟩
         case measure=>simp[intOf];omega
     ·have NF:i=k:=o_
      subst NF;rw[HOA.out];have HFO1:=h_ (Uu.out x);have HFG1:=h_ (HFG.out x (HWY.out x));generalize okC adj hd i (x:Int)=o at*
      cases o
      ·have HX:=h_ (HFO1.out rfl)
       have FN:=h_ (QC uK.out HX.out);go_wp2;go_roundw
       case rel=>exact⟨x+1,by omega,by go_num,FN,HTT.out,⟨ds,Ce.out,YU⟩,HOO.out⟩
       case measure=>simp[intOf];omega
      ·have HX:=h_ (HFG1.out rfl)
       have hC2:=kl Ce.out i x;have CS:Turns (Tw bC gO) wr (wr.setCell ⟨bC,i,none⟩ (.int .i64 x)):=Turns.ofGrown (qs (g:=bC) (qt wr (some bC)) i (.int .i64 x)) (fun k hk=>by cases hk;exact .inl rfl);have Cd:Blk (wr.setCell ⟨bC,i,none⟩ (.int .i64 x)) gO 31 #[.slice none 0 0]:=HOO.out.far (p:=⟨bC,i,none⟩) (show gO≠bC from fun e=>hCO e.symm) _;have hP2:=nC.out.turned CS;have mh:=h_ (HIH.out (hd++[(x:Int)]) (ds.set i x) ((i:Int)+1) (wr.setCell ⟨bC,i,none⟩ (.int .i64 x)) (by rw[HLX.out];omega) (HLR.out _) hP2 hC2 (UW.out ds YU.out o_ x) Cd);have UV:=h_ (HTT.out.trans CS);have fz:=OwnE.frz (t:=3) (enc:=vI) Ce.out i;have xz:=OwnE.cell (t:=3) (enc:=vI) Ce.out 0 (q:=i) o_;obtain⟨zz,Yo⟩:∃z,wr.cell? ⟨bC,i,none⟩=some z:=⟨_,xz⟩;have d5:¬gP=bC:=nC.out.P.nc;clear hC2 CS Cd hP2 xz
       go_wp2_with fail
       refine mh.out.mono ?_
       rintro e w5 ⟨b,rfl,U8,⟨es,hC5,hes⟩,h5⟩;have HES:=h_ (HTL.out es x hes);have HT5:=h_ (UV.out.trans U8)
       rcases h5 with ⟨rfl,hn5,Bw⟩|⟨rfl,L,u,hL5,Bw,hu5⟩
       ·have HP3:=h_ (QC uK.out (HX.out.trans hn5))
        have Ue:=h_ hC5;have BR:=h_ Bw;clear hC5 Bw U8 hes mh;go_wp2;go_roundw
        case rel=>exact⟨x+1,by omega,by go_num,HP3,HT5.out,⟨es,Ue.out,HES⟩,BR.out⟩
        case measure=>simp[intOf];omega
       ·have HR:=h_ (HHI.out x L Hd uK.out (HX.out.trans hL5))
        have Ue:=h_ hC5;have BR:=h_ Bw;have HU5:=h_ (OwnI.mono hu5 (show w.heap.size<=(wr.setCell ⟨bC,i,none⟩ (.int .i64 x)).heap.size from UV.out.size));clear hC5 Bw U8 hes hu5 mh;go_wp2;go_ret
        exact⟨true,rfl,HT5.out,⟨es,Ue.out,HES.out⟩,.inr ⟨rfl,L,u,HR.out,BR.out,HU5.out⟩⟩
   ·have hxx:x=n:=o_
    subst hxx;have HR:=h_ (HMI.out uK.out);have HQ:Hid (PutQ base bC gO F hd RR w (.returned (.bool false)) wr):=h_ ⟨false,rfl,ht,⟨ds,hC,by have:=YU.out;rw[HKK.out];exact this⟩,.inl ⟨rfl,HR.out,hO⟩⟩;clear hC hO ht mg;go_wp2;go_ret
    have:=HQ.out;unfold PutQ at this;rw[HKK.out] at this;exact this
noncomputable def colW (ns ls:List Pr) (n:Int):List Int:=(yb ns ls n).getD []
noncomputable def xC (ns ls:List Pr) (n:Int):Bool:=(yb ns ls n).isSome
theorem ZG {ns ls:List Pr} {n:Int} (h:zf ns ls=false∨inB n 1 6=false):yb ns ls n=none:=by
 unfold yb
 rcases h with h|h
 ·rw[h];rfl
 ·rw[h,Bool.and_false];rfl
theorem z4n {ns ls:List Pr} {n:Nat} (h1:zf ns ls=true) (h2:inB n 1 6=true):yb ns ls n=srch (adB ns ls) (noW (z9 ns ls).length) n (z9 ns ls).length []:=by
 unfold yb;rw[h1,h2,zE h1];rfl
theorem zb7 (F:Nat):vi (noW F) (-1) 5=true:=by
 rw[jS];intro j hj;rw[ZH] at hj;rw[z1W hj];decide
def noK (F k:Nat):List Int:=List.replicate k (-1)++List.replicate (F -k) 0
theorem z83 (F:Nat):noK F 0=List.replicate F 0:=by simp[noK]
theorem zaf (F:Nat):noK F F=noW F:=by simp[noK,noW]
theorem z8J {F k:Nat} (h:k<F):(noK F k).set k (-1)=noK F (k+1):=by
 unfold noK;rw[aan,aaq (by simp),aaD,aae,show F -k=(F -(k+1))+1 by omega,List.replicate_succ,aal,List.replicate_succ' (n:=k),aay];rfl
theorem zai {F k:Nat} (h:k<=F):(noK F k).length =F:=by simp[noK];omega
theorem z4j (vn vl:Value) (ns ls:List Pr) (w:World) (hn:RP w vn ns) (hl:RP w vl ls):
  Calls Tryz.prog 183 #[.agg #[vn,vl]] w (RetI (noW (z9 ns ls).length) w):=by
 have Hg:Below w.heap.size w (w.alloc (.cells #[vn,vl] 27)):=bel_
 obtain⟨i0,hi,iz0,iz1,iz2⟩:=info_parts ql;have GB:=zq ns ls
 go_enter Tryz.func183,Tryz.ntmps183
 go_wp2_with fail
 refine(jP _ _ ns ls _ (hn.below Hg) (hl.below Hg)).mono ?_
 rintro e w1 ⟨v1,rfl,Hj,h9⟩;have h8:=Hg.trans (h9.mono Hg.size);obtain⟨A1,c1,rfl⟩:=Hj.form;generalize (z9 ns ls).length =F at*
 go_wp2_with (at_make;refine wpList_make_full _ rfl _ _ 31 rfl w.heap.size 3 i0 (.int .i64 0) 1 Tryz.underlying31 hi iz0 iz1 .i64 .i64 _ _ F rfl rfl rfl rfl (by rw[iz2];omega) (by unfold maxLen;omega) (by have:=h8.size;omega) ?_)
 intro w3 Hz gQ;have GZ:Below w1.heap.size w1 w3:=(aaj _ _).grown gQ (aaa _) (by intro k hk;cases hk);have Hc:=h8.trans (GZ.mono h8.size)
 have fI:OwnI w.heap.size w3 (.slice (some ⟨w1.heap.size,0,none⟩) F F) (noK F 0):=by
  rw[z83];unfold OwnI;rw[aaD,<-z2S];exact Hz
 have H8:=h8.size;generalize w1.heap.size=gs at*;go_wp2
 go_loopw [11] (fun x wr=>∃k:Nat,k<=F/\x= .int .i64 k/\OwnI w.heap.size wr (.slice (some ⟨gs,0,none⟩) F F) (noK F k)/\Below w.heap.size w wr) (fun x _=>F -(intOf x).toNat)
 case atStart=>exact⟨0,aab _,rfl,fI,Hc⟩
 case round=>
  obtain⟨k,hk,rfl,ho,hB⟩:=hrel
  by_cases Hd:k<F
  ·have Hr:(k:Int)<(F:Int):=o_
   have ik1:(0:Int)<=(k:Int):=o_
   have hx:=OwnE.cell (t:=3) (enc:=vI) ho 0 (q:=k) (by rw[zai hk];exact Hd);obtain⟨z,hz⟩:∃z,wr.cell? ⟨gs,k,none⟩=some z:=⟨_,hx⟩;have fz:=OwnE.frz (t:=3) (enc:=vI) ho k;have HO:=h_ (show OwnI w.heap.size (wr.setCell ⟨gs,k,none⟩ (.int .i64 (-1))) (.slice (some ⟨gs,0,none⟩) F F) (noK F (k+1)) by rw[<-z8J Hd];exact kl ho k (-1));have HB:=h_ (hB.setCell (p:=⟨gs,k,none⟩) H8 (.int .i64 (-1)));go_wp2;go_roundw
   case rel=>exact⟨k+1,by omega,by go_num,HO.out,HB.out⟩
   case measure=>simp[intOf];omega
  ·have Hw:k=F:=o_
   subst Hw;rw[zaf] at ho;go_wp2;go_ret
   exact⟨_,rfl,ho,hB⟩
theorem xG (vn vl vw:Value) (ns ls:List Pr) (w:World) (hn:RP w vn ns) (hl:RP w vl ls) (hw:RI w vw (noW (z9 ns ls).length)):
  CB_ 235 #[.agg #[vn,vl],vw] w (.bool (zf ns ls)):=by
 have Hg:Below w.heap.size w (w.alloc (.cells #[vn,vl] 27)):=bel_
 have gD:Blk (w.alloc (.cells #[vn,vl] 27)) w.heap.size 27 #[vn,vl]:=Blk.newAt rfl;obtain⟨Aw,cw,rfl,wi,hmw,_⟩:=hw.form;rw[ZH] at*;have Uc:=h_ (zb7 (z9 ns ls).length);have HW:=h_ hw
 cases hq:zf ns ls
 ·go_enter Tryz.func235,Tryz.ntmps235
  go_wp2_with fail
  refine(j5 _ _ ns ls _ _ (hn.below Hg) (hl.below Hg) hq).mono ?_
  rintro e w1 ⟨rfl,h9⟩;have h8:=Hg.trans (h9.mono Hg.size);go_wp2;go_ret
  exact⟨rfl,h8⟩
 ·go_enter Tryz.func235,Tryz.ntmps235
  go_wp2_with fail
  refine(j5 _ _ ns ls _ _ (hn.below Hg) (hl.below Hg) hq).mono ?_
  rintro e w1 ⟨rfl,h9⟩;have h8:=Hg.trans (h9.mono Hg.size);have gg:=gD.below h9 gD.lt;obtain⟨a_0,a_1⟩:=gg.c2
  go_wp2_with fail
  refine(jP _ _ ns ls _ (hn.below h8) (hl.below h8)).mono ?_
  rintro e w2 ⟨v2,rfl,Hm,He⟩;obtain⟨A2,c2,rfl⟩:=Hm.form;have Ha:=h8.trans (He.mono h8.size)
  go_wp2_with fail
  refine(z0V _ _ (-1) 5 _ (HW.out.below Ha)).mono ?_
  rintro e w' ⟨rfl,rfl⟩;rw[Uc.out];go_wp2;go_ret
  exact⟨rfl,Ha⟩
theorem z77 {w:World} {b o F c:Nat} (h:RI w (.slice (some ⟨b,o,none⟩) F c) (noW F)) (hF:0<F):b<w.heap.size/\∀k,k<F->w.cell? ⟨b,o+k,none⟩=some (.int .i64 (-1)):=by
 obtain⟨Aw,cw,he,_,_,wi⟩:=h.form;rw[ZH] at wi;obtain⟨bw',ow',hA,hbW,hcw2⟩:=wi hF
 injection he with he1 _ _
 rw[<-he1] at hA
 injection hA with hA
 injection hA with fc Fn _
 subst fc;subst Fn;exact⟨hbW,fun k hk=>by rw[hcw2 k hk,z1W hk]⟩
theorem z7o (vn vl:Value) (ns ls:List Pr) (bW oW cW n gO:Nat) (w:World) (hn:RP w vn ns) (hl:RP w vl ls) (hw:zf ns ls=true) (hn6:n<=6)
  (hcW:(z9 ns ls).length <=cW) (hW:RI w (.slice (some ⟨bW,oW,none⟩) (z9 ns ls).length cW) (noW (z9 ns ls).length)) (hO:Blk w gO 31 #[.slice none 0 0]):
  Calls Tryz.prog 236 #[.agg #[vn,vl],.slice (some ⟨bW,oW,none⟩) (z9 ns ls).length cW,.int .i64 n,.func (.func 237) #[] #[.pointer (some ⟨gO,0,none⟩)]] w fun e w'=>
   e= .returned (.tuple #[])/\∃u,Blk w' gO 31 #[u]/\OwnI w.heap.size w' u ((srch (adB ns ls) (noW (z9 ns ls).length) n (z9 ns ls).length []).getD [])/\(srch (adB ns ls) (noW (z9 ns ls).length) n (z9 ns ls).length []=none->u= .slice none 0 0)/\w.grownBy w' (some gO):=by
 obtain⟨i0,hi,iz0,iz1,iz2⟩:=info_parts ql;have GB:=zq ns ls;have CN:=ye hw;have Cj:=zE hw;have hOl:=hO.lt;obtain⟨w0,Ge⟩:∃u,u=(((w.alloc (.cells #[vn,vl] 27)).alloc (.cells #[.slice (some ⟨bW,oW,none⟩) (z9 ns ls).length cW] 31)).alloc (.cells #[.int .i64 n] 3)).alloc (.cells #[.func (.func 237) #[] #[.pointer (some ⟨gO,0,none⟩)]] 205):=⟨_,rfl⟩;have Hg:Below w.heap.size w w0:=by rw[Ge];exact bel_
 have FQ:Blk w0 w.heap.size 27 #[vn,vl]:=by rw[Ge];exact(((Blk.newAt rfl).alloc _).alloc _).alloc _
 have hG0:Blk w0 (w.heap.size+1) 31 #[.slice (some ⟨bW,oW,none⟩) (z9 ns ls).length cW]:=by rw[Ge];exact((Blk.newAt (by simp)).alloc _).alloc _
 have hN0:Blk w0 (w.heap.size+1+1) 3 #[.int .i64 n]:=by rw[Ge];exact(Blk.newAt (by simp)).alloc _
 have N5:Blk w0 (w.heap.size+1+1+1) 205 #[.func (.func 237) #[] #[.pointer (some ⟨gO,0,none⟩)]]:=by rw[Ge];exact Blk.newAt (by simp)
 have U3:=h_ (z1g vn vl ns ls w0 (hn.below Hg) (hl.below Hg) hw);have Bx:=h_ Ge;obtain⟨hbW,wi⟩:=z77 hW CN;have HCW:=h_ wi
 have hWO:bW≠gO:=by
  intro e;have h1:=HCW.out 0 CN;rw[e,hO.cell] at h1
  rcases oW with _|o
  ·cases h1
  ·simp at h1
 have HBIT:Hid (∀g f,g<(z9 ns ls).length ->f<(z9 ns ls).length ->((qX ns ls).getD f 0).testBit g=adB ns ls g f):=h_ (fun g f hg hf=>by rw[z4l hw (by rw[<-Cj];exact hf),z2O]);have mQ:Hid (∀f,f<(z9 ns ls).length ->(qX ns ls).getD f 0<2^40):=h_ (fun f hf=>aaE (z1T hw (by rw[<-Cj];exact hf)) (aaF o_ (by rw[<-Cj];exact GB)));have fG:(qX ns ls).length =(z9 ns ls).length :=by unfold qX;rw[jY,Cj]
 generalize hRR:srch (adB ns ls) (noW (z9 ns ls).length) n (z9 ns ls).length []=RR at*;have wj:=h_ hRR;have HNN:=h_ fG;generalize (z9 ns ls).length =F at*;generalize qX ns ls=NN at*
 go_enter Tryz.func236,Tryz.ntmps236
 go_wp2_with fail
 rw[<-Bx.out];refine U3.out.mono ?_
 rintro e w1 ⟨v1,rfl,Hj,h9⟩;have h8:=Hg.trans (h9.mono Hg.size);obtain⟨bA,cA,rfl,hcA,hbA0,G9,nH⟩:=OwnI.blk Hj (by rw[za,HNN.out];exact CN);rw[za,HNN.out] at hcA nH⊢;have hG1:=hG0.below h9 hG0.lt;have U9:=hN0.below h9 hN0.lt;have uH:=N5.below h9 N5.lt;have H8:=uH.lt;have HCA:Hid (∀k,k<F->w1.cell? ⟨bA,k,none⟩=some (.int .i64 (NN.getD k 0:Nat))):=h_ (fun k hk=>by rw[nH k hk,qj]);have g0:w1.cell? ⟨w.heap.size+1,0,none⟩=some (.slice (some ⟨bW,oW,none⟩) F cW):=hG1.cell 0;have hF40:F<=40:=GB;obtain⟨w2,gS⟩:∃u,u=w1.alloc (.cells #[.slice (some ⟨bA,0,none⟩) F cA] 31):=⟨_,rfl⟩;have He:Below w1.heap.size w1 w2:=by rw[gS];exact bel_
 have Fn:Blk w2 w1.heap.size 31 #[.slice (some ⟨bA,0,none⟩) F cA]:=by rw[gS];exact Blk.newAt rfl
 have CT:=h_ gS;have Ha:=h8.trans (He.mono h8.size);have l1:w.heap.size+1<w1.heap.size:=o_
 go_wp2_with (at_make;refine wpList_make_full _ rfl _ _ 31 rfl w.heap.size 3 i0 (.int .i64 0) 1 Tryz.underlying31 hi iz0 iz1 .i64 .i64 _ _ F rfl rfl rfl rfl (by rw[iz2];omega) (by unfold maxLen;omega) (by simp;omega) ?_)
 rw[<-CT.out];intro w3 Hz gQ;have Fw:w2.heap.size=w1.heap.size+1:=by rw[CT.out];simp
 have GZ:Below w2.heap.size w2 w3:=(aaj _ _).grown gQ (aaa _) (by intro k hk;cases hk);have Hc:=Ha.trans (GZ.mono Ha.size)
 have hC3:OwnI w.heap.size w3 (.slice (some ⟨w1.heap.size+1,0,none⟩) F F) (List.replicate F 0):=by
  unfold OwnI;rw[aaD,<-z2S];exact Hz
 have hC3l:w1.heap.size+1<w3.heap.size:=(OwnI.lt hC3 (w1.heap.size+1) rfl).2;have HB0S:=h_ Hg.size;have b12:=He.trans (GZ.mono He.size);have hG3:=hG1.below b12 hG1.lt;have cd:=U9.below b12 U9.lt;have Ur:=uH.below b12 uH.lt;have FE:=Fn.below GZ Fn.lt;have HCA3:Hid (∀k,k<F->w3.cell? ⟨bA,0+k,none⟩=some (.int .i64 (NN.getD k 0:Nat))):=h_ (fun k hk=>by rw[aaG];exact(b12.cell (p:=⟨bA,k,none⟩) G9).trans (HCA.out k hk));have HCW3:Hid (∀k,k<F->w3.cell? ⟨bW,oW+k,none⟩=some (.int .i64 (-1))):=h_ (fun k hk=>(Hc.cell (p:=⟨bW,oW+k,none⟩) hbW).trans (HCW.out k hk));have GM:=hO.below Hc hOl;have hbw1s:=h8.size;have nA:¬w1.heap.size=w1.heap.size+1:=o_
 have hbb0:w.heap.size<=bA:=by have:=HB0S.out;omega
 obtain⟨w5,GH⟩:∃u,u=(w3.alloc (.cells #[.slice (some ⟨w1.heap.size+1,0,none⟩) F F] 31)).alloc (.cells #[.func (.func 257) #[] #[.pointer (some ⟨w3.heap.size,0,none⟩),.pointer (some ⟨w.heap.size+1+1+1,0,none⟩),.pointer (some ⟨w.heap.size+1+1,0,none⟩),.pointer (some ⟨w.heap.size+1,0,none⟩),.pointer (some ⟨w1.heap.size,0,none⟩),.pointer (some ⟨w3.heap.size+1,0,none⟩)]] 218):=⟨_,rfl⟩;have b35:Below w3.heap.size w3 w5:=by rw[GH];exact bel_
 have Hx:=Hc.trans (b35.mono Hc.size);have hgC5:Blk w5 w3.heap.size 31 #[.slice (some ⟨w1.heap.size+1,0,none⟩) F F]:=by rw[GH];exact(Blk.newAt rfl).alloc _
 have hgP5:Blk w5 (w3.heap.size+1) 218 #[.func (.func 257) #[] #[.pointer (some ⟨w3.heap.size,0,none⟩),.pointer (some ⟨w.heap.size+1+1+1,0,none⟩),.pointer (some ⟨w.heap.size+1+1,0,none⟩),.pointer (some ⟨w.heap.size+1,0,none⟩),.pointer (some ⟨w1.heap.size,0,none⟩),.pointer (some ⟨w3.heap.size+1,0,none⟩)]]:=by rw[GH];exact Blk.newAt (by simp)
 have hG5:=hG3.below b35 hG3.lt;have Bz:=cd.below b35 cd.lt;have F1:=Ur.below b35 Ur.lt;have Cm:=FE.below b35 FE.lt;have Bw:=GM.below b35 GM.lt;have hC5:=hC3.kept b35;have Gn:w5.heap.size=w3.heap.size+1+1:=by rw[GH];simp
 have HP:PutI (w1.heap.size+1) gO w3.heap.size (w.heap.size+1+1+1) (w.heap.size+1+1) (w.heap.size+1) w1.heap.size (w3.heap.size+1) bW oW cW bA 0 cA F n (fun k=>NN.getD k 0) w5:=
  ⟨⟨hgC5.lt,by omega,by omega,hgC5.cell 0⟩,⟨F1.lt,by omega,by omega,F1.cell 0⟩,⟨Bz.lt,by omega,by omega,Bz.cell 0⟩,⟨hG5.lt,by omega,by omega,hG5.cell 0⟩,⟨Cm.lt,nA,by omega,Cm.cell 0⟩,⟨hgP5.lt,by omega,by omega,hgP5.cell 0⟩,
   fun k hk=>⟨by omega,by omega,hWO,(b35.cell (p:=⟨bW,oW+k,none⟩) (show bW<w3.heap.size by have:=hbw1s;omega)).trans (HCW3.out k hk)⟩,
   fun k hk=>⟨by omega,by omega,by omega,(b35.cell (p:=⟨bA,0+k,none⟩) (show bA<w3.heap.size by omega)).trans (HCA3.out k hk)⟩⟩
 have mh:=h_ (zad w.heap.size (w1.heap.size+1) gO w3.heap.size (w.heap.size+1+1+1) (w.heap.size+1+1) (w.heap.size+1) w1.heap.size (w3.heap.size+1) bW oW cW bA 0 cA F n (fun k=>NN.getD k 0) (adB ns ls) HBIT.out mQ.out hF40 hn6 o_ F [] (List.replicate F 0) 0 w5 rfl (by simp) HP hC5 rfl Bw);have HW5:=h_ GH;have HBW5:=h_ Hx
 go_wp2_with fail
 rw[<-HW5.out];refine mh.out.mono ?_
 rintro e w6 ⟨b,rfl,ht,_,h6⟩;have Hx:=HBW5.out;have HG:Hid (w.grownBy w6 (some gO)):=h_ ⟨ht.os.trans Hx.os,ht.tape.trans Hx.tape,ht.output.trans Hx.output,aai Hx.size ht.size,fun i hi gr=>(ht.block i (aaE hi Hx.size) (fun e=>e.elim (fun e=>by omega) (fun e=>gr (by rw[e])))).trans (Hx.block i hi)⟩
 have HQ:Hid (∃u,Blk w6 gO 31 #[u]/\OwnI w.heap.size w6 u (RR.getD [])/\(RR=none->u= .slice none 0 0)):=h_ (by
  rw[<-wj.out]
  rcases h6 with ⟨_,hn6,bo⟩|⟨_,L,u,hL6,bo,hu6⟩
  ·exact⟨_,bo,by rw[hn6];exact OwnI.nil _ _,fun _=>rfl⟩
  ·exact⟨u,bo,by rw[hL6];exact OwnI.mono hu6 Hx.size,fun h=>by rw[hL6] at h;cases h⟩)
 go_wp2
 go_end0
 obtain⟨u,h1,h2,h3⟩:=HQ.out;exact⟨rfl,u,h1,h2,h3,HG.out⟩
theorem z6F (vn vl vw:Value) (ns ls:List Pr) (z:Int) (w:World) (hn:RP w vn ns) (hl:RP w vl ls) (hW:RI w vw (noW (z9 ns ls).length)):
  Calls Tryz.prog 182 #[.agg #[vn,vl],vw,.int .i64 z] w (z0N (colW ns ls z) (xC ns ls z) w):=by
 have Hg:Below w.heap.size w (w.alloc (.cells #[vn,vl] 27)):=bel_
 have gD:Blk (w.alloc (.cells #[vn,vl] 27)) w.heap.size 27 #[vn,vl]:=Blk.newAt rfl
 cases hq:zf ns ls
 ·have HR:=h_ (ZG (n:=z) (.inl hq))
  go_enter Tryz.func182,Tryz.ntmps182
  go_wp2_with fail
  refine(xG _ _ _ ns ls _ (hn.below Hg) (hl.below Hg) (hW.below Hg)).mono ?_
  rw[hq];rintro e w1 ⟨rfl,h9⟩;have h8:=Hg.trans (h9.mono Hg.size);go_wp2;exact bodyPost_ret (v:= .tuple #[.slice none 0 0,.bool false]) (by simp[results,Tryz.results182,go_sem]) rfl ⟨_,by unfold xC;rw[HR.out];rfl,by unfold colW;rw[HR.out];exact OwnI.nil _ _,h8⟩
 ·cases hz:inB z 1 6
  ·have HR:=h_ (ZG (ns:=ns) (ls:=ls) (n:=z) (.inr hz))
   go_enter Tryz.func182,Tryz.ntmps182
   go_wp2_with fail
   refine(xG _ _ _ ns ls _ (hn.below Hg) (hl.below Hg) (hW.below Hg)).mono ?_
   rw[hq];rintro e w1 ⟨rfl,h9⟩;have h8:=Hg.trans (h9.mono Hg.size)
   go_wp2_with fail
   refine(zm z 1 6 false _ hz).mono ?_
   rintro e w' ⟨rfl,rfl⟩;go_wp2;exact bodyPost_ret (v:= .tuple #[.slice none 0 0,.bool false]) (by simp[results,Tryz.results182,go_sem]) rfl ⟨_,by unfold xC;rw[HR.out];rfl,by unfold colW;rw[HR.out];exact OwnI.nil _ _,h8⟩
  ·obtain⟨n,rfl⟩:∃n:Nat,z=n:=⟨z.toNat,by have:=zd.1 hz;omega⟩
   have hn6:n<=6:=by have:=zd.1 hz;omega
   have HS:=h_ (z4n hq hz);have CN:=ye hq;obtain⟨Aw,cw,rfl,wi,hmw,Mf⟩:=hW.form;rw[ZH] at wi hmw Mf hW⊢;obtain⟨bw,ow,rfl,gy,_⟩:=Mf CN;have HZ:=h_ hz;have HLN:Hid (∀L,srch (adB ns ls) (noW (z9 ns ls).length) n (z9 ns ls).length []=some L->L.length=(z9 ns ls).length):=h_ (fun L h=>by have:=z8S h;simpa using this);clear hz Mf
   go_enter Tryz.func182,Tryz.ntmps182
   go_wp2_with fail
   refine(xG _ _ _ ns ls _ (hn.below Hg) (hl.below Hg) (hW.below Hg)).mono ?_
   rw[hq];rintro e w1 ⟨rfl,h9⟩;have h8:=Hg.trans (h9.mono Hg.size);have gg:=gD.below h9 gD.lt;have H8:=gg.lt;clear h9 gD Hg
   go_wp2_with fail
   refine(zm _ 1 6 true _ HZ.out).mono ?_
   rintro e w' ⟨rfl,rfl⟩;have He:=h8.alloc h8.size (.cells #[.slice none 0 0] 31);have Cd:Blk (w1.alloc (.cells #[.slice none 0 0] 31)) w1.heap.size 31 #[.slice none 0 0]:=Blk.newAt rfl;have HP:=h_ (z7o vn vl ns ls bw ow cw n w1.heap.size _ (hn.below He) (hl.below He) hq hn6 wi (hW.below He) Cd);have CL:=h_ He;obtain⟨a_0,a_1⟩:=gg.c2;clear He Cd hW hn hl gg hq
   go_wp2_with fail
   refine HP.out.mono ?_
   rintro e w3 ⟨rfl,u,GM,hu3,GQ,gM⟩;have Hf:Below w.heap.size w w3:=CL.out.grown gM CL.out.size (fun k hk=>by cases hk;exact h8.size);have hu3':=OwnI.mono hu3 (CL.out.size);have hO3l:=GM.lt;have hnq:=fun (u:World) (a:Option Addr) (l c:Nat)=>run_neq_slice_nil_any (P:=Tryz.prog) u 31 3 a l c 0 0 Tryz.underlying31
   clear HP CL hu3 gM a_0 a_1;generalize srch (adB ns ls) (noW (z9 ns ls).length) n (z9 ns ls).length []=RR at*
   cases RR with
   |none=>
    have e1:=GQ rfl;subst e1;have q0:w3.cell? ⟨w1.heap.size,0,none⟩=some (.slice none 0 0):=GM.cell 0;clear GQ GM
    go_wp2_with fail
    (refine z7 k_ k_ (fun hG=>?_))
    repeat (go_big_quiet_step (fail))
    refine wpQuiet_nil ?_
    clear hG;rintro w5 ⟨⟨_,Gn⟩,rfl⟩;have FF:=h_ (Hf.trans (Gn.mono Hf.size));clear Gn q0;go_wp2;exact bodyPost_ret (v:= .tuple #[.slice none 0 0,.bool false]) (by simp[results,Tryz.results182,go_sem]) rfl ⟨_,by unfold xC;rw[HS.out];rfl,by unfold colW;rw[HS.out];exact OwnI.nil _ _,FF.out⟩
   |some L=>
    have hL:OwnI w.heap.size w3 u L:=hu3';have hl:=HLN.out L rfl;obtain⟨bu,cu,rfl,_,_,_,_⟩:=OwnI.blk hL o_;have q0:w3.cell? ⟨w1.heap.size,0,none⟩=some (.slice (some ⟨bu,0,none⟩) L.length cu):=GM.cell 0;clear GQ GM hu3' hl
    go_wp2_with fail
    (refine z7 k_ k_ (fun hG=>?_))
    repeat (go_big_quiet_step (fail))
    refine wpQuiet_nil ?_
    clear hG;rintro w5 ⟨⟨_,Gn⟩,rfl⟩;have FF:=h_ (Hf.trans (Gn.mono Hf.size));have HL5:=h_ (hL.kept Gn);clear Gn q0 hL;go_wp2;exact bodyPost_ret (v:= .tuple #[.slice (some ⟨bu,0,none⟩) L.length cu,.bool true]) (by simp[results,Tryz.results182,go_sem]) rfl ⟨_,by unfold xC;rw[HS.out];rfl,by unfold colW;rw[HS.out];exact HL5.out,FF.out⟩
theorem Xu (vn vl:Value) (ns ls:List Pr) (z:Int) (w:World) (hn:RP w vn ns) (hl:RP w vl ls):
  Calls Tryz.prog 104 #[.agg #[vn,vl],.int .i64 z] w (z0N (colW ns ls z) (xC ns ls z) w):=by
 have mB:=h_ (fun (v:World) (hb:Below w.heap.size w v)=>z4j vn vl ns ls v (hn.below hb) (hl.below hb));have HFI:=h_ (fun (v:World) (u:Value) (hb:Below w.heap.size w v) (hu:RI v u (noW (z9 ns ls).length))=>z6F vn vl u ns ls z v (hn.below hb) (hl.below hb) hu)
 go_enter Tryz.func104,Tryz.ntmps104
 go_wp2_with fail
 go_region_held3 (fun w'=>w'.cell? ⟨w.heap.size,0,none⟩=some vn/\w'.cell? ⟨w.heap.size,1,none⟩=some vl)
  (go_keep)
  (first|(go_at_call 183;refine(mB.out _ bel_).mono ?_;rintro e w1 ⟨v1,rfl,Hj,h9⟩;(have Gb:=bdC h9);have H8:=h9.size;(try simp at H8);(try have gR:=p0_ w w1);have h8:Below w.heap.size w w1:=bel_)|(go_at_call 182;refine(HFI.out _ _ bel_ (Hj.reads.below bel_)).mono ?_;rintro e w2 ⟨v2,rfl,Hm,He⟩;(have fa:=bcC He)))
 have Ha:Below w.heap.size w w2:=bel_
 have Cl:=h_ (OwnI.mono Hm (show w.heap.size<=_ by first|omega|(have:=h8.size;simp at*;omega)));go_wp2;exact bodyPost_ret (v:= .tuple #[v2,.bool (xC ns ls z)]) (by simp[results,Tryz.results104,go_sem]) rfl ⟨_,rfl,Cl.out,Ha⟩
theorem VL (vn vl:Value) (ns ls:List Pr) (z:Int) (w:World) (hn:RP w vn ns) (hl:RP w vl ls):
  Calls Tryz.prog 103 #[.agg #[vn,vl],.int .i64 z] w (z0N (colW ns ls z) (xC ns ls z) w):=by
 have Hg:Below w.heap.size w (w.alloc (.cells #[vn,vl] 27)):=bel_
 have gD:Blk (w.alloc (.cells #[vn,vl] 27)) w.heap.size 27 #[vn,vl]:=Blk.newAt rfl
 cases hq:zf ns ls
 ·have HR:=h_ (ZG (n:=z) (.inl hq))
  go_enter Tryz.func103,Tryz.ntmps103
  go_wp2_with fail
  refine(j7 _ _ ns ls _ _ (hn.below Hg) (hl.below Hg) hq).mono ?_
  rintro e w1 ⟨rfl,h9⟩;have h8:=Hg.trans (h9.mono Hg.size);have HO:Hid (OwnI w.heap.size (w1.alloc (.cells #[] 3)) (.slice (some ⟨w1.heap.size,0,none⟩) 0 0) []):=h_ (OwnI.made rfl h8.size);have HB:=h_ (h8.alloc h8.size (.cells #[] 3));go_wp2;exact bodyPost_ret (v:= .tuple #[.slice (some ⟨w1.heap.size,0,none⟩) 0 0,.bool false]) (by simp[results,Tryz.results103,go_sem]) rfl ⟨_,by unfold xC;rw[HR.out];rfl,by unfold colW;rw[HR.out];exact HO.out,HB.out⟩
 ·cases hz:inB z 1 6
  ·have HR:=h_ (ZG (ns:=ns) (ls:=ls) (n:=z) (.inr hz))
   have HZ:=h_ hz
   go_enter Tryz.func103,Tryz.ntmps103
   go_wp2_with fail
   refine(j7 _ _ ns ls _ _ (hn.below Hg) (hl.below Hg) hq).mono ?_
   rintro e w1 ⟨rfl,h9⟩;have h8:=Hg.trans (h9.mono Hg.size);have HO:Hid (OwnI w.heap.size (w1.alloc (.cells #[] 3)) (.slice (some ⟨w1.heap.size,0,none⟩) 0 0) []):=h_ (OwnI.made rfl h8.size);have HB:=h_ (h8.alloc h8.size (.cells #[] 3))
   go_wp2_with fail
   refine(qa _ _ _ _).mono ?_
   rintro e w' ⟨rfl,rfl⟩;rw[HZ.out];go_wp2;exact bodyPost_ret (v:= .tuple #[.slice (some ⟨w1.heap.size,0,none⟩) 0 0,.bool false]) (by simp[results,Tryz.results103,go_sem]) rfl ⟨_,by unfold xC;rw[HR.out];rfl,by unfold colW;rw[HR.out];exact HO.out,HB.out⟩
  ·obtain⟨n,rfl⟩:∃n:Nat,z=n:=⟨z.toNat,by have:=zd.1 hz;omega⟩
   have hn6:n<=6:=by have:=zd.1 hz;omega
   have HS:=h_ (z4n hq hz);have CN:=ye hq;have GB:=zq ns ls;have HZ:=h_ hz;have M7:=h_ (fun (v:World) (hb:Below w.heap.size w v)=>JQ vn vl ns ls v (hn.below hb) (hl.below hb) hq);have HWH:=h_ (j7 vn vl ns ls true _ (hn.below Hg) (hl.below Hg) hq)
   have HTB:Hid (∀base w v gs,OwnTab base w v (z9 ns ls).length gs (besW ns ls)->∃g c,v= .slice (some ⟨g,0,none⟩) (z9 ns ls).length c/\Xm w g 0 (z9 ns ls).length (adB ns ls)):=h_ (fun base w v gs h=>by
    have Cj:=zE hq;have Hb:(besW ns ls).length =(z9 ns ls).length :=by unfold besW;rw[jT,Cj]
    have Fs:∀i,i<(z9 ns ls).length ->((besW ns ls).getD i []).length =(z9 ns ls).length :=fun i hi=>by unfold besW;rw[vZ _ _ _ _ (by rw[<-Cj];exact hi),Cj]
    obtain⟨g,c,rfl,fF,Gr⟩:=h.blk (by rw[Hb];exact CN);refine⟨g,c,by rw[h.len,Hb],Gr,fun i hi=>⟨gs.getD i 0,(z40 h (by rw[Hb];exact hi)).2,?_,fun j hj=>?_⟩⟩
    ·rw[aaG];exact h.cell (by rw[Hb];exact hi)
    ·rw[h.cell2 (by rw[Hb];exact hi) (by rw[Fs i hi];exact hj),z63 hq (by rw[<-Cj];exact hi) (by rw[<-Cj];exact hj)])
   generalize (z9 ns ls).length =F at*
   go_enter Tryz.func103,Tryz.ntmps103
   go_wp2_with fail
   refine HWH.out.mono ?_
   rintro e w1 ⟨rfl,h9⟩;have h8:=Hg.trans (h9.mono Hg.size);have gg:=gD.below h9 gD.lt
   go_wp2_with fail
   refine(qa _ _ _ _).mono ?_
   rintro e w' ⟨rfl,rfl⟩;rw[HZ.out];obtain⟨a_0,a_1⟩:=gg.c2
   go_wp2_with fail
   refine(M7.out _ h8).mono ?_
   rintro e w2 ⟨v2,gs,rfl,Hm,He⟩;obtain⟨g,c,rfl,CS⟩:=HTB.out _ _ _ _ Hm;have Ha:=h8.trans (He.mono h8.size)
   go_wp2_with fail
   refine(z6D F _ GB).mono ?_
   rintro e w3 ⟨v3,rfl,Hq,Hf⟩;have Hc:=Ha.trans (Hf.mono Ha.size);have BZ:=CS.below Hf;have Hv:Below w3.heap.size w3 (w3.alloc (.cells #[] 3)):=bel_
   have Hp:=Hc.trans (Hv.mono Hc.size);have HSE:=h_ (z4N F n g c (adB ns ls) v3 GB hn6 F [] (.slice (some ⟨w3.heap.size,0,none⟩) 0 0) (w3.alloc (.cells #[] 3)) (by simp) ⟨BZ.below Hv,Hq.reads.below Hv⟩ (OwnI.reads (OwnI.made (base:=0) rfl (aab _))));have mV:=h_ Hp
   go_wp2_with fail
   refine HSE.out.mono ?_
   rw[<-HS.out];rintro e w5 ⟨v5,rfl,fQ,gf⟩;have BR:=h_ (OwnI.mono fQ mV.out.size);have FF:=h_ (mV.out.trans (gf.mono mV.out.size));go_wp2;exact bodyPost_ret (v:= .tuple #[v5,.bool (yb ns ls n).isSome]) (by simp[results,Tryz.results103,go_sem]) rfl ⟨_,rfl,BR.out,FF.out⟩
theorem z2x (v0 v1 v2 v3 v4 v5 v6:Value) (S:St) (x:Int) (w:World) (h:RSt w v0 v1 v2 v3 v4 v5 v6 S) (hle:StLe S):
  Calls Tryz.prog 34 #[.agg #[v0,v1,v2,v3,v4,v5,v6,.int .i64 S.fund],.int .i64 x] w (yk (colS S x) (colB S x) w):=by
 obtain⟨r,hr⟩:∃r,ze S=r:=⟨_,rfl⟩;have HR:=h_ hr;have gi:=h_ hle;obtain⟨B6,d6,ev6,CE,cJ,Gy⟩:=h.ds.at_;subst ev6;unfold maxLen at cJ;obtain⟨E,hE⟩:∃E,colS S x=E:=⟨_,rfl⟩;obtain⟨bb,gc⟩:∃bb,colB S x=bb:=⟨_,rfl⟩;rw[hE,gc];have HE:=h_ hE;have gm:=h_ gc;have HH:=h_ h
 go_enter Tryz.func34,Tryz.ntmps34
 go_wp2_with fail
 refine(qw _ _ _ _ _ _ _ S _ (HH.out.below bel_) gi.out).mono ?_
 rintro e w1 ⟨A0,a0,A1,a1,A2,a2,A3,a3,A4,a4,A5,a5,A6,a6,fs,rfl,Hj,h9⟩;have gh:Blk w1 w.heap.size 34 #[v0,v1,v2,v3,v4,v5,.slice B6 S.ds.length d6,.int .i64 S.fund]:=Blk.below ((Blk.newAt rfl).alloc _) h9 sz_;have gu:Blk w1 (w.heap.size+1) 34 z8_:=Blk.below (Blk.newAt (by simp)) h9 sz_;have h8:Below w.heap.size w w1:=bel_
 have Gi:OwnSt (w.heap.size+1+1) w1 (.slice A0 S.D.fn.length a0) (.slice A1 S.D.fl.length a1) (.slice A2 S.D.nn.length a2) (.slice A3 S.D.nl.length a3) (.slice A4 S.D.ss.length a4) (.slice A5 S.cs.length a5) (.slice A6 S.ds.length a6) S fs:=by simpa using Hj
 have gB:=h_ (OutSS.start Gi (aaa _) gh gu h8);obtain⟨x_0,x_1,x_2,x_3,x_4,x_5,x_6,x_7⟩:=gh.c8;have fi:=gh.lt
 go_wp2_with fail
 obtain⟨w2,gS⟩:∃w2,w2=w1.alloc (.cells #[.slice A0 S.D.fn.length a0,.slice A1 S.D.fl.length a1,.slice A2 S.D.nn.length a2,.slice A3 S.D.nl.length a3,.slice A4 S.D.ss.length a4,.slice A5 S.cs.length a5,.slice A6 S.ds.length a6,.int .i64 S.fund] 34):=⟨_,rfl⟩;rw[<-gS] at gB⊢;generalize w1.heap.size=Z at*;obtain⟨l',Gc⟩:∃l,colW S.D.nn S.D.nl x=l:=⟨_,rfl⟩;obtain⟨b',gw⟩:∃b,xC S.D.nn S.D.nl x=b:=⟨_,rfl⟩;have BC:=h_ Gc;have fR:=h_ gw;have HN:=h_ (HH.out.dr.nn.below gB.out.blw);have HL:=h_ (HH.out.dr.nl.below gB.out.blw);refine(Xu _ _ S.D.nn S.D.nl x _ HN.out HL.out).mono ?_
 rw[Gc,gw];rintro e w4 ⟨vt,rfl,gF,Hv⟩;obtain⟨T5,t5,rfl⟩:=OwnE.form (t:=3) (enc:=vI) gF;have gd:=h_ (gB.out.below Hv);have HO:=h_ gF;have mV:=h_ Hv;have hX:=gd.out.X;obtain⟨x_0,x_1,x_2,x_3,x_4,x_5,x_6,x_7⟩:=hX.c8
 go_wp2_with fail
 refine(qM _ _ _ _ _ _ _ S r _ (HH.out.below gd.out.blw) HR).mono ?_
 rintro e w5 ⟨rfl,gf⟩;have gZ:=h_ (gd.out.below gf);have HF:=h_ (OutSS.newCs gB.out (mV.out.trans (gf.mono mV.out.size)) (OwnI.kept HO.out gf))
 cases r
 ·clear HF
  obtain⟨u1,u2⟩:=z1D (S:=S) (x:=x) (.inl hr);have hu:S=E:=by rw[<-HE.out];exact u1.symm
  have hv:false=bb:=by rw[<-gm.out];exact u2.symm
  subst hu;subst hv;have HF:=gZ;obtain⟨_,_,hR,hZ,Ga,_,_⟩:=HF.out;obtain⟨z_0,z_1,z_2,z_3,z_4,z_5,z_6,z_7⟩:=hZ.c8;obtain⟨r_0,r_1,r_2,r_3,r_4,r_5,r_6,r_7,r_f0,r_f1,r_f2,r_f3,r_f4,r_f5,r_f6,r_f7⟩:=hR.b8;have Hl:=hR.lt;have Hy:=h_ (HF.out.fin);go_wp2;exact bodyPost_ret (v:= .tuple #[.agg (s8_ A0 A1 A2 A3 A4 A5 A6 a0 a1 a2 a3 a4 a5 a6 S),.bool false]) (by simp[results,Tryz.results34,go_sem,r_0,r_1,r_2,r_3,r_4,r_5,r_6,r_7,Hl]) rfl ⟨_,_,_,_,_,_,_,_,_,_,_,_,_,_,fs,rfl,(Hy.out _ _ _ _ _ _ _ _).1,(Hy.out _ _ _ _ _ _ _ _).2⟩
 ·cases b'
  ·clear HF
   obtain⟨u1,u2⟩:=z1D (S:=S) (x:=x) (.inr fR.out);have hu:S=E:=by rw[<-HE.out];exact u1.symm
   have hv:false=bb:=by rw[<-gm.out];exact u2.symm
   subst hu;subst hv;have HF:=gZ;obtain⟨_,_,hR,hZ,Ga,_,_⟩:=HF.out;obtain⟨z_0,z_1,z_2,z_3,z_4,z_5,z_6,z_7⟩:=hZ.c8;obtain⟨r_0,r_1,r_2,r_3,r_4,r_5,r_6,r_7,r_f0,r_f1,r_f2,r_f3,r_f4,r_f5,r_f6,r_f7⟩:=hR.b8;have Hl:=hR.lt;have Hy:=h_ (HF.out.fin);go_wp2;exact bodyPost_ret (v:= .tuple #[.agg (s8_ A0 A1 A2 A3 A4 A5 A6 a0 a1 a2 a3 a4 a5 a6 S),.bool false]) (by simp[results,Tryz.results34,go_sem,r_0,r_1,r_2,r_3,r_4,r_5,r_6,r_7,Hl]) rfl ⟨_,_,_,_,_,_,_,_,_,_,_,_,_,_,fs,rfl,(Hy.out _ _ _ _ _ _ _ _).1,(Hy.out _ _ _ _ _ _ _ _).2⟩
  ·obtain⟨u1,u2⟩:=z5Z (S:=S) (x:=x) hr fR.out
   rw[show(yb S.D.nn S.D.nl x).getD []=l' from BC.out] at u1;have hu:(⟨S.D,l',S.ds,S.fund⟩:St)=E:=by rw[<-HE.out];exact u1.symm
   have hv:true=bb:=by rw[<-gm.out];exact u2.symm
   subst hu;subst hv;obtain⟨_,_,hR,hZ,Ga,_,_⟩:=gZ.out;obtain⟨z_0,z_1,z_2,z_3,z_4,z_5,z_6,z_7,z_f0,z_f1,z_f2,z_f3,z_f4,z_f5,z_f6,z_f7⟩:=hZ.b8;obtain⟨r_0,r_1,r_2,r_3,r_4,r_5,r_6,r_7,r_f0,r_f1,r_f2,r_f3,r_f4,r_f5,r_f6,r_f7⟩:=hR.b8;have Hl:=hR.lt;have Fr:=hZ.lt;have Hy:=h_ (HF.out.fin);have FK:¬Z=w.heap.size+1:=o_
   have Gv:¬w.heap.size+1=Z:=o_
   go_wp2;exact bodyPost_ret (v:= .tuple #[.agg #[.slice A0 S.D.fn.length a0,.slice A1 S.D.fl.length a1,.slice A2 S.D.nn.length a2,.slice A3 S.D.nl.length a3,.slice A4 S.D.ss.length a4,.slice T5 l'.length t5,.slice A6 S.ds.length a6,.int .i64 S.fund],.bool true]) (by simp[results,Tryz.results34,go_sem,r_0,r_1,r_2,r_3,r_4,r_5,r_6,r_7,z_0,z_1,z_2,z_3,z_4,z_5,z_6,z_7,Hl,Fr,FK,Gv]) rfl ⟨_,_,_,_,_,_,_,_,_,_,_,_,_,_,fs,rfl,(Hy.out _ _ _ _ _ _ _ _).1,(Hy.out _ _ _ _ _ _ _ _).2⟩
theorem z24 (v0 v1 v2 v3 v4 v5 v6:Value) (S:St) (x:Int) (w:World) (h:RSt w v0 v1 v2 v3 v4 v5 v6 S) (hle:StLe S):
  Calls Tryz.prog 33 #[.agg #[v0,v1,v2,v3,v4,v5,v6,.int .i64 S.fund],.int .i64 x] w (yk (colS S x) (colB S x) w):=by
 obtain⟨r,hr⟩:∃r,ze S=r:=⟨_,rfl⟩;have HR:=h_ hr;have gi:=h_ hle;obtain⟨B6,d6,ev6,CE,cJ,Gy⟩:=h.ds.at_;subst ev6;unfold maxLen at cJ;obtain⟨E,hE⟩:∃E,colS S x=E:=⟨_,rfl⟩;obtain⟨bb,gc⟩:∃bb,colB S x=bb:=⟨_,rfl⟩;rw[hE,gc];have HE:=h_ hE;have gm:=h_ gc;have HH:=h_ h
 go_enter Tryz.func33,Tryz.ntmps33
 go_wp2_with fail
 refine(jm _ _ _ _ _ _ _ S _ (HH.out.below bel_) gi.out).mono ?_
 rintro e w1 ⟨A0,a0,A1,a1,A2,a2,A3,a3,A4,a4,A5,a5,A6,a6,fs,rfl,Hj,h9⟩;have gh:Blk w1 w.heap.size 34 #[v0,v1,v2,v3,v4,v5,.slice B6 S.ds.length d6,.int .i64 S.fund]:=Blk.below ((Blk.newAt rfl).alloc _) h9 sz_;have gu:Blk w1 (w.heap.size+1) 34 z8_:=Blk.below (Blk.newAt (by simp)) h9 sz_;have h8:Below w.heap.size w w1:=bel_
 have Gi:OwnSt (w.heap.size+1+1) w1 (.slice A0 S.D.fn.length a0) (.slice A1 S.D.fl.length a1) (.slice A2 S.D.nn.length a2) (.slice A3 S.D.nl.length a3) (.slice A4 S.D.ss.length a4) (.slice A5 S.cs.length a5) (.slice A6 S.ds.length a6) S fs:=by simpa using Hj
 have gB:=h_ (OutSS.start Gi (aaa _) gh gu h8);obtain⟨x_0,x_1,x_2,x_3,x_4,x_5,x_6,x_7⟩:=gh.c8;have fi:=gh.lt
 go_wp2_with fail
 obtain⟨w2,gS⟩:∃w2,w2=w1.alloc (.cells #[.slice A0 S.D.fn.length a0,.slice A1 S.D.fl.length a1,.slice A2 S.D.nn.length a2,.slice A3 S.D.nl.length a3,.slice A4 S.D.ss.length a4,.slice A5 S.cs.length a5,.slice A6 S.ds.length a6,.int .i64 S.fund] 34):=⟨_,rfl⟩;rw[<-gS] at gB⊢;generalize w1.heap.size=Z at*;refine(j8 _ _ _ _ _ _ _ S r _ (HH.out.below gB.out.blw) HR).mono ?_
 rintro e w3 ⟨rfl,Hf⟩;have gd:=h_ (gB.out.below Hf);have gU:=gd.out.X;obtain⟨x_0,x_1,x_2,x_3,x_4,x_5,x_6,x_7⟩:=gU.c8
 cases r
 ·obtain⟨u1,u2⟩:=z1D (S:=S) (x:=x) (.inl hr)
  have hu:S=E:=by rw[<-HE.out];exact u1.symm
  have hv:false=bb:=by rw[<-gm.out];exact u2.symm
  subst hu;subst hv;have HF:=gd;obtain⟨_,_,hR,hZ,Ga,_,_⟩:=HF.out;obtain⟨z_0,z_1,z_2,z_3,z_4,z_5,z_6,z_7⟩:=hZ.c8;obtain⟨r_0,r_1,r_2,r_3,r_4,r_5,r_6,r_7,r_f0,r_f1,r_f2,r_f3,r_f4,r_f5,r_f6,r_f7⟩:=hR.b8;have Hl:=hR.lt;have Hy:=h_ (HF.out.fin);go_wp2;exact bodyPost_ret (v:= .tuple #[.agg (s8_ A0 A1 A2 A3 A4 A5 A6 a0 a1 a2 a3 a4 a5 a6 S),.bool false]) (by simp[results,Tryz.results33,go_sem,r_0,r_1,r_2,r_3,r_4,r_5,r_6,r_7,Hl]) rfl ⟨_,_,_,_,_,_,_,_,_,_,_,_,_,_,fs,rfl,(Hy.out _ _ _ _ _ _ _ _).1,(Hy.out _ _ _ _ _ _ _ _).2⟩
 ·clear gU x_0 x_1 x_2 x_3 x_4 x_5 x_6 x_7
  obtain⟨l',Gc⟩:∃l,colW S.D.nn S.D.nl x=l:=⟨_,rfl⟩;obtain⟨b',gw⟩:∃b,xC S.D.nn S.D.nl x=b:=⟨_,rfl⟩;have BC:=h_ Gc;have fR:=h_ gw;have HN:=h_ (HH.out.dr.nn.below gd.out.blw);have HL:=h_ (HH.out.dr.nl.below gd.out.blw);have hX:=gd.out.X;obtain⟨x_0,x_1,x_2,x_3,x_4,x_5,x_6,x_7⟩:=hX.c8
  go_wp2_with fail
  refine(VL _ _ S.D.nn S.D.nl x _ HN.out HL.out).mono ?_
  rw[Gc,gw];rintro e w4 ⟨vt,rfl,gF,Hv⟩;obtain⟨T5,t5,rfl⟩:=OwnE.form (t:=3) (enc:=vI) gF;have HF:=h_ (OutSS.newCs gd.out Hv gF);have gZ:=h_ (gd.out.below Hv)
  cases b'
  ·clear HF
   obtain⟨u1,u2⟩:=z1D (S:=S) (x:=x) (.inr fR.out);have hu:S=E:=by rw[<-HE.out];exact u1.symm
   have hv:false=bb:=by rw[<-gm.out];exact u2.symm
   subst hu;subst hv;have HF:=gZ;obtain⟨_,_,hR,hZ,Ga,_,_⟩:=HF.out;obtain⟨z_0,z_1,z_2,z_3,z_4,z_5,z_6,z_7⟩:=hZ.c8;obtain⟨r_0,r_1,r_2,r_3,r_4,r_5,r_6,r_7,r_f0,r_f1,r_f2,r_f3,r_f4,r_f5,r_f6,r_f7⟩:=hR.b8;have Hl:=hR.lt;have Hy:=h_ (HF.out.fin);go_wp2;exact bodyPost_ret (v:= .tuple #[.agg (s8_ A0 A1 A2 A3 A4 A5 A6 a0 a1 a2 a3 a4 a5 a6 S),.bool false]) (by simp[results,Tryz.results33,go_sem,r_0,r_1,r_2,r_3,r_4,r_5,r_6,r_7,Hl]) rfl ⟨_,_,_,_,_,_,_,_,_,_,_,_,_,_,fs,rfl,(Hy.out _ _ _ _ _ _ _ _).1,(Hy.out _ _ _ _ _ _ _ _).2⟩
  ·obtain⟨u1,u2⟩:=z5Z (S:=S) (x:=x) hr fR.out
   rw[show(yb S.D.nn S.D.nl x).getD []=l' from BC.out] at u1;have hu:(⟨S.D,l',S.ds,S.fund⟩:St)=E:=by rw[<-HE.out];exact u1.symm
   have hv:true=bb:=by rw[<-gm.out];exact u2.symm
   subst hu;subst hv;obtain⟨_,_,hR,hZ,Ga,_,_⟩:=gZ.out;obtain⟨z_0,z_1,z_2,z_3,z_4,z_5,z_6,z_7,z_f0,z_f1,z_f2,z_f3,z_f4,z_f5,z_f6,z_f7⟩:=hZ.b8;obtain⟨r_0,r_1,r_2,r_3,r_4,r_5,r_6,r_7,r_f0,r_f1,r_f2,r_f3,r_f4,r_f5,r_f6,r_f7⟩:=hR.b8;have Hl:=hR.lt;have Fr:=hZ.lt;have Hy:=h_ (HF.out.fin);have FK:¬Z=w.heap.size+1:=o_
   have Gv:¬w.heap.size+1=Z:=o_
   go_wp2;exact bodyPost_ret (v:= .tuple #[.agg #[.slice A0 S.D.fn.length a0,.slice A1 S.D.fl.length a1,.slice A2 S.D.nn.length a2,.slice A3 S.D.nl.length a3,.slice A4 S.D.ss.length a4,.slice T5 l'.length t5,.slice A6 S.ds.length a6,.int .i64 S.fund],.bool true]) (by simp[results,Tryz.results33,go_sem,r_0,r_1,r_2,r_3,r_4,r_5,r_6,r_7,z_0,z_1,z_2,z_3,z_4,z_5,z_6,z_7,Hl,Fr,FK,Gv]) rfl ⟨_,_,_,_,_,_,_,_,_,_,_,_,_,_,fs,rfl,(Hy.out _ _ _ _ _ _ _ _).1,(Hy.out _ _ _ _ _ _ _ _).2⟩
theorem al1 {w:World} {o1:Obj} {b i:Nat} {x:Value} (h:w.cell? ⟨b,i,none⟩=some x) (hb:b<w.heap.size):(w.alloc o1).cell? ⟨b,i,none⟩=some x:=
 (((aaj w.heap.size w).alloc (aaa _) o1).cell (p:=⟨b,i,none⟩) hb).trans h
theorem new3 {w:World} {x y z:Value} {t:TypeId}:(w.alloc (.cells #[x,y,z] t)).cell? ⟨w.heap.size,0,none⟩=some x/\(w.alloc (.cells #[x,y,z] t)).cell? ⟨w.heap.size,1,none⟩=some y/\(w.alloc (.cells #[x,y,z] t)).cell? ⟨w.heap.size,2,none⟩=some z:=
 ⟨(Blk.newAt rfl).cell 0,(Blk.newAt rfl).cell 1,(Blk.newAt rfl).cell 2⟩
theorem z21 {l:List Dp} {d:Dp} (h:qm l=false∨qm (l++[d])=false):adpL l d=l/\adpB l d=false:=by
 have hb:adpB l d=false:=by unfold adpB;rcases h with h|h<;>simp[h]
 exact⟨by unfold adpL;rw[hb];rfl,hb⟩
theorem z65 {l:List Dp} {d:Dp} (h1:qm l=true) (h2:qm (l++[d])=true):adpL l d=l++[d]/\adpB l d=true:=by
 have hb:adpB l d=true:=by unfold adpB;rw[h1,h2];rfl
 exact⟨by unfold adpL;rw[hb];rfl,hb⟩
theorem QW {w:World} {ops:Array Oper} {o:Oper} {a:Act} {K:Act->World->Prop} {Q:Exit->Act->World->Prop} {E:Prop} (FH:o.guard=none) (s x:Operand)
  (ho:o.op= .call { callee:= .builtin .append,args:= #[s,x],argTypes:= #[32,32] })
  (base:Nat) (v:Value) (ds:List Dp) (d:Dp) (g:Nat) (hs:a.eval s=v) (hx:a.eval x= .slice (some ⟨g,0,none⟩) 1 1) (hg:w.cell? ⟨g,0,none⟩=some (.int .i64 d.k)/\w.cell? ⟨g,1,none⟩=some (.int .i64 d.a)/\w.cell? ⟨g,2,none⟩=some (.int .i64 d.b))
  (hgl:g<w.heap.size) (hown:zk base w v ds) (Hi:ds.length<=1048576) (H9:base<=w.heap.size)
  (h:∀A c w',zk base w' (.slice A (ds.length+1) c) (ds++[d])->w.grownBy w' v.ownBlock->K (a.put o.dst (.slice A (ds.length+1) c)) w'):
  if Region.wanted o (yielded ops a.tmps)=true then Oper.wp Tryz.prog o a w K Q else E:=by
 obtain⟨i,hi,hz,H7,gG⟩:=info_parts vB
 have hr:RS w 3 (.slice (some ⟨g,0,none⟩) 1 1) 1 d.cs:=⟨rfl,some ⟨g,0,none⟩,1,rfl,aaa _,by simp[maxLen],fun _=>⟨g,0,rfl,hgl,fun j u hj=>by
  match j,hj with
  |0,hj=>cases hj;exact hg.1
  |1,hj=>cases hj;exact hg.2.1
  |2,hj=>cases hj;exact hg.2.2
  |j+3,hj=>simp[Dp.cs] at hj⟩⟩
 refine Qh FH s x 32 ho base 48 i (.agg #[.int .i64 0,.int .i64 0,.int .i64 0]) 3 24 Tryz.underlying32 hi hz H7 gG rfl (by decide) v _ ds.length 1 _ d.cs hs hx hown hr
  (by intro y hy;simp[Dp.cs] at hy;rcases hy with rfl|rfl|rfl<;>rfl) o_ (by decide) H9 fun A c w' e1 e2 _=>h A c w' (by
   have e4:(ds++[d]).flatMap Dp.cs=ds.flatMap Dp.cs++d.cs:=by simp
   unfold zk;rw[e4,show(ds++[d]).length =ds.length+1 by simp];exact e1) e2
theorem z0m {w:World} {ops:Array Oper} {o:Oper} {a:Act} {K:Act->World->Prop} {Q:Exit->Act->World->Prop} {E:Prop} (FH:o.guard=none) (s x:Operand)
  (ho:o.op= .call { callee:= .builtin .append,args:= #[s,x],argTypes:= #[32,32] })
  (base:Nat) (g:Nat) (v:Value) (l:List Dp) (hs:a.eval s= .slice (some ⟨g,0,none⟩) 0 0) (hx:a.eval x=v) (hown:zk base w (.slice (some ⟨g,0,none⟩) 0 0) []) (hr:RDp w v l) (Hi:l.length<=1048576) (H9:base<=w.heap.size)
  (h:∀A c w',zk base w' (.slice A l.length c) l->w.grownBy w' (some g)->K (a.put o.dst (.slice A l.length c)) w'):
  if Region.wanted o (yielded ops a.tmps)=true then Oper.wp Tryz.prog o a w K Q else E:=by
 obtain⟨i,hi,hz,H7,gG⟩:=info_parts vB
 refine Qh FH s x 32 ho base 48 i (.agg #[.int .i64 0,.int .i64 0,.int .i64 0]) 3 24 Tryz.underlying32 hi hz H7 gG rfl (by decide) _ v 0 l.length [] (l.flatMap Dp.cs) hs hx hown hr
  (jD l) o_ (by decide) H9 fun A c w' e1 e2 _=>?_
 rw[aaG] at e1⊢;exact h A c w' e1 e2
theorem z2L (v:Value) (l:List Dp) (d:Dp) (w:World) (h:RDp w v l) (hle:l.length<=1048576):
  Calls Tryz.prog 112 #[v,.agg #[.int .i64 d.k,.int .i64 d.a,.int .i64 d.b]] w (VX (adpL l d) (adpB l d) w):=by
 obtain⟨E,hE⟩:∃E,adpL l d=E:=⟨_,rfl⟩;obtain⟨BB,BV⟩:∃b,adpB l d=b:=⟨_,rfl⟩;rw[hE,BV];have HE:=h_ hE;have gm:=h_ BV;clear hE BV;obtain⟨w0,Ge⟩:∃u,u=w.alloc (.cells #[.int .i64 d.k,.int .i64 d.a,.int .i64 d.b] 48):=⟨_,rfl⟩;have FQ:Blk w0 w.heap.size 48 #[.int .i64 d.k,.int .i64 d.a,.int .i64 d.b]:=Ge▸Blk.newAt rfl;have Hg:Below w.heap.size w w0:=Ge▸(aaj _ _).alloc (aaa _) _;have rf:w0.heap.size=w.heap.size+1:=by rw[Ge];simp
 have Bx:=h_ Ge;have HR:=h_ (h.below Hg);have Uf:=h_ h;clear h Ge
 go_enter Tryz.func112,Tryz.ntmps112
 go_upto_region 1 with (fail)
 rw[<-Bx.out];clear Bx;obtain⟨x_0,x_1,x_2⟩:=FQ.c3;have q0:w.heap.size<w0.heap.size:=o_
 clear FQ rf
 go_cut [6] (fun s6 wx=>∃A c,s6= .slice A (l.length+1) c/\zk w.heap.size wx (.slice A (l.length+1) c) (l++[d])/\Below w.heap.size w wx)
 case first=>
  go_region_held3 (fun w'=>w'.cell? ⟨w.heap.size,0,none⟩=some (.int .i64 d.k)/\w'.cell? ⟨w.heap.size,1,none⟩=some (.int .i64 d.a)/\w'.cell? ⟨w.heap.size,2,none⟩=some (.int .i64 d.b))
   (first|(with_reducible exact⟨by assumption,by assumption,by assumption⟩)|go_keep|(exact⟨al1 (by assumption) (by assumption),al1 (by assumption) (by assumption),al1 (by assumption) (by assumption)⟩))
   (first|(go_at_call 134;refine Calls.mono (yj _ l _ (HR.out.below bel_) hle) ?_;rintro e w1 ⟨v1,rfl,Hj,h9⟩;(have Gb:=bdC h9);have H8:=h9.size;(try simp at H8);(try have gR:=p0_ w w1);(try have Gk:=p1_ w w1);(have UQ:w0.heap.size<=w1.heap.size:=by omega);(try have uJ:w0.heap.size<w1.heap.size:=by omega);(try have z00:w1.cell? ⟨w0.heap.size,0,none⟩=some (.int .i64 d.k):=(Gb (w0.heap.size) 0 (by first|omega|(simp;done)|(simp;omega))).trans (by simp;done));(try have z01:w1.cell? ⟨w0.heap.size,1,none⟩=some (.int .i64 d.a):=(Gb (w0.heap.size) 1 (by first|omega|(simp;done)|(simp;omega))).trans (by simp;done));(try have z02:w1.cell? ⟨w0.heap.size,2,none⟩=some (.int .i64 d.b):=(Gb (w0.heap.size) 2 (by first|omega|(simp;done)|(simp;omega))).trans (by simp;done));(have s0:w1.cell? ⟨w.heap.size,0,none⟩=some (.int .i64 d.k):=(Gb w.heap.size 0 (by first|omega|(simp;omega))).trans (by(first|exact x_0|exact al1 x_0 o_)));(have s1:w1.cell? ⟨w.heap.size,1,none⟩=some (.int .i64 d.a):=(Gb w.heap.size 1 (by first|omega|(simp;omega))).trans (by(first|exact x_1|exact al1 x_1 o_)));(have s2:w1.cell? ⟨w.heap.size,2,none⟩=some (.int .i64 d.b):=(Gb w.heap.size 2 (by first|omega|(simp;omega))).trans (by(first|exact x_2|exact al1 x_2 o_))))|(refine QW rfl _ _ rfl w.heap.size v1 l d _ rfl rfl ?hg ?hgl ?hown hle ?hbs ?_;(case hg=>(first|(with_reducible exact new3)|exact⟨z00,z01,z02⟩));(case hgl=>(first|omega|(simp;done)|(simp;omega)));(case hown=>(first|exact zk.mono Hj (by first|omega|(simp;omega))|exact zk.mono (zk.kept Hj bel_) (by first|omega|(simp;done)|(simp;omega))));(case hbs=>(first|omega|(simp;omega)));intro A c w3 Hq gM;(have GZ:Below w0.heap.size w0 w3:=by(refine Below.grown ?_ gM ?_ ?_;(exact bel_);(focus (first|omega|(simp;done)|(simp;omega)));(intro q hq;have:=(World.ownsRow.lt Hj q hq).1;(first|omega|(simp at this;omega)))));(have s30:=(GZ.cell (p:=⟨w.heap.size,0,none⟩) q0).trans x_0);(have s31:=(GZ.cell (p:=⟨w.heap.size,1,none⟩) q0).trans x_1);(have s32:=(GZ.cell (p:=⟨w.heap.size,2,none⟩) q0).trans x_2);(have bQ:=h_ Hq);clear Hq gM)|fail)
  all_goals go_wp2
  all_goals go_meet
  all_goals exact⟨A,c,rfl,bQ.out,Hg.trans (GZ.mono Hg.size)⟩
 case rest=>
  obtain⟨A,c,rfl,hO,hB⟩:=hcut;obtain⟨w4,mw⟩:∃u,u=wc:=⟨_,rfl⟩;subst mw;have fd:=RDp.below Uf.out hB;have MP:zk w.heap.size w4 (.slice A (l.length+1) c) (l++[d]):=hO;clear x_0 x_1 x_2 hO
  go_wp2_with fail
  refine(Qs _ l _ fd).mono ?_
  rintro e w5 ⟨rfl,gf⟩;have f9:=RDp.below fd gf;have Bw:=zk.kept MP gf;have GR:=hB.trans (gf.mono hB.size);clear fd MP hB gf
  cases h1:qm l
  ·obtain⟨u1,u2⟩:=z21 (d:=d) (.inl h1)
   have Gc:l=E:=u1.symm.trans HE.out;have gw:false=BB:=u2.symm.trans gm.out;subst gw;subst Gc;clear u1 u2 HE gm
   go_wp2_with fail
   refine(yj _ l _ f9 hle).mono ?_
   rintro e w6 ⟨v6,rfl,fD,gk⟩;go_wp2;exact bodyPost_ret (v:= .tuple #[v6,.bool false]) (by simp[results,Tryz.results112,go_sem]) rfl ⟨_,rfl,zk.mono fD GR.size,GR.trans (gk.mono GR.size)⟩
  ·go_wp2_with fail
   refine(Qs _ (l++[d]) _ Bw.reads).mono ?_
   rintro e w6 ⟨rfl,gk⟩;have Fo:=RDp.below f9 gk;have bo:=zk.kept Bw gk;have CO:=GR.trans (gk.mono GR.size);clear f9 Bw GR gk
   cases h2:qm (l++[d])
   ·obtain⟨u1,u2⟩:=z21 (l:=l) (.inr h2)
    have Gc:l=E:=u1.symm.trans HE.out;have gw:false=BB:=u2.symm.trans gm.out;subst gw;subst Gc;clear u1 u2 HE gm
    go_wp2_with fail
    refine(yj _ l _ Fo hle).mono ?_
    rintro e w7 ⟨v7,rfl,bY,GT⟩;go_wp2;exact bodyPost_ret (v:= .tuple #[v7,.bool false]) (by simp[results,Tryz.results112,go_sem]) rfl ⟨_,rfl,zk.mono bY CO.size,CO.trans (GT.mono CO.size)⟩
   ·obtain⟨u1,u2⟩:=z65 h1 h2
    have Gc:l++[d]=E:=u1.symm.trans HE.out;have gw:true=BB:=u2.symm.trans gm.out;subst gw;have HE2:=h_ Gc;clear u1 u2 HE gm Gc;go_wp2;exact bodyPost_ret (v:= .tuple #[.slice A (l.length+1) c,.bool true]) (by simp[results,Tryz.results112,go_sem]) rfl ⟨_,rfl,by rw[<-HE2.out];exact bo,CO⟩
theorem z43 (v:Value) (l:List Dp) (d:Dp) (w:World) (h:RDp w v l) (hle:l.length<=1048576):
  Calls Tryz.prog 123 #[v,.agg #[.int .i64 d.k,.int .i64 d.a,.int .i64 d.b]] w (VX (adpL l d) (adpB l d) w):=by
 obtain⟨E,hE⟩:∃E,adpL l d=E:=⟨_,rfl⟩;obtain⟨BB,BV⟩:∃b,adpB l d=b:=⟨_,rfl⟩;rw[hE,BV];have HE:=h_ hE;have gm:=h_ BV;clear hE BV;obtain⟨w0,Ge⟩:∃u,u=w.alloc (.cells #[.int .i64 d.k,.int .i64 d.a,.int .i64 d.b] 48):=⟨_,rfl⟩;have FQ:Blk w0 w.heap.size 48 #[.int .i64 d.k,.int .i64 d.a,.int .i64 d.b]:=Ge▸Blk.newAt rfl;have Hg:Below w.heap.size w w0:=Ge▸(aaj _ _).alloc (aaa _) _;have rf:w0.heap.size=w.heap.size+1:=by rw[Ge];simp
 have Bx:=h_ Ge;have HR:=h_ (h.below Hg);have Uf:=h_ h;obtain⟨i0,hi,iz0,iz1,iz2⟩:=info_parts vB;clear h Ge
 go_enter Tryz.func123,Tryz.ntmps123
 go_upto_region 1 with (fail)
 rw[<-Bx.out];clear Bx;obtain⟨x_0,x_1,x_2⟩:=FQ.c3;have q0:w.heap.size<w0.heap.size:=o_
 clear FQ rf
 go_cut [6] (fun s6 wx=>∃A c,s6= .slice A (l.length+1) c/\zk w.heap.size wx (.slice A (l.length+1) c) (l++[d])/\Below w.heap.size w wx)
 case first=>
  go_region_held3 (fun w'=>w'.cell? ⟨w.heap.size,0,none⟩=some (.int .i64 d.k)/\w'.cell? ⟨w.heap.size,1,none⟩=some (.int .i64 d.a)/\w'.cell? ⟨w.heap.size,2,none⟩=some (.int .i64 d.b))
   (first|(with_reducible exact⟨by assumption,by assumption,by assumption⟩)|go_keep|(exact⟨al1 (by assumption) (by assumption),al1 (by assumption) (by assumption),al1 (by assumption) (by assumption)⟩))
   (first|(refine z0m rfl _ _ rfl w0.heap.size _ v l rfl rfl ?hown ?hr hle ?hbs ?_;(case hown=>(first|exact zG (by first|exact aaa _|(simp[World.drew];done)|(simp[World.drew];omega)) (by first|rfl|(simp[World.drew];done))|exact World.ownsRow.alloc (zG (aaa _) rfl) _));(case hr=>exact HR.out.below bel_);(case hbs=>(first|exact aaa _|(simp[World.drew];done)|(simp[World.drew];omega)));intro A1 c1 w2 Hm Gr;(have m6:Below w0.heap.size w0 w2:=by(refine Below.grown ?_ Gr ?_ ?_;(exact bel_);(focus (first|(simp;done)|(simp;omega)));(intro q hq;cases hq;(first|exact aaa _|(simp[World.drew];done)|(simp[World.drew];omega)))));(have hq2:w0.heap.size<=w2.heap.size:=m6.size);(try have zA:Blk w2 w0.heap.size 48 #[.int .i64 d.k,.int .i64 d.a,.int .i64 d.b]:=(Gr.block w0.heap.size (by first|(simp;done)|(simp;omega)) (by simp)).trans (Blk.alloc (Blk.newAt rfl) _));(try have zB:Blk w2 (w0.heap.size+1) 48 #[.int .i64 d.k,.int .i64 d.a,.int .i64 d.b]:=(Gr.block (w0.heap.size+1) (by first|(simp;done)|(simp;omega)) (by simp)).trans (Blk.newAt (by simp)));(have s20:=(m6.cell (p:=⟨w.heap.size,0,none⟩) q0).trans x_0);(have s21:=(m6.cell (p:=⟨w.heap.size,1,none⟩) q0).trans x_1);(have s22:=(m6.cell (p:=⟨w.heap.size,2,none⟩) q0).trans x_2);clear Gr)|(refine QW rfl _ _ rfl w0.heap.size (.slice A1 l.length c1) l d _ rfl rfl ?hg ?hgl ?hown hle ?hbs ?_;(case hg=>(first|(with_reducible exact new3)|exact⟨zA.cell 0,zA.cell 1,zA.cell 2⟩|exact⟨zB.cell 0,zB.cell 1,zB.cell 2⟩));(case hgl=>(first|omega|(simp[World.drew];done)|(simp[World.drew];omega)|exact zA.lt|exact zB.lt));(case hown=>(first|exact Hm|exact World.ownsRow.alloc Hm _));(case hbs=>(first|omega|(simp[World.drew];omega)));intro A c w3 Hq gM;(have GZ:Below w0.heap.size w0 w3:=by(refine Below.grown ?_ gM ?_ ?_;(exact bel_);(first|omega|(simp[World.drew];done)|(simp[World.drew];omega));(intro q hq;exact(World.ownsRow.lt Hm q hq).1)));(have s30:=(GZ.cell (p:=⟨w.heap.size,0,none⟩) q0).trans x_0);(have s31:=(GZ.cell (p:=⟨w.heap.size,1,none⟩) q0).trans x_1);(have s32:=(GZ.cell (p:=⟨w.heap.size,2,none⟩) q0).trans x_2);(have bQ:=h_ (zk.mono Hq (Nat.le_of_lt q0)));clear Hq gM)|fail)
  all_goals go_wp2
  all_goals go_meet
  all_goals exact⟨A,c,rfl,bQ.out,Hg.trans (GZ.mono Hg.size)⟩
 case rest=>
  obtain⟨A,c,rfl,hO,hB⟩:=hcut;obtain⟨w4,mw⟩:∃u,u=wc:=⟨_,rfl⟩;subst mw;have fd:=RDp.below Uf.out hB;have MP:zk w.heap.size w4 (.slice A (l.length+1) c) (l++[d]):=hO;clear x_0 x_1 x_2 hO
  go_wp2_with fail
  refine(Qq _ l _ fd).mono ?_
  rintro e w5 ⟨rfl,gf⟩;have f9:=RDp.below fd gf;have Bw:=zk.kept MP gf;have GR:=hB.trans (gf.mono hB.size);clear fd MP hB gf
  cases h1:qm l
  ·obtain⟨u1,u2⟩:=z21 (d:=d) (.inl h1)
   have Gc:l=E:=u1.symm.trans HE.out;have gw:false=BB:=u2.symm.trans gm.out;subst gw;subst Gc;clear u1 u2 HE gm
   go_wp2_with (at_builtin;refine zM rfl _ _ _ rfl w.heap.size 48 i0 (.agg #[.int .i64 0,.int .i64 0,.int .i64 0]) 3 24 Tryz.underlying32 hi iz0 iz1 iz2 rfl (by decide) (.slice (some ⟨w5.heap.size,0,none⟩) 0 0) v 0 l.length [] (l.flatMap Dp.cs) rfl rfl (zG GR.size rfl) (f9.below bel_) (jD l) o_ (by decide) (by have:=GR.size;simp;omega) ?_)
   intro A6 c6 w6 fD F7 _;have W9:=(GR.alloc GR.size (.cells #[] 48)).grown F7 (by have:=GR.size;simp;omega) (fun q hq=>by cases hq;exact GR.size);have b9:Hid (zk w.heap.size w6 (.slice A6 l.length c6) l):=h_ fD;clear fD F7;go_wp2;exact bodyPost_ret (v:= .tuple #[.slice A6 l.length c6,.bool false]) (by simp[results,Tryz.results123,go_sem]) rfl ⟨_,rfl,b9.out,W9⟩
  ·go_wp2_with fail
   refine(Qq _ (l++[d]) _ Bw.reads).mono ?_
   rintro e w6 ⟨rfl,gk⟩;have Fo:=RDp.below f9 gk;have bo:=zk.kept Bw gk;have CO:=GR.trans (gk.mono GR.size);clear f9 Bw GR gk
   cases h2:qm (l++[d])
   ·obtain⟨u1,u2⟩:=z21 (l:=l) (.inr h2)
    have Gc:l=E:=u1.symm.trans HE.out;have gw:false=BB:=u2.symm.trans gm.out;subst gw;subst Gc;clear u1 u2 HE gm
    go_wp2_with (at_builtin;refine zM rfl _ _ _ rfl w.heap.size 48 i0 (.agg #[.int .i64 0,.int .i64 0,.int .i64 0]) 3 24 Tryz.underlying32 hi iz0 iz1 iz2 rfl (by decide) (.slice (some ⟨w6.heap.size,0,none⟩) 0 0) v 0 l.length [] (l.flatMap Dp.cs) rfl rfl (zG CO.size rfl) (Fo.below bel_) (jD l) o_ (by decide) (by have:=CO.size;simp;omega) ?_)
    intro A6 c6 w7 fD F7 _;have W9:=(CO.alloc CO.size (.cells #[] 48)).grown F7 (by have:=CO.size;simp;omega) (fun q hq=>by cases hq;exact CO.size);have b9:Hid (zk w.heap.size w7 (.slice A6 l.length c6) l):=h_ fD;clear fD F7;go_wp2;exact bodyPost_ret (v:= .tuple #[.slice A6 l.length c6,.bool false]) (by simp[results,Tryz.results123,go_sem]) rfl ⟨_,rfl,b9.out,W9⟩
   ·obtain⟨u1,u2⟩:=z65 h1 h2
    have Gc:l++[d]=E:=u1.symm.trans HE.out;have gw:true=BB:=u2.symm.trans gm.out;subst gw;have HE2:=h_ Gc;clear u1 u2 HE gm Gc;go_wp2;exact bodyPost_ret (v:= .tuple #[.slice A (l.length+1) c,.bool true]) (by simp[results,Tryz.results123,go_sem]) rfl ⟨_,rfl,by rw[<-HE2.out];exact bo,CO⟩
end Go.Proofs.YtnjcpljhmhdhkaaGreat
