/- part 31 -/
import Derived.Test.YtnjcpljhmhdhkaaGreatEPk24
import Derived.Deep.RegionHeld3
set_option linter.unusedSimpArgs false
set_option linter.unusedVariables false
set_option maxRecDepth 100000
set_option maxHeartbeats 16000000
namespace Go.Proofs.YtnjcpljhmhdhkaaGreat
open Go.RowKit
theorem z5a (k:Nat):List.replicate k (-1:Int)++[-1]=List.replicate (k+1) (-1):=by rw[List.replicate_succ']
theorem z56 (n:Nat) (w:World) (h:n<=40):
  Calls Tryz.prog 181 #[.int .i64 n] w (RetI (List.replicate n (-1)) w):=by
 have Hg:Below w.heap.size w (w.alloc (.cells #[] 3)):=bel_
 have CZ:OwnI w.heap.size (w.alloc (.cells #[] 3)) (.slice (some ⟨w.heap.size,0,none⟩) 0 0) (List.replicate 0 (-1)):=OwnI.made rfl (aaa _)
 go_enter Tryz.func181,Tryz.ntmps181
 go_wp2
 go_loopw [3,4] (fun v x wr=>∃k:Nat,k<=n/\x= .int .i64 k/\OwnI w.heap.size wr v (List.replicate k (-1))/\Below w.heap.size w wr) (fun _ x _=>n -(intOf x).toNat)
 case atStart=>exact⟨0,aab _,rfl,CZ,Hg⟩
 case round=>
  clear CZ Hg;obtain⟨k,hk,rfl,ho,hB⟩:=hrel;have gx:=hB.size
  by_cases Hf:k<n
  ·have Hp:(k:Int)<(n:Int):=o_
   have Hj:(List.replicate k (-1:Int)).length <=40:=by simp;omega
   have HS:=h_ (z5a k);generalize List.replicate k (-1:Int)=G at*
   go_wp2_with (at_builtin;refine qH rfl _ _ rfl w.heap.size _ G (-1) rfl wr.heap.size rfl (jA rfl) (ho.alloc _) o_ (by simp;omega) ?_)
   intro v2 w2 Hk gm gR;have Hd:Below w.heap.size w w2:=(hB.alloc hB.size (.cells #[.int .i64 (-1)] 3)).grown gm (by simp;omega) (fun q hq=>by have:=(ho.lt q hq).1;omega);clear gm gR ho hB;go_wp2;go_roundw
   case rel=>exact⟨k+1,by omega,by go_num,by rw[<-HS.out];exact Hk,Hd⟩
   case measure=>simp[intOf];omega
  ·have gi:k=n:=o_
   subst gi;go_wp2;go_ret
   exact⟨_,rfl,ho,hB⟩
def noW (F:Nat):List Int:=List.replicate F (-1)
theorem Qs (F:Nat):(noW F).length =F:=by simp[noW]
theorem z0D {F k:Nat} (h:k<F):(noW F).getD k 0= -1:=by simp[noW,List.getD,h]
theorem z6b {F k:Nat} {x:Int} (h:k<F):ZX (noW F) k x=true:=z52 h
structure SrA (w:World) (b F:Nat) (adj:Nat->Nat->Bool) (vg:Value):Prop where
 tab:z1r w b 0 F adj
 wish:RI w vg (noW F)
theorem SrA.below {w w':World} {b F:Nat} {adj:Nat->Nat->Bool} {vg:Value} (h:SrA w b F adj vg) (hb:Below w.heap.size w w'):SrA w' b F adj vg:=⟨h.tab.below hb,h.wish.below hb⟩
theorem z39 (F n b cT:Nat) (adj:Nat->Nat->Bool) (vg:Value) (hF:F<=40) (hn:n<=6):
  ∀(r:Nat) (hd:List Int) (vh:Value) (w:World),hd.length+r=F->SrA w b F adj vg->RI w vh hd->
   Calls Tryz.prog 180 #[.slice (some ⟨b,0,none⟩) F cT,vg,.int .i64 n,vh] w (z24 ((srch adj (noW F) n r hd).getD []) (srch adj (noW F) n r hd).isSome w):=by
 intro r;obtain⟨i0,hi,iz0,iz1,iz2⟩:=info_parts qu
 induction r with
 |zero=>
  intro hd vh w hl hA hH;obtain⟨Ah,ch,rfl,hch,Y5,_⟩:=hH.form;unfold maxLen at Y5;have HH:=h_ hH;have HR:Hid (srch adj (noW F) n 0 hd=some hd):=h_ rfl;have e1:((hd.length:Int)==(F:Int))=true:=by rw[show hd.length=F by omega];simp
  have Hg:Below w.heap.size w (w.alloc (.cells #[] 3)):=bel_
  clear hH hA
  go_enter Tryz.func180,Tryz.ntmps180
  go_wp2_with (at_builtin;refine qT rfl _ _ _ rfl w.heap.size 3 i0 (.int .i64 0) 1 8 Tryz.underlying31 hi iz0 iz1 iz2 rfl (by decide) (.slice (some ⟨w.heap.size,0,none⟩) 0 0) _ 0 hd.length [] (hd.map vI) rfl rfl (qh (aaa _) rfl) (RI.below HH.out Hg) (z9K hd) o_ (by decide) (by simp) ?_)
  intro A2 c2 w4 gH Gc _;have Hn:Below w.heap.size w w4:=Hg.grown Gc (by simp) (fun q hq=>by cases hq;exact aaa _);have HO:Hid (OwnI w.heap.size w4 (.slice A2 (0+hd.length) c2) hd):=h_ (by unfold OwnI;simpa using gH);clear gH Gc;go_wp2;exact bodyPost_ret (v:= .tuple #[.slice A2 (0+hd.length) c2,.bool true]) (by simp[results,Tryz.results180,go_sem]) rfl ⟨_,by rw[HR.out];rfl,by rw[HR.out];exact HO.out,Hn⟩
 |succ r ih=>
  intro hd vh w hl hA hH;obtain⟨Ah,ch,rfl,hch,Y5,nf⟩:=hH.form;obtain⟨Ag,cg,rfl,hcg,hmg,mc⟩:=hA.wish.form;unfold maxLen at Y5 hmg;rw[Qs] at hcg hmg mc hA ih⊢;obtain⟨bg,og,rfl,Ce,WJ⟩:=mc o_;obtain⟨k,hk⟩:∃k,hd.length=k:=⟨_,rfl⟩;have Mm:k<F:=o_
  have hx:=WJ k Mm;rw[z0D Mm] at hx;have HIH:=h_ ih;have HA:=h_ hA;have hHk:RI w (.slice Ah k ch) hd:=by rw[<-hk];exact hH
  have HH:=h_ hHk;have hTB:=hA.tab.1;have HT:=h_ hA.tab.2;have Y3:=h_ nf;have e1:((hd.length:Int)==(F:Int))=false:=by rw[hk];exact beq_eq_false_iff_ne.2 o_
  have HWY:Hid (∀x:Int,ZX (noW F) k x=true):=h_ (fun x=>z6b Mm);have NX:=h_ (fun (x:Nat) h=>z5C (adj:=adj) (gv:=noW F) (n:=n) (r:=r) (hd:=hd) (x:=x) h);have WK:=h_ (fun (x:Nat) h1 h2=>z6L (adj:=adj) (gv:=noW F) (n:=n) (r:=r) (hd:=hd) (x:=x) h1 h2);have HHI:=h_ (fun (x:Nat) (L:List Int) hx hp h=>z1f (adj:=adj) (gv:=noW F) (n:=n) (r:=r) (hd:=hd) (L:=L) (x:=x) hx hp h);have HMI:=h_ (fun hp=>Xu (adj:=adj) (gv:=noW F) (n:=n) (r:=r) (hd:=hd) hp);have Ro:=h_ (fun (x:Int) (i:Nat)=>z2B (adj:=adj) (hd:=hd) (k:=k) (x:=x) (i:=i));have HOA:Hid (∀x:Int,okP adj hd k x k=okC adj hd k x):=h_ (fun _=>rfl);have Rv:Hid (∀x:Int,okP adj hd k x 0=true):=h_ (fun _=>rfl);rw[hk] at NX WK;have WL:=h_ hk;have HLR:=h_ hl;generalize srch adj (noW F) n (r+1) hd=RR at*;clear hA hH hHk ih nf mc WJ hl;rw[hk];rw[hk] at e1 hch Y5 Y3;have ik1:(0:Int)<=(k:Int):=o_
  have ik2:(k:Int)<(F:Int):=o_
  clear hk
  go_enter Tryz.func180,Tryz.ntmps180
  go_wp2
  go_loopw [11] (fun s wr=>∃x:Nat,x<=n/\s= .int .i64 x/\Hid (∀y,y<x->srF adj (noW F) n r hd y=none)/\Below w.heap.size w wr) (fun s _=>n -(intOf s).toNat)
  case atStart=>exact⟨0,aab _,rfl,h_ (fun y hy=>absurd hy o_),aaj _ _⟩
  case round=>
   obtain⟨x,hxn,rfl,HP,hB⟩:=hrel;have gx:=hB.size;have Hb:b<wr.heap.size:=o_
   have hbg':bg<wr.heap.size:=o_
   have MR:=(hB.cell (p:=⟨bg,og+k,none⟩) Ce).trans hx
   by_cases Hf:x<n
   ·have Hp:(x:Int)<(n:Int):=o_
    have HB:=h_ hB;clear hB;go_wp2;obtain⟨wq,FI⟩:∃u,u=wr:=⟨_,rfl⟩;rw[<-FI]
    go_loopw [12,13] (fun s t w2=>∃i:Nat,i<=k/\t= .int .i64 i/\s= .bool (okP adj hd k x i)/\w2=wr) (fun _ t _=>k -(intOf t).toNat)
    case atStart=>exact⟨0,aab _,rfl,by rw[Rv.out],FI⟩
    case round=>
     clear FI wq;obtain⟨i,RE,rfl,rfl,rfl⟩:=hrel
     by_cases cf:i<k
     ·have WF:(i:Int)<(k:Int):=o_
      have ii1:(0:Int)<=(i:Int):=o_
      have ii2:(i:Int)<(F:Int):=o_
      obtain⟨bi,hbi,bk,Gj⟩:=HT.out i o_;have gc:=Gj k Mm;obtain⟨bh,oh,rfl,hbh,WM⟩:=Y3.out o_;have gE:=WM i cf;have q0:=(HB.out.cell (p:=⟨b,0+i,none⟩) hTB).trans bk;have q1:=(HB.out.cell (p:=⟨bi,k,none⟩) hbi).trans gc;have q2:=(HB.out.cell (p:=⟨bh,oh+i,none⟩) hbh).trans gE;rw[aaF] at q0;have HS:=h_ (Ro.out x i);clear bk Gj gc gE WM;generalize adj i k=a at*;generalize hd.getD i 0=h at*;generalize okP adj hd k x i=o at*
      cases o
      ·go_wp2
       go_roundw
       case rel=>exact⟨i+1,by omega,by go_num,by rw[HS.out];rfl,by trivial⟩
       case measure=>simp[intOf];omega
      ·cases a
       ·go_wp2
        go_roundw
        case rel=>exact⟨i+1,by omega,by go_num,by rw[HS.out];rfl,by trivial⟩
        case measure=>simp[intOf];omega
       ·by_cases he:h=(x:Int)
        ·have e2:(h==(x:Int))=true:=beq_iff_eq.2 he
         rw[e2] at HS;clear he;go_wp2;go_roundw
         case rel=>exact⟨i+1,by omega,by go_num,by rw[HS.out];rfl,by trivial⟩
         case measure=>simp[intOf];omega
        ·have e2:(h==(x:Int))=false:=beq_eq_false_iff_ne.2 he
         rw[e2] at HS;clear he;go_wp2;go_roundw
         case rel=>exact⟨i+1,by omega,by go_num,by rw[HS.out];rfl,by trivial⟩
         case measure=>simp[intOf];omega
     ·have Ns:i=k:=o_
      subst Ns;rw[HOA.out];have uY:=h_ (NX.out x);have uZ:=h_ (WK.out x (HWY.out x));generalize okC adj hd i (x:Int)=o at*
      cases o
      ·have HX:=h_ (uY.out rfl)
       have Fd:=h_ (xO HP.out HX.out);go_wp2;go_roundw
       case rel=>exact⟨x+1,by omega,by go_num,Fd,HB.out⟩
       case measure=>simp[intOf];omega
      ·have HX:=h_ (uZ.out rfl)
       have Hg:Below wr.heap.size wr (wr.alloc (.cells #[] 3)):=bel_
       go_wp2_with (at_builtin;refine qT rfl _ _ _ rfl wr.heap.size 3 i0 (.int .i64 0) 1 8 Tryz.underlying31 hi iz0 iz1 iz2 rfl (by decide) (.slice (some ⟨wr.heap.size,0,none⟩) 0 0) (.slice Ah i ch) 0 hd.length [] (hd.map vI) rfl rfl (qh (aaa _) rfl) (RI.below HH.out (HB.out.trans (Hg.mono o_))) (z9K hd) (by have:=WL.out;omega) (by decide) (by simp) ?_)
       intro A2 c2 w4 gH Gc _;have Hw:Below wr.heap.size wr w4:=Hg.grown Gc (by simp) (fun q hq=>by cases hq;exact aaa _);have u9:OwnI wr.heap.size w4 (.slice A2 hd.length c2) hd:=by unfold OwnI;simpa using gH
       have bv:=Hw.size;clear gH Gc Hg
       go_wp2_with (at_builtin;refine qH rfl _ _ rfl wr.heap.size (.slice A2 hd.length c2) hd (x:Int) rfl w4.heap.size rfl (jA rfl) (u9.alloc _) (by have:=WL.out;omega) (by simp;omega) ?_)
       intro v5 w5 fG FW _;have H0:Below wr.heap.size wr w5:=(Hw.alloc bv (.cells #[.int .i64 x] 3)).grown FW (by simp;omega) (fun q hq=>by have:=(u9.lt q hq).1;omega);have Hv:=HB.out.trans (H0.mono HB.out.size);have HC:=h_ (HIH.out (hd++[(x:Int)]) v5 w5 (by have:=HLR.out;simp;omega) (HA.out.below Hv) fG.reads);have fH:=h_ Hv;clear u9 FW Hw fG Hv H0
       go_wp2_with fail
       refine HC.out.mono ?_
       rw[<-HX.out];rintro e w6 ⟨v6,rfl,G2,gz⟩;have rQ:=h_ (fH.out.trans (gz.mono fH.out.size));have Cd:=h_ (OwnI.mono G2 (fH.out.size));clear G2 gz HC;obtain⟨oo,WN⟩:∃o,srF adj (noW F) n r hd x=o:=⟨_,rfl⟩;rw[WN] at Cd⊢
       cases oo with
       |none=>
        have Fd:=h_ (xO HP.out WN);clear WN;go_wp2;go_roundw
        case rel=>exact⟨x+1,by omega,by go_num,Fd,rQ.out⟩
        case measure=>simp[intOf];omega
       |some L=>
        have HR:=h_ (HHI.out x L Hf HP.out WN);clear WN;go_wp2;exact bodyPost_ret (v:= .tuple #[v6,.bool true]) (by simp[results,Tryz.results180,go_sem]) rfl ⟨_,by rw[HR.out];rfl,by rw[HR.out];exact Cd.out,rQ.out⟩
   ·have hxx:x=n:=o_
    subst hxx;have HR:=h_ (HMI.out HP.out);have HO:Hid (OwnI w.heap.size (wr.alloc (.cells #[] 3)) (.slice (some ⟨wr.heap.size,0,none⟩) 0 0) []):=h_ (OwnI.made rfl o_);have gw:=h_ (hB.alloc hB.size (.cells #[] 3));clear hB;go_wp2;exact bodyPost_ret (v:= .tuple #[.slice (some ⟨wr.heap.size,0,none⟩) 0 0,.bool false]) (by simp[results,Tryz.results180,go_sem]) rfl ⟨_,by rw[HR.out];rfl,by rw[HR.out];exact HO.out,gw.out⟩
attribute [local go_sem ↓] zr zt zR zQ
def V4 (ns:List Pr) (x y:Int):List Pr:=ns++[(x,y)]
def Qa (ns ls:List Pr) (k:Nat):List Pr:=(ls++[((ndI ls k).2,(ns.length:Int))]).set k ((ndI ls k).1,(ns.length:Int))
noncomputable def splB (ns ls:List Pr) (k:Nat) (x y:Int):Bool:=jh (ndI ns (ndI ls k).1) (ndI ns (ndI ls k).2) (x,y)&&winB (V4 ns x y) (Qa ns ls k)
noncomputable def splN (ns ls:List Pr) (k:Nat) (x y:Int):List Pr:=if splB ns ls k x y then V4 ns x y else ns
noncomputable def splL (ns ls:List Pr) (k:Nat) (x y:Int):List Pr:=if splB ns ls k x y then Qa ns ls k else ls
theorem QV {ns ls:List Pr} {k:Nat} {x y:Int} (h:splB ns ls k x y=true):splN ns ls k x y=V4 ns x y/\splL ns ls k x y=Qa ns ls k:=by simp[splN,splL,h]
theorem Qm {ns ls:List Pr} {k:Nat} {x y:Int} (h:splB ns ls k x y=false):splN ns ls k x y=ns/\splL ns ls k x y=ls:=by simp[splN,splL,h]
theorem z8p {ns ls:List Pr} (h:zC ns ls) (k:Nat) (x y:Int):zC (splN ns ls k x y) (splL ns ls k x y):=by
 cases hb:splB ns ls k x y
 ·rw[(Qm hb).1,(Qm hb).2];exact h
 ·rw[(QV hb).1,(QV hb).2]
  unfold splB at hb;rw[aaG] at hb;exact zq.1 hb.2
theorem z6G (ns ls:List Pr) (k:Nat) (x y:Int):ls.length<=(splL ns ls k x y).length :=by
 cases hb:splB ns ls k x y
 ·rw[(Qm hb).2];omega
 ·rw[(QV hb).2];simp[Qa]
theorem XL:∀(l:List (Int×Int)) (k:Nat) (y:Int) (hk:k<l.length),(l.set k (l[k].1,y)).flatMap prc=(l.flatMap prc).set (k*2+1) (.int .i64 y)
 | [],k,y,h=>absurd h (by simp)
 |a::l,0,y,h=>by simp[prc]
 |a::l,k+1,y,h=>by
  have ih:=XL l k y (by simpa using h);have e:(k+1)*2+1=(k*2+1)+1+1:=o_
  rw[aap,aam,aam,e];simp only[List.getElem_cons_succ]
  rw[ih];simp[prc]
theorem OwnP.set2 {t:TypeId} {base:Nat} {w:World} {g n cap:Nat} {G:List (Int×Int)} (h:OwnP t base w (.slice (some ⟨g,0,none⟩) n cap) G) {q:Nat} (hq:q<G.length) (y:Int):
  OwnP t base (w.setCell ⟨g,q*2+1,none⟩ (.int .i64 y)) (.slice (some ⟨g,0,none⟩) n cap) (G.set q (G[q].1,y)):=by
 have e:=h.len;subst e;have ho:w.ownsRow base t 2 (.slice (some ⟨g,0,none⟩) G.length cap) G.length (G.flatMap prc):=h;have:=(ho.stored (q*2+1) (.int .i64 y)).1;unfold OwnP;rw[aar,XL G q y hq];exact this
structure SpSt (w:World) (vn vl:Value) (x y:Int) (T:Nat) (An:Option Addr) (cn:Nat) (Al:Option Addr) (cl:Nat) (N L:List Pr) (wr:World):Prop where
 A:Blk wr w.heap.size 27 #[vn,vl]
 P:Blk wr (w.heap.size+1) 106 #[.int .i64 x,.int .i64 y]
 R:Blk wr (w.heap.size+1+1) 27 #[.slice none 0 0,.slice none 0 0]
 T_:Blk wr T 27 #[.slice An N.length cn,.slice Al L.length cl]
 own:OwnW (w.heap.size+1+1+1) wr (.slice An N.length cn) (.slice Al L.length cl) N L
 lt:w.heap.size+1+1<T
 far:∀b,zi (.slice An N.length cn) (.slice Al L.length cl) b->¬b=T
 blw:Below w.heap.size w wr
section
variable {w:World} {vn vl:Value} {x y:Int} {T:Nat} {An:Option Addr} {cn:Nat} {Al:Option Addr} {cl:Nat} {N L:List Pr} {wr w':World}
theorem SpSt.below (h:SpSt w vn vl x y T An cn Al cl N L wr) (hb:Below wr.heap.size wr w'):SpSt w vn vl x y T An cn Al cl N L w':=
 ⟨h.A.below hb h.A.lt,h.P.below hb h.P.lt,h.R.below hb h.R.lt,h.T_.below hb h.T_.lt,h.own.kept hb,h.lt,h.far,h.blw.trans (hb.mono h.blw.size)⟩
theorem SpSt.alloc (h:SpSt w vn vl x y T An cn Al cl N L wr) (o:Obj):SpSt w vn vl x y T An cn Al cl N L (wr.alloc o):=h.below ((aaj _ _).alloc (aaa _) o)
theorem SpSt.drew (h:SpSt w vn vl x y T An cn Al cl N L wr):SpSt w vn vl x y T An cn Al cl N L wr.drew:=h.below (aaj _ _).drew
theorem SpSt.putN (h:SpSt w vn vl x y T An cn Al cl N L wr) {A':Option Addr} {c' n:Nat} {N':List Pr} (hn:n=N'.length) (ho:OwnP 106 (w.heap.size+1+1+1) w' (.slice A' n c') N')
  (hg:wr.grownBy w' (Value.slice An N.length cn).ownBlock) (hv:(Value.slice A' n c').ownBlock =(Value.slice An N.length cn).ownBlock ∨(Value.slice A' n c').ownBlock =some wr.heap.size):
  SpSt w vn vl x y T A' c' Al cl N' L (w'.setCell ⟨T,0,none⟩ (.slice A' n c')):=by
 subst hn;have hT:=h.T_.lt;have Hf:=h.own.lt;have Hq:∀k,(Value.slice An N.length cn).ownBlock =some k->w.heap.size+1+1+1<=k/\¬k=T:=fun k hk=>⟨(Hf k (.inl hk)).1,h.far k (.inl hk)⟩
 have fO:∀k,(Value.slice A' N'.length c').ownBlock =some k->(w.heap.size+1+1+1<=k/\¬k=T)/\¬(Value.slice Al L.length cl).ownBlock =some k:=fun k hk=>by
  rcases hv with hv|hv
  ·exact⟨Hq k (hv▸hk),fun e=>h.own.2.2 k (hv▸hk) e⟩
  ·rw[hv] at hk;cases hk
   exact⟨by have:=h.lt;omega,fun e=>by have:=(Hf _ (.inr e)).2;omega⟩
 have Gm:=h.own.2.1.apart hg (fun k hk gG=>h.own.2.2 k gG hk);have UB:OwnW (w.heap.size+1+1+1) w' (.slice A' N'.length c') (.slice Al L.length cl) N' L:=⟨ho,Gm,fun k hk gG=>(fO k hk).2 gG⟩;have WO:=h.lt
 refine⟨(h.A.grownR hg (fun k hk=>by have:=(Hq k hk).1;omega)).far (p:=⟨T,0,none⟩) (show w.heap.size≠T by omega) _,(h.P.grownR hg (fun k hk=>by have:=(Hq k hk).1;omega)).far (p:=⟨T,0,none⟩) (show w.heap.size+1≠T by omega) _,
  (h.R.grownR hg (fun k hk=>by have:=(Hq k hk).1;omega)).far (p:=⟨T,0,none⟩) (show w.heap.size+1+1≠T by omega) _,(h.T_.grownR hg (fun k hk=>(Hq k hk).2)).set_ 0 _,
  UB.setFar (p:=⟨T,0,none⟩) (fun hk=>?_) _,WO,fun b hb=>?_,(h.blw.grown hg h.blw.size (fun k hk=>by have:=(Hq k hk).1;omega)).setCell (p:=⟨T,0,none⟩) (show w.heap.size<=T by omega) _⟩
 ·rcases hk with hk|hk
  ·exact(fO T hk).1.2 rfl
  ·exact h.far T (.inr hk) rfl
 ·rcases hb with hb|hb
  ·exact(fO b hb).1.2
  ·exact h.far b (.inr hb)
theorem SpSt.putL (h:SpSt w vn vl x y T An cn Al cl N L wr) {A':Option Addr} {c' n:Nat} {L':List Pr} (hn:n=L'.length) (ho:OwnP 108 (w.heap.size+1+1+1) w' (.slice A' n c') L')
  (hg:wr.grownBy w' (Value.slice Al L.length cl).ownBlock) (hv:(Value.slice A' n c').ownBlock =(Value.slice Al L.length cl).ownBlock ∨(Value.slice A' n c').ownBlock =some wr.heap.size):
  SpSt w vn vl x y T An cn A' c' N L' (w'.setCell ⟨T,1,none⟩ (.slice A' n c')):=by
 subst hn;have hT:=h.T_.lt;have Hf:=h.own.lt;have Hq:∀k,(Value.slice Al L.length cl).ownBlock =some k->w.heap.size+1+1+1<=k/\¬k=T:=fun k hk=>⟨(Hf k (.inr hk)).1,h.far k (.inr hk)⟩
 have fO:∀k,(Value.slice A' L'.length c').ownBlock =some k->(w.heap.size+1+1+1<=k/\¬k=T)/\¬(Value.slice An N.length cn).ownBlock =some k:=fun k hk=>by
  rcases hv with hv|hv
  ·exact⟨Hq k (hv▸hk),fun e=>h.own.2.2 k e (hv▸hk)⟩
  ·rw[hv] at hk;cases hk
   exact⟨by have:=h.lt;omega,fun e=>by have:=(Hf _ (.inl e)).2;omega⟩
 have Gm:=h.own.1.apart hg (fun k hk gG=>h.own.2.2 k hk gG);have UB:OwnW (w.heap.size+1+1+1) w' (.slice An N.length cn) (.slice A' L'.length c') N L':=⟨Gm,ho,fun k hk gG=>(fO k gG).2 hk⟩;have WO:=h.lt
 refine⟨(h.A.grownR hg (fun k hk=>by have:=(Hq k hk).1;omega)).far (p:=⟨T,1,none⟩) (show w.heap.size≠T by omega) _,(h.P.grownR hg (fun k hk=>by have:=(Hq k hk).1;omega)).far (p:=⟨T,1,none⟩) (show w.heap.size+1≠T by omega) _,
  (h.R.grownR hg (fun k hk=>by have:=(Hq k hk).1;omega)).far (p:=⟨T,1,none⟩) (show w.heap.size+1+1≠T by omega) _,(h.T_.grownR hg (fun k hk=>(Hq k hk).2)).set_ 1 _,
  UB.setFar (p:=⟨T,1,none⟩) (fun hk=>?_) _,WO,fun b hb=>?_,(h.blw.grown hg h.blw.size (fun k hk=>by have:=(Hq k hk).1;omega)).setCell (p:=⟨T,1,none⟩) (show w.heap.size<=T by omega) _⟩
 ·rcases hk with hk|hk
  ·exact h.far T (.inl hk) rfl
  ·exact(fO T hk).1.2 rfl
 ·rcases hb with hb|hb
  ·exact h.far b (.inl hb)
  ·exact(fO b hb).1.2
theorem SpSt.setTo {g:Nat} (h:SpSt w vn vl x y T An cn (some ⟨g,0,none⟩) cl N L wr) {q:Nat} (hq:q<L.length) (z:Int):
  SpSt w vn vl x y T An cn (some ⟨g,0,none⟩) cl N (L.set q (L[q].1,z)) (wr.setCell ⟨g,q*2+1,none⟩ (.int .i64 z)):=by
 have Hf:=h.own.lt;have hg:=Hf g (.inr rfl);have hgT:=h.far g (.inr rfl);have WO:=h.lt;have hl:=h.own.2.1.set2 hq z
 refine⟨h.A.far (p:=⟨g,q*2+1,none⟩) (show w.heap.size≠g by omega) _,h.P.far (p:=⟨g,q*2+1,none⟩) (show w.heap.size+1≠g by omega) _,h.R.far (p:=⟨g,q*2+1,none⟩) (show w.heap.size+1+1≠g by omega) _,
  by rw[aar];exact h.T_.far (p:=⟨g,q*2+1,none⟩) (fun e=>hgT e.symm) _,
  ⟨h.own.1.apart (qS wr ⟨g,q*2+1,none⟩ _) (fun k hk gG=>by cases gG;exact h.own.2.2 g hk rfl),by rw[aar];exact hl,h.own.2.2⟩,WO,h.far,h.blw.setCell (p:=⟨g,q*2+1,none⟩) (show w.heap.size<=g by omega) _⟩
theorem SpSt.fin (h:SpSt w vn vl x y T An cn Al cl N L wr) (u0 u1:Value):
  OwnW w.heap.size ((wr.setCell ⟨w.heap.size+1+1,0,none⟩ u0).setCell ⟨w.heap.size+1+1,1,none⟩ u1) (.slice An N.length cn) (.slice Al L.length cl) N L/\
  Below w.heap.size w ((wr.setCell ⟨w.heap.size+1+1,0,none⟩ u0).setCell ⟨w.heap.size+1+1,1,none⟩ u1):=
 ⟨((h.own.setLow (p:=⟨w.heap.size+1+1,0,none⟩) (show w.heap.size+1+1<w.heap.size+1+1+1 by omega) u0).setLow (p:=⟨w.heap.size+1+1,1,none⟩) (show w.heap.size+1+1<w.heap.size+1+1+1 by omega) u1).mono o_,
  (h.blw.setCell (p:=⟨w.heap.size+1+1,0,none⟩) (show w.heap.size<=w.heap.size+1+1 by omega) u0).setCell (p:=⟨w.heap.size+1+1,1,none⟩) (show w.heap.size<=w.heap.size+1+1 by omega) u1⟩
end
theorem z6J (a b c:Pr) (x:Bool) (w:World) (h:jh a b c=x):
  Calls Tryz.prog 240 #[.agg #[.int .i64 a.1,.int .i64 a.2],.agg #[.int .i64 b.1,.int .i64 b.2],.agg #[.int .i64 c.1,.int .i64 c.2]] w
   fun e w'=>e= .returned (.bool x)/\Below w.heap.size w w':=by
 subst h;exact vk _ _ _ _ _ _ w
attribute [local go_sem ↓] zr zt zR zQ
theorem z35 (vn vl:Value) (ns ls:List Pr) (k:Nat) (x y:Int) (w:World) (hn:RP w vn ns) (hl:RP w vl ls) (hw:zC ns ls) (hk:k<ls.length):
  Calls Tryz.prog 259 #[.agg #[vn,vl],.int .i64 k,.agg #[.int .i64 x,.int .i64 y]] w (zG (splN ns ls k x y) (splL ns ls k x y) (splB ns ls k x y) w):=by
 obtain⟨i0,hi,iz0,iz1,iz2⟩:=info_parts ko;obtain⟨j0,hj,jz0,jz1,jz2⟩:=info_parts jb;obtain⟨An,cn,rfl,Fk,GL,Hl⟩:=hn.formI;obtain⟨Al,cl,rfl,Hy,Gz,H9⟩:=hl.formI;unfold maxLen at GL Gz;have gV:=zq.2 hw;have f8:=hw.2.1;have BW:=hw.1;have WP:=hw.2.2.1;obtain⟨p1,p2,p3,_⟩:=zZ.1 (hw.2.2.2.2.2 k hk).1;obtain⟨p,hp⟩:∃p:Nat,(ndI ls k).1=p:=⟨(ndI ls k).1.toNat,by omega⟩;obtain⟨q,hq⟩:∃q:Nat,(ndI ls k).2=q:=⟨(ndI ls k).2.toNat,by omega⟩;obtain⟨bn,offn,rfl,Gd,me⟩:=Hl o_;obtain⟨bl,offl,rfl,Hb,ng⟩:=H9 o_;obtain⟨l0,l1⟩:=ng k hk;obtain⟨a0,a1⟩:=me p o_;obtain⟨b0,b1⟩:=me q o_;rw[hp] at l0;rw[hq] at l1;have ip0:(0:Int)<=(p:Int):=o_
 have ip1:(p:Int)<(ns.length:Int):=o_
 have iq0:(0:Int)<=(q:Int):=o_
 have iq1:(q:Int)<(ns.length:Int):=o_
 have ik0:(0:Int)<=(k:Int):=o_
 have ik1:(k:Int)<(ls.length:Int):=o_
 have Gi:inB (k:Int) 0 ((ls.length:Int) -1)=true:=zf.2 ⟨by omega,by omega⟩;obtain⟨bw,H8⟩:∃bw,jh (ndI ns (p:Int)) (ndI ns (q:Int)) (x,y)=bw:=⟨_,rfl⟩;have HB:Hid (splB ns ls k x y=(bw&&winB (V4 ns x y) (Qa ns ls k))):=h_ (by unfold splB;rw[hp,hq,H8]);have HL:Hid (Qa ns ls k=(ls++[((q:Int),(ns.length:Int))]).set k ((p:Int),(ns.length:Int))):=h_ (by unfold Qa;rw[hp,hq]);have HP:Hid (ndI ls k=((p:Int),(q:Int))):=h_ (by rw[<-hp,<-hq]);obtain⟨bb,gj⟩:∃bb,splB ns ls k x y=bb:=⟨_,rfl⟩;obtain⟨NN,Nm⟩:∃NN,splN ns ls k x y=NN:=⟨_,rfl⟩;obtain⟨LL,YC⟩:∃LL,splL ns ls k x y=LL:=⟨_,rfl⟩;rw[gj,Nm,YC];have gw:=h_ gj;have Ml:=h_ Nm;have UP:=h_ YC;have fH:=h_ H8;clear hw gj Nm YC Hl H9 ng me hp hq p1 p2 p3 H8
 go_enter Tryz.func259,Tryz.ntmps259
 go_wp2_with fail
 refine(zU _ _ ns ls _ (hn.below bel_) (hl.below bel_) o_ o_).mono ?_
 rintro e w1 ⟨A1,c1,B1,d1,rfl,Hi,h9⟩;have Ht:=h9.size;simp at Ht
 have H7:OwnW (w.heap.size+1+1+1) w1 (.slice A1 ns.length c1) (.slice B1 ls.length d1) ns ls:=by simpa using Hi
 have Hp:=Hi.lt
 have Gv:Hid (SpSt w (.slice (some ⟨bn,offn,none⟩) ns.length cn) (.slice (some ⟨bl,offl,none⟩) ls.length cl) x y w1.heap.size A1 c1 B1 d1 ns ls (w1.alloc (.cells #[.slice A1 ns.length c1,.slice B1 ls.length d1] 27))):=h_
  ⟨(Blk.below (((Blk.newAt rfl).alloc _).alloc _) h9 sz_).alloc _,(Blk.below ((Blk.newAt (by simp)).alloc _) h9 sz_).alloc _,(Blk.below (Blk.newAt (by simp)) h9 sz_).alloc _,Blk.newAt rfl,H7.alloc _,by omega,
   fun b hb e=>by have:=(Hp b hb).2;omega,by exact bel_⟩
 clear h9 Hi H7 Hp;obtain⟨wb,hwb⟩:∃wb,wb=w1.alloc (.cells #[.slice A1 ns.length c1,.slice B1 ls.length d1] 27):=⟨_,rfl⟩;have uC:w1.heap.size<wb.heap.size:=by rw[hwb];simp
 go_upto_region 2 with (fail)
 rw[<-hwb] at Gv⊢;generalize w1.heap.size=T at*;clear hwb;have cO:=Gv.out.blw;have UE:=cO.size;have hA:=Gv.out.A;have hPp:=Gv.out.P;have hnb:=hn.below cO;have hlb:=hl.below cO;obtain⟨a_0,a_1⟩:=hA.c2;obtain⟨n_0,n_1⟩:=hPp.c2;have zz0:w.heap.size<wb.heap.size:=o_
 have zz1:w.heap.size+1<wb.heap.size:=o_
 have nbn:bn<wb.heap.size:=o_
 have nbl:bl<wb.heap.size:=o_
 have m0:=(cO.cell (p:=⟨bl,offl+k*2,none⟩) Hb).trans l0;have m1:=(cO.cell (p:=⟨bl,offl+k*2+1,none⟩) Hb).trans l1;have s0:=(cO.cell (p:=⟨bn,offn+p*2,none⟩) Gd).trans a0;have s1:=(cO.cell (p:=⟨bn,offn+p*2+1,none⟩) Gd).trans a1;have t0:=(cO.cell (p:=⟨bn,offn+q*2,none⟩) Gd).trans b0;have t1:=(cO.cell (p:=⟨bn,offn+q*2+1,none⟩) Gd).trans b1;have HX:=fH.out
 (refine z7 k_ k_ (fun hG=>?_))
 repeat (go_big_quiet_step (first|(go_at_call 118;exact zI (zF _ _ ns ls true _ (RS.grw _ hnb) (RS.grw _ hlb) gV))|(go_at_call 138;exact zY (zP _ _ _ true _ Gi))|(go_at_call 240;exact zI (z6J (ndI ns (p:Int)) (ndI ns (q:Int)) (x,y) bw _ fH.out))))
 (refine wpQuiet_nil ?_);(clear hG);(rintro w3 ⟨⟨_,He⟩,rfl⟩);(try dsimp only);have G5:=He.size;(try simp at G5);(try have Fw:=p0_ w w3);(try have Fy:=p1_ w w3);(try have ml:=p2_ w w3);(try have UV:=p3_ w w3)
 cases bw
 ·have G6:splB ns ls k x y=false:=by rw[HB.out];rfl
  have e1:false=bb:=by rw[<-gw.out];exact G6.symm
  have e2:ns=NN:=by rw[<-Ml.out];exact(Qm G6).1.symm
  have e3:ls=LL:=by rw[<-UP.out];exact(Qm G6).2.symm
  subst e1 e2 e3;have gk:=h_ (Gv.out.below He);have gZ:=gk.out.R;have bj:=gk.out.T_;obtain⟨r_0,r_1,r_f0,r_f1⟩:=gZ.b2;obtain⟨t_0,t_1⟩:=bj.c2;have Gw:=gZ.lt;have HF:=h_ (fun u0 u1=>gk.out.fin u0 u1);clear Gv gk gZ bj hA hPp He HX fH gw Ml UP HB HL HP G6 m0 m1 s0 s1 t0 t1 a_0 a_1 n_0 n_1 hnb hlb cO;go_wp2;exact bodyPost_ret (v:= .tuple #[.agg #[.slice A1 ns.length c1,.slice B1 ls.length d1],.bool false]) (by simp[results,Tryz.results259,go_sem,r_0,r_1,Gw]) rfl (zG.mk rfl rfl rfl (HF.out _ _).1 (HF.out _ _).2)
 ·have gk:=h_ (Gv.out.below He)
  clear Gv hA hPp He HX fH m0 m1 s0 s1 t0 t1 a_0 a_1 n_0 n_1 hnb hlb cO;have hA:=gk.out.A;have hP:=gk.out.P;have hT:=gk.out.T_;obtain⟨a_0,a_1⟩:=hA.c2;obtain⟨n_0,n_1⟩:=hP.c2;obtain⟨t_0,t_1⟩:=hT.c2;have cI:=h_ (gk.out.alloc (.cells #[.int .i64 x,.int .i64 y] 106))
  go_wp2_with (at_builtin;refine zj rfl _ _ _ rfl (w.heap.size+1+1+1) 106 i0 Tryz.underlying24 hi iz0 iz1 iz2 (.slice A1 ns.length c1) _ ns [(x,y)] rfl rfl cI.out.own.1 (j6 (by simp) rfl rfl rfl (by simp[maxLen])) (by simp;omega) (by simp;omega) ?_)
  intro A4 c4 w4 gH Gc Cg;have Gg:=h_ (cI.out.putN (N':=ns++[(x,y)]) (n:=ns.length+1) (by simp) gH Gc (by simpa using Cg));have bB:=cI.out.T_.grownR Gc (fun k hk e=>cI.out.far k (.inl hk) e);clear hA hP hT a_0 a_1 n_0 n_1 t_0 t_1 Gc Cg gH cI gk;obtain⟨t_0,t_1,t_f0,t_f1⟩:=bB.b2;obtain⟨w5,fe⟩:∃v,v=w4.setCell ⟨T,0,none⟩ (.slice A4 (ns.length+1) c4):=⟨_,rfl⟩;rw[<-fe] at Gg;have Fe:=Gg.out.T_;have cD:=Gg.out.A;have Hj:(ns++[(x,y)]).length =ns.length+1:=by simp
  clear Hj bB
  go_upto_region 6 with (fail)
  try rw[<-fe]
  clear fe t_0 t_1 t_f0 t_f1;have m1:=(Gg.out.blw.cell (p:=⟨bl,offl+k*2+1,none⟩) Hb).trans l1;refine vE (n:=13) (S:=fun w'=>w'.cell? ⟨w.heap.size,1,none⟩=some (.slice (some ⟨bl,offl,none⟩) ls.length cl)/\w'.cell? ⟨T,1,none⟩=some (.slice B1 ls.length d1)/\w'.cell? ⟨bl,offl+k*2+1,none⟩=some (.int .i64 (q:Int))) k_ ⟨cD.cell 1,Fe.cell 1,m1⟩ (fun hS=>?_)
  clear cD Fe m1
  (refine zw (i:=0) (v:=?_) rfl rfl k_ k_ k_ k_ (fun _ _ _ h=>h) (Or.inl ⟨by rfl,?_⟩) (by assumption) ?_);rotate_left;(focus (intro w' gh;(try dsimp only at gh);go_simp;(try with_reducible rfl)));(try simp only[Act.put,abi,aal,aap])
  (refine zw (i:=1) (v:=?_) rfl rfl k_ k_ k_ k_ (fun _ _ _ h=>h) (Or.inl ⟨by rfl,?_⟩) (by assumption) ?_);rotate_left;(focus (intro w' gh;(try dsimp only at gh);go_simp;(try with_reducible rfl)));(try simp only[Act.put,abi,aal,aap])
  (refine zw (i:=2) (v:=?_) rfl rfl k_ k_ k_ k_ (fun _ _ _ h=>h) (Or.inl ⟨by rfl,?_⟩) (by assumption) ?_);rotate_left;(focus (intro w' gh;(try dsimp only at gh);go_simp;(try with_reducible rfl)));(try simp only[Act.put,abi,aal,aap])
  (refine zw (i:=3) (v:=?_) rfl rfl k_ k_ k_ k_ (fun _ _ _ h=>h) (Or.inl ⟨by rfl,?_⟩) (by assumption) ?_);rotate_left;(focus (intro w' gh;(try dsimp only at gh);go_simp;(try with_reducible rfl)));(try simp only[Act.put,abi,aal,aap])
  (refine zw (i:=4) (v:=?_) rfl rfl k_ k_ k_ k_ (fun _ _ _ h=>h) (Or.inl ⟨by rfl,?_⟩) (by assumption) ?_);rotate_left;(focus (intro w' gh;(try dsimp only at gh);go_simp;(try with_reducible rfl)));(try simp only[Act.put,abi,aal,aap])
  (refine zw (i:=5) (v:=?_) rfl rfl k_ k_ k_ k_ (fun _ _ _ h=>h) (Or.inl ⟨by rfl,?_⟩) (by assumption) ?_);rotate_left;(focus (intro w' gh;(try dsimp only at gh);go_simp;(try with_reducible rfl)));(try simp only[Act.put,abi,aal,aap])
  (refine zw (i:=6) (v:=?_) rfl rfl k_ k_ k_ k_ (fun _ _ _ h=>h) (Or.inl ⟨by rfl,?_⟩) (by assumption) ?_);rotate_left;(focus (intro w' gh;(try dsimp only at gh);go_simp;(try with_reducible rfl)));(try simp only[Act.put,abi,aal,aap])
  (refine zw (i:=7) (v:=?_) rfl rfl k_ k_ k_ k_ (fun _ _ _ h=>h) (Or.inl ⟨by rfl,?_⟩) (by assumption) ?_);rotate_left;(focus (intro w' gh;(try dsimp only at gh);go_simp;(try with_reducible rfl)));(try simp only[Act.put,abi,aal,aap])
  (refine zw (i:=8) (v:=?_) rfl rfl k_ k_ k_ k_ (fun _ _ _ h=>h) (Or.inl ⟨by rfl,?_⟩) (by assumption) ?_);rotate_left;(focus (intro w' gh;(try dsimp only at gh);go_simp;(try with_reducible rfl)));(try simp only[Act.put,abi,aal,aap])
  (refine zw (i:=9) (v:=?_) rfl rfl k_ k_ k_ k_ (fun _ _ _ h=>h) (Or.inl ⟨by rfl,?_⟩) (by assumption) ?_);rotate_left;(focus (intro w' gh;(try dsimp only at gh);go_simp;(try with_reducible rfl)));(try simp only[Act.put,abi,aal,aap])
  (refine qM (i:=10) rfl k_ (fun K hK=>?_));(rw[aao (by rfl)])
  go_simp;have bG:=h_ ((Gg.out.alloc (.cells #[.int .i64 (q:Int),.int .i64 (ns.length:Int)] 108)).drew);have mB:=(bG.out.blw.cell (p:=⟨bl,offl+k*2+1,none⟩) Hb).trans l1;refine hK _ _ (fun _=>⟨bG.out.A.cell 1,bG.out.T_.cell 1,mB⟩) (fun gp=>?_)
  clear hK K hS gp mB
  (try simp only[Act.put,abi,aal,aap])
  (refine qM (i:=11) rfl k_ (fun K hK=>?_))
  refine zk rfl _ _ _ rfl (w.heap.size+1+1+1) 108 j0 Tryz.underlying25 hj jz0 jz1 jz2 (.slice B1 ls.length d1) _ ls [((q:Int),(ns.length:Int))] rfl rfl bG.out.own.2.1 (z0J (by simp) rfl rfl rfl (by simp[maxLen])) (by simp;omega) (by have:=bG.out.T_.lt;have:=bG.out.lt;omega) ?_
  intro A6 c6 w6 G2 GX rH;have fh:=h_ (bG.out.putL (L':=ls++[((q:Int),(ns.length:Int))]) (n:=ls.length+1) (by simp) (by simpa using G2) GX (by simpa using rH));have CG:=bG.out.T_.grownR GX (fun k hk e=>bG.out.far k (.inr hk) e);have Mu:=bG.out.A.grownR GX (fun k hk e=>by have:=(bG.out.own.lt k (.inr hk)).1;omega);have gz:=bG.out.blw.grown GX bG.out.blw.size (fun k hk=>by have:=(bG.out.own.lt k (.inr hk)).1;omega);have m6:=(gz.cell (p:=⟨bl,offl+k*2+1,none⟩) Hb).trans l1;refine hK _ _ (fun _=>⟨Mu.cell 1,CG.cell 1,m6⟩) (fun gp=>?_)
  have FC:=gp (by decide);clear hK K gp m6 Mu gz GX rH G2 bG Gg
  (try simp only[Act.put,abi,aal,aap])
  (refine zw (i:=12) (v:=?_) rfl rfl k_ k_ k_ k_ (fun _ _ _ h=>h) (Or.inl ⟨by rfl,?_⟩) (by assumption) ?_);rotate_left;(focus (intro w' gh;(try dsimp only at gh);go_simp;(try with_reducible rfl)));(try simp only[Act.put,abi,aal,aap])
  obtain⟨t_0,t_1,t_f0,t_f1⟩:=CG.b2
  (refine qM (i:=13) rfl k_ (fun K hK=>?_));(rw[aao (by rfl)])
  go_simp;refine hK _ _ (fun h=>absurd rfl h) (fun _=>?_)
  clear hK K FC
  (try simp only[Act.put,abi,aal,aap])
  refine kX k_ ?_ _
  obtain⟨w7,bM⟩:∃v,v=w6.setCell ⟨T,1,none⟩ (.slice A6 (ls.length+1) c6):=⟨_,rfl⟩;rw[<-bM] at fh
  try rw[<-bM]
  clear bM t_0 t_1 t_f0 t_f1 CG;have WQ:Hid ((ls++[((q:Int),(ns.length:Int))]).length =ls.length+1):=h_ (by simp);have Ff:k<(ls++[((q:Int),(ns.length:Int))]).length :=by rw[WQ.out];omega
  have HGK:Hid ((ls++[((q:Int),(ns.length:Int))]).set k ((ls++[((q:Int),(ns.length:Int))])[k].1,(ns.length:Int))=Qa ns ls k):=h_ (by
   rw[HL.out]
   have e:(ls++[((q:Int),(ns.length:Int))])[k].1=(p:Int):=by
    rw[aad hk];have:=HP.out;rw[qd ls k hk] at this;rw[this]
   rw[e])
  have HLN7:Hid ((ns++[(x,y)]).length =ns.length+1):=h_ (by simp);have HYN:Hid (splB ns ls k x y=true->V4 ns x y=NN):=h_ (fun h=>(QV h).1.symm.trans Ml.out);have HYL:Hid (splB ns ls k x y=true->Qa ns ls k=LL):=h_ (fun h=>(QV h).2.symm.trans UP.out);have hNe:ns++[(x,y)]=V4 ns x y:=rfl;rw[hNe] at fh HLN7;clear hNe;generalize V4 ns x y=N7 at*;generalize ls++[((q:Int),(ns.length:Int))]=L7 at*;have hHS:=fh.out.own.2.1
  rcases FB:hHS.2 with ⟨e0,e1⟩|⟨gb,cap,cur,e0,Ce,fN⟩
  ·rw[WQ.out] at e1;omega
  clear FB fN
  injection e0 with e0 e1 e2
  subst e0 e2;clear e1 cur hHS;have Yv:=fh.out.T_;obtain⟨t_0,t_1⟩:=Yv.c2;have x7:=(fh.out.own.2.1.cell Ff).2;have f7:=fh.out.own.2.1.frz (k*2+1);have nh:=h_ (fh.out.setTo Ff (ns.length:Int));rw[HGK.out] at nh;have il1:(k:Int)<(L7.length:Int):=o_
  generalize Qa ns ls k=L8 at*;obtain⟨w8,rz⟩:∃v,v=w7.setCell ⟨gb,k*2+1,none⟩ (.int .i64 (ns.length:Int)):=⟨_,rfl⟩;rw[<-rz] at nh
  go_upto_region 8 with (fail)
  try rw[<-rz]
  clear rz t_0 t_1 x7 f7 fh Yv HL HGK;have hT8:=nh.out.T_;obtain⟨t_0,t_1⟩:=hT8.c2;obtain⟨bw,H8⟩:∃bw,winB N7 L8=bw:=⟨_,rfl⟩;rw[H8] at HB
  go_wp2_with fail
  refine(zF _ _ N7 L8 bw _ nh.out.own.1.reads nh.out.own.2.1.reads H8).mono ?_
  rintro e w9 ⟨rfl,cm⟩;have Bz:=h_ (nh.out.below cm);clear nh hT8 t_0 t_1 cm H8;have hA9:=Bz.out.A;have Bu:=Bz.out.R;have hT9:=Bz.out.T_;obtain⟨a_0,a_1⟩:=hA9.c2;obtain⟨t_0,t_1⟩:=hT9.c2;have Ua:=Bu.lt
  cases bw
  ·have G6:splB ns ls k x y=false:=by rw[HB.out];rfl
   have e1:false=bb:=by rw[<-gw.out];exact G6.symm
   have e2:ns=NN:=by rw[<-Ml.out];exact(Qm G6).1.symm
   have e3:ls=LL:=by rw[<-UP.out];exact(Qm G6).2.symm
   subst e1 e2 e3;clear gw Ml UP HB G6
   go_wp2_with fail
   refine(zU _ _ ns ls _ (hn.below Bz.out.blw) (hl.below Bz.out.blw) o_ o_).mono ?_
   rintro e w10 ⟨A9,c9,B9,d9,rfl,BT,Ub⟩;have BS:=Bu.below Ub Ua;have Cz:=Bz.out.blw.trans (Ub.mono Bz.out.blw.size);have WR:w.heap.size+1+1<w9.heap.size:=Ua;have HO:=h_ (((BT.setLow (p:=⟨w.heap.size+1+1,0,none⟩) WR (.slice A9 ns.length c9)).setLow (p:=⟨w.heap.size+1+1,1,none⟩) WR (.slice B9 ls.length d9)).mono (show w.heap.size<=_ by omega));have nW:=h_ ((Cz.setCell (p:=⟨w.heap.size+1+1,0,none⟩) (show w.heap.size<=w.heap.size+1+1 by omega) (.slice A9 ns.length c9)).setCell (p:=⟨w.heap.size+1+1,1,none⟩) (show w.heap.size<=w.heap.size+1+1 by omega) (.slice B9 ls.length d9));obtain⟨r_0,r_1,r_f0,r_f1⟩:=BS.b2;have WS:=BS.lt;clear BS Cz hA9 Bu hT9 a_0 a_1 t_0 t_1 BT Ub Bz;go_wp2;exact bodyPost_ret (v:= .tuple #[.agg #[.slice A9 ns.length c9,.slice B9 ls.length d9],.bool false]) (by simp[results,Tryz.results259,go_sem,r_0,r_1,WS]) rfl (zG.mk rfl rfl rfl HO.out nW.out)
  ·have F7:splB ns ls k x y=true:=by rw[HB.out];rfl
   have e1:true=bb:=by rw[<-gw.out];exact F7.symm
   have WI:Hid (N7=NN):=h_ (HYN.out F7);have HE3:Hid (L8=LL):=h_ (HYL.out F7);subst e1;clear gw Ml UP HB F7;have HF:=h_ (fun u0 u1=>Bz.out.fin u0 u1);obtain⟨r_0,r_1,r_f0,r_f1⟩:=Bu.b2;clear Bz hA9 Bu hT9;go_wp2;exact bodyPost_ret (v:= .tuple #[.agg #[.slice A4 N7.length c4,.slice (some ⟨gb,0,none⟩) L8.length c6],.bool true]) (by simp[results,Tryz.results259,go_sem,r_0,r_1,Ua]) rfl (by rw[<-WI.out,<-HE3.out];exact zG.mk rfl rfl rfl (HF.out _ _).1 (HF.out _ _).2)
attribute [local go_sem ↓] zr zt zR zQ
theorem zx.below {W0 w w':World} {v:Value} {g:Nat} (h:zx W0 v g w) (hb:Below w.heap.size w w'):zx W0 v g w':=by
 obtain⟨hg,Hb,i,s,hi,hB⟩:=h;exact⟨hg,Hb.trans (hb.mono Hb.size),i,s,hi,hB.below hb hB.lt⟩
theorem zX {a w w':World} {row:Option Nat} (h:a.grownBy w row) (hb:Below w.heap.size w w'):a.grownBy w' row:=
 zb h ⟨hb.os,hb.tape,hb.output,hb.size,fun i hi _=>hb.block i hi⟩
structure WSt (W0:World) (v:Value) (g:Nat) (w:World) (X:Nat) (wr:World) (An:Option Addr) (cn:Nat) (Al:Option Addr) (cl:Nat) (ns ls:List Pr):Prop where
 win:zC ns ls
 own:OwnW (w.heap.size+1) wr (.slice An ns.length cn) (.slice Al ls.length cl) ns ls
 box:Blk wr X 27 #[.slice An ns.length cn,.slice Al ls.length cl]
 res:Blk wr w.heap.size 27 #[.slice none 0 0,.slice none 0 0]
 ne:∀b,zi (.slice An ns.length cn) (.slice Al ls.length cl) b->¬b=X
 cur:zx W0 v g wr
 gr:w.grownBy wr (some g)
 hX:w.heap.size<X
 hg:g<w.heap.size
section
variable {W0:World} {v:Value} {g:Nat} {w:World} {X:Nat} {wr w':World} {An:Option Addr} {cn:Nat} {Al:Option Addr} {cl:Nat} {ns ls:List Pr}
theorem WSt.drawn (h:WSt W0 v g w X wr An cn Al cl ns ls) (hc:zx W0 v g w') (hg:wr.grownBy w' (some g)):WSt W0 v g w X w' An cn Al cl ns ls:=
 ⟨h.win,h.own.far hg (fun k hk=>by cases hk;have:=h.hg;omega),h.box.grown hg (by have:=h.hg;have:=h.hX;omega),h.res.grown hg (by have:=h.hg;omega),h.ne,hc,zb h.gr hg,h.hX,h.hg⟩
theorem WSt.below (h:WSt W0 v g w X wr An cn Al cl ns ls) (hb:Below wr.heap.size wr w'):WSt W0 v g w X w' An cn Al cl ns ls:=
 ⟨h.win,h.own.kept hb,h.box.below hb h.box.lt,h.res.below hb h.res.lt,h.ne,h.cur.below hb,zX h.gr hb,h.hX,h.hg⟩
theorem WSt.alloc (h:WSt W0 v g w X wr An cn Al cl ns ls) (o:Obj):WSt W0 v g w X (wr.alloc o) An cn Al cl ns ls:=
 h.below (Below.alloc (aaj _ _) (aaa _) o)
theorem WSt.drew (h:WSt W0 v g w X wr An cn Al cl ns ls):WSt W0 v g w X wr.drew An cn Al cl ns ls:=h.below (Below.drew (aaj _ _))
theorem WSt.row (h:WSt W0 v g w X wr An cn Al cl ns ls) {row:Option Nat} (hg:wr.grownBy w' row) (hr:∀k,row=some k->X<k/\¬zi (.slice An ns.length cn) (.slice Al ls.length cl) k):WSt W0 v g w X w' An cn Al cl ns ls:=by
 have hX:=h.hX;have BF:=h.hg;obtain⟨BZ,Hb,i,s,hi,hB⟩:=h.cur;have hs:=h.gr.size
 refine⟨h.win,h.own.apart hg (fun k hk e=>(hr k e).2 hk),Blk.grownR h.box hg (fun k e=>by have:=(hr k e).1;omega),Blk.grownR h.res hg (fun k e=>by have:=(hr k e).1;omega),h.ne,
  ⟨BZ,Hb.grown hg Hb.size (fun k e=>by have:=(hr k e).1;omega),i,s,hi,Blk.grownR hB hg (fun k e=>by have:=(hr k e).1;omega)⟩,
  ⟨hg.os.trans h.gr.os,hg.tape.trans h.gr.tape,hg.output.trans h.gr.output,aai hs hg.size,fun i hi gd=>(hg.block i o_ (fun e=>by have:=(hr i e.symm).1;omega)).trans (h.gr.block i hi gd)⟩,hX,BF⟩
theorem WSt.put (h:WSt W0 v g w X wr An cn Al cl ns ls) {An':Option Addr} {cn':Nat} {Al':Option Addr} {cl' n m base:Nat} {ns' ls':List Pr} (hw:zC ns' ls') (hn:n=ns'.length) (hm:m=ls'.length)
  (ho:OwnW base wr (.slice An' n cn') (.slice Al' m cl') ns' ls') (hb:X<base):
  WSt W0 v g w X ((wr.setCell ⟨X,0,none⟩ (.slice An' n cn')).setCell ⟨X,1,none⟩ (.slice Al' m cl')) An' cn' Al' cl' ns' ls':=by
 subst hn hm;have hX:=h.hX;have hg:=h.hg;have Hf:=ho.lt;have gd:∀b,zi (.slice An' ns'.length cn') (.slice Al' ls'.length cl') b->¬b=X:=fun b gS e=>by have:=(Hf b gS).1;omega
 have FA:=ho.mono (show w.heap.size+1<=base by omega)
 refine⟨hw,(FA.setFar (p:=⟨X,0,none⟩) (fun k=>gd _ k rfl) _).setFar (p:=⟨X,1,none⟩) (fun k=>gd _ k rfl) _,(h.box.set_ 0 _).set_ 1 _,
  (h.res.far (p:=⟨X,0,none⟩) (by show w.heap.size≠X;omega) _).far (p:=⟨X,1,none⟩) (by show w.heap.size≠X;omega) _,gd,
  (h.cur.far (p:=⟨X,0,none⟩) (by show g<X;omega) _).far (p:=⟨X,1,none⟩) (by show g<X;omega) _,
  zy (p:=⟨X,1,none⟩) (zy (p:=⟨X,0,none⟩) h.gr (by show w.heap.size<=X;omega) _) (by show w.heap.size<=X;omega) _,h.hX,h.hg⟩
end
def z91 (W0:World) (v:Value) (g:Nat) (w:World) (e:Ending) (w':World):Prop:=
 ∃ns ls An cn Al cl,e= .returned (.agg #[.slice An ns.length cn,.slice Al ls.length cl])/\zC ns ls/\OwnW (w.heap.size+1) w' (.slice An ns.length cn) (.slice Al ls.length cl) ns ls/\zx W0 v g w'/\w.grownBy w' (some g)
theorem Vi (W0:World) (v:Value) (zs:List Int) (g:Nat) (w:World) (h:RB W0 v zs) (hle:zs.length<=1048576) (hc:zx W0 v g w):
  Calls Tryz.prog 264 #[.pointer (some ⟨g,0,none⟩)] w (z91 W0 v g w):=by
 have hgl:=hc.lt;obtain⟨i0,hi,iz0,iz1,iz2⟩:=info_parts ko;have HC:=h_ hc;have Gq:=h_ h;clear h hc
 go_enter Tryz.func264,Tryz.ntmps264
 go_wp2_with fail
 refine(zp W0 v zs g 5 _ Gq.out hle o_ (HC.out.alloc _)).mono ?_
 rintro e w1 ⟨x,rfl,x0,x1,gc,gD⟩;have Ht:=gD.size;simp at Ht
 have Hx:Blk w1 w.heap.size 27 #[.slice none 0 0,.slice none 0 0]:=(Blk.new w _ _).grown gD o_;have bm:=zb (jf (World.grownBy.refl w (some g)) (.cells #[.slice none 0 0,.slice none 0 0] 27)) gD;clear gD
 go_wp2_with fail
 refine(JG x _).mono ?_
 rintro e w2 ⟨An,cn,Al,cl,rfl,Hk,Hd⟩;have Gh:=Hd.size;have cB:=Hk.lt;have Wc:=zq.1 (z1s x);have gg:=Hx.below Hd Hx.lt;have rv:=gc.below Hd;have Mn:=zX bm Hd;generalize Qc x=ns at*;generalize Qi x=ls at*
 have Gv:Hid (WSt W0 v g w w2.heap.size (w2.alloc (.cells #[.slice An ns.length cn,.slice Al ls.length cl] 27)) An cn Al cl ns ls):=h_
  ⟨Wc,(Hk.mono o_).alloc _,Blk.newAt rfl,gg.alloc _,fun b hb e=>by have:=(cB b hb).2;omega,rv.alloc _,jf Mn _,by omega,hgl⟩
 clear Wc gg rv Mn Hx gc bm Hd Hk cB
 go_wp2_with fail
 refine(zp W0 v zs g 4 _ Gq.out hle o_ Gv.out.cur).mono ?_
 rintro e w3 ⟨k,rfl,k0,k1,Gy,gn⟩;have F8:=Gv.out.drawn Gy gn;clear Gv Gy gn;obtain⟨X,hX⟩:∃X,X=w2.heap.size:=⟨_,rfl⟩;rw[<-hX] at F8⊢;clear hX;obtain⟨kn,rfl⟩:∃kn:Nat,k=(kn:Int):=⟨k.toNat,by omega⟩;go_wp2
 go_loopw [4] (fun i wr=>∃(kn:Nat) (An:Option Addr) (cn:Nat) (Al:Option Addr) (cl:Nat) (ns ls:List Pr),i= .int .i64 kn/\kn<=4/\WSt W0 v g w X wr An cn Al cl ns ls) (fun i _=>(intOf i).toNat)
 case atStart=>exact⟨kn,An,cn,Al,cl,ns,ls,rfl,by omega,F8⟩
 case round=>
  clear F8;obtain⟨kn,An,cn,Al,cl,ns,ls,rfl,hk4,F8⟩:=hrel;have Gv:=h_ F8;clear F8
  by_cases uz:kn=0
  ·subst uz
   have R2:=Gv.out.win.2.1;have F5:=Gv.out.win.1;have wM:=Gv.out.win.2.2.1
   go_wp2_with fail
   refine(Jl W0 v zs g 4 _ Gq.out hle o_ Gv.out.cur).mono ?_
   rintro e w4 ⟨bb,rfl,FG,Gc⟩;have GY:=h_ (Gv.out.drawn FG Gc);clear Gv FG Gc
   cases bb
   ·--as it is
    have b7:=GY.out.box;have b9:=GY.out.res;obtain⟨x_0,x_1,x_f0,x_f1⟩:=b7.b2;obtain⟨r_0,r_1,r_f0,r_f1⟩:=b9.b2;have HO:=h_ ((GY.out.own.setLow (p:=⟨w.heap.size,0,none⟩) (show w.heap.size<w.heap.size+1 by omega) (.slice An ns.length cn)).setLow (p:=⟨w.heap.size,1,none⟩) (show w.heap.size<w.heap.size+1 by omega) (.slice Al ls.length cl));have Fo:=h_ ((GY.out.cur.far (p:=⟨w.heap.size,0,none⟩) GY.out.hg (.slice An ns.length cn)).far (p:=⟨w.heap.size,1,none⟩) GY.out.hg (.slice Al ls.length cl));have HG:=h_ (zy (p:=⟨w.heap.size,1,none⟩) (zy (p:=⟨w.heap.size,0,none⟩) GY.out.gr (aaa _) (.slice An ns.length cn)) (aaa _) (.slice Al ls.length cl));have HW:=h_ GY.out.win;clear b7 b9;go_wp2;exact bodyPost_ret (v:= .agg #[(.slice An ns.length cn),(.slice Al ls.length cl)]) (by simp[results,Tryz.results264,go_sem,r_0,r_1,x_0,x_1]) rfl ⟨ns,ls,An,cn,Al,cl,rfl,HW.out,HO.out,Fo.out,HG.out⟩
   ·have f9:=GY.out.box
    have Uc:=f9.lt;have hXw:=GY.out.hX;have WT:=GY.out.own.lt;obtain⟨x_0,x_1⟩:=f9.c2
    go_wp2_with fail
    refine(zU _ _ ns ls _ GY.out.own.1.reads GY.out.own.2.1.reads o_ o_).mono ?_
    rintro e w5 ⟨An5,cn5,Al5,cl5,rfl,fG,H0⟩;have UW:=H0.size;have CM:=fG.lt;have Fb:=h_ ((GY.out.below H0).alloc (.cells #[.slice An5 ns.length cn5,.slice Al5 ls.length cl5] 27));have WU:Hid (Blk (w5.alloc (.cells #[.slice An5 ns.length cn5,.slice Al5 ls.length cl5] 27)) w5.heap.size 27 #[.slice An5 ns.length cn5,.slice Al5 ls.length cl5]):=h_ (Blk.newAt rfl);have Cl:=h_ (fG.alloc (.cells #[.slice An5 ns.length cn5,.slice Al5 ls.length cl5] 27));clear fG H0 GY f9 x_0 x_1
    go_wp2_with fail
    obtain⟨v5,hv5⟩:∃v5,v5=w5.alloc (.cells #[.slice An5 ns.length cn5,.slice Al5 ls.length cl5] 27):=⟨_,rfl⟩;have G1:v5.heap.size=w5.heap.size+1:=by rw[hv5];simp
    rw[<-hv5] at Fb WU Cl⊢;clear hv5;obtain⟨Y,hY⟩:∃Y,Y=w5.heap.size:=⟨_,rfl⟩;rw[<-hY] at WU G1⊢;have R5:w4.heap.size<=Y:=o_
    have mY:∀b,zi (.slice An5 ns.length cn5) (.slice Al5 ls.length cl5) b->w4.heap.size<=b/\b<Y:=fun b hb=>by have:=CM b hb;omega
    clear CM hY UW;have hY0:=WU.out.cell 0;refine vE (n:=7) (S:=fun w'=>w'.cell? ⟨Y,0,none⟩=some (.slice An5 ns.length cn5)) k_ hY0 (fun hS=>?_)
    (refine zw (i:=0) (v:=?_) rfl rfl k_ k_ k_ k_ (fun _ _ _ h=>h) (Or.inl ⟨by rfl,?_⟩) (by assumption) ?_);rotate_left;(focus (intro w' gh;(try dsimp only at gh);go_simp;(try with_reducible rfl)));(try simp only[Act.put,abi,aal,aap])
    (refine zw (i:=1) (v:=?_) rfl rfl k_ k_ k_ k_ (fun _ _ _ h=>h) (Or.inl ⟨by rfl,?_⟩) (by assumption) ?_);rotate_left;(focus (intro w' gh;(try dsimp only at gh);go_simp;(try with_reducible rfl)));(try simp only[Act.put,abi,aal,aap])
    (refine zw (i:=2) (v:=?_) rfl rfl k_ k_ k_ k_ (fun _ _ _ h=>h) (Or.inl ⟨by rfl,?_⟩) (by assumption) ?_);rotate_left;(focus (intro w' gh;(try dsimp only at gh);go_simp;(try with_reducible rfl)));(try simp only[Act.put,abi,aal,aap])
    (refine qM (i:=3) rfl k_ (fun K hK=>?_));(rw[aao (by rfl)])
    go_simp
    go_at_call 271
    refine(z6j W0 v zs g _ Gq.out hle Fb.out.drew.cur).mono ?_
    rintro e w6 ⟨nx,ny,rfl,cK,GX⟩;have Ma:=GX.size;simp at Ma
    have Fr:=h_ (Fb.out.drew.drawn cK GX);have Y6:=h_ (WU.out.drew.grown GX o_);have Cd:=h_ (OwnW.far (w:=v5.drew) Cl.out GX (fun k hk=>by cases hk;omega));clear cK GX Fb WU Cl hY0
    go_wp2_with fail
    refine hK _ _ (fun _=>Y6.out.cell 0) (fun gp=>?_)
    clear hK K hS gp
    (try simp only[Act.put,abi,aal,aap])
    (refine qM (i:=4) rfl k_ (fun K hK=>?_));(rw[aao (by rfl)])
    go_simp;refine hK _ _ (fun _=>(Y6.out.alloc _).cell 0) (fun gp=>?_)
    clear hK K gp
    (try simp only[Act.put,abi,aal,aap])
    (refine qM (i:=5) rfl k_ (fun K hK=>?_))
    refine zk rfl _ _ _ rfl w4.heap.size 106 i0 Tryz.underlying24 hi iz0 iz1 iz2 (.slice An5 ns.length cn5) _ ns [(nx,ny)] rfl rfl (Cd.out.1.alloc _) (j6 (by simp) rfl rfl rfl (by simp[maxLen])) (by simp;omega) (by simp;omega) ?_
    intro A7 c7 w7 Cb ck Y7;rw[show(ns++[(nx,ny)]).length =ns.length+1 by simp] at Cb Y7;obtain⟨N7,hN7⟩:∃N7,N7=ns++[(nx,ny)]:=⟨_,rfl⟩;have wK:N7.length=ns.length+1:=by rw[hN7];simp
    rw[<-hN7] at Cb;clear hN7;have Wk:=h_ wK;clear wK;have Ba:=h_ ((Fr.out.alloc (.cells #[.int .i64 nx,.int .i64 ny] 106)).row ck (fun k hk=>⟨by have:=(mY k (.inl hk)).1;omega,fun hb=>by have:=(mY k (.inl hk)).1;have:=(WT k hb).2;omega⟩));have Y8:=h_ (Blk.grownR (Y6.out.alloc (.cells #[.int .i64 nx,.int .i64 ny] 106)) ck (fun k hk=>by have:=(mY k (.inl hk)).2;omega));have HL7:=h_ ((Cd.out.2.1.alloc (.cells #[.int .i64 nx,.int .i64 ny] 106)).apart ck (fun k hk gG=>Cd.out.2.2 k gG hk))
    have hd7:∀k,(Value.slice A7 (ns.length+1) c7).ownBlock =some k->(Value.slice Al5 ls.length cl5).ownBlock =some k->False:=fun k hk gG=>by
     have Hf:=mY k (.inr gG)
     rcases Y7 with ha|ha
     ·exact Cd.out.2.2 k (ha.symm.trans hk) gG
     ·rw[ha] at hk;cases hk;simp at Hf;omega
    have hY7:∀k,zi (.slice A7 (ns.length+1) c7) (.slice Al5 ls.length cl5) k->¬k=Y:=by
     rintro k (hk|hk) e
     ·rcases Y7 with ha|ha
      ·have:=(mY k (.inl (ha.symm.trans hk))).2;omega
      ·rw[ha] at hk;cases hk;simp at e;omega
     ·have:=(mY k (.inr hk)).2;omega
    have WA:Hid (OwnW w4.heap.size w7 (.slice A7 (ns.length+1) c7) (.slice Al5 ls.length cl5) N7 ls):=h_ ⟨Cb,HL7.out,hd7⟩;clear ck Y7 Cb HL7 hd7 Fr Y6 Cd;refine hK _ _ (fun _=>Y8.out.cell 0) (fun gp=>?_)
    have Nz:=gp (by decide);clear hK K gp
    (try simp only[Act.put,abi,aal,aap])
    (refine zw (i:=6) (v:=?_) rfl rfl k_ k_ k_ k_ (fun _ _ _ h=>h) (Or.inl ⟨by rfl,?_⟩) (by assumption) ?_);rotate_left;(focus (intro w' gh;(try dsimp only at gh);go_simp;(try with_reducible rfl)));(try simp only[Act.put,abi,aal,aap])
    clear Nz;have GN:=Y8.out;obtain⟨y_0,y_1,y_f0,y_f1⟩:=GN.b2
    (refine qM (i:=7) rfl k_ (fun K hK=>?_));(rw[aao (by rfl)])
    go_simp
    have Ud:=h_ (Ba.out.row (qS w7 ⟨Y,0,none⟩ (.slice A7 (ns.length+1) c7)) (fun k hk=>by
     have Fu:Y=k:=Option.some.inj hk;subst Fu;exact⟨by omega,fun hb=>by have:=(WT _ hb).2;omega⟩))
    have HY8:Hid (Blk (w7.setCell ⟨Y,0,none⟩ (.slice A7 (ns.length+1) c7)) Y 27 #[.slice A7 (ns.length+1) c7,.slice Al5 ls.length cl5]):=h_ (Y8.out.set_ 0 _);have WV:=h_ (WA.out.setFar (p:=⟨Y,0,none⟩) (fun hb=>hY7 _ hb rfl) (.slice A7 (ns.length+1) c7));clear Ba Y8 WA GN
    refine hK _ _ (fun h=>absurd rfl h) (fun _=>?_)
    clear hK K
    (try simp only[Act.put,abi,aal,aap])
    refine kX k_ ?_ _
    obtain⟨w8,rz⟩:∃w8,w8=w7.setCell ⟨Y,0,none⟩ (.slice A7 (ns.length+1) c7):=⟨_,rfl⟩;rw[<-rz] at Ud HY8 WV⊢;clear rz y_0 y_1 y_f0 y_f1;obtain⟨bw,H8⟩:∃bw,winB N7 ls=bw:=⟨_,rfl⟩;have fH:=h_ H8;clear H8;have GN:=HY8.out;obtain⟨y_0,y_1⟩:=GN.c2;have WW:Y<w8.heap.size:=GN.lt
    go_wp2_with fail
    refine(zF _ _ N7 ls bw _ WV.out.1.reads WV.out.2.1.reads fH.out).mono ?_
    rintro e w9 ⟨rfl,cm⟩;have cP:=h_ (Ud.out.below cm);have HY9:=h_ (GN.below cm WW);have HO9:=h_ (WV.out.kept cm);clear cm Ud HY8 WV GN y_0 y_1 WW
    cases bw
    ·--it is not taken
     have b7:=cP.out.box;have b9:=cP.out.res;obtain⟨x_0,x_1,x_f0,x_f1⟩:=b7.b2;obtain⟨r_0,r_1,r_f0,r_f1⟩:=b9.b2;have HO:=h_ ((cP.out.own.setLow (p:=⟨w.heap.size,0,none⟩) (show w.heap.size<w.heap.size+1 by omega) (.slice An ns.length cn)).setLow (p:=⟨w.heap.size,1,none⟩) (show w.heap.size<w.heap.size+1 by omega) (.slice Al ls.length cl));have Fo:=h_ ((cP.out.cur.far (p:=⟨w.heap.size,0,none⟩) cP.out.hg (.slice An ns.length cn)).far (p:=⟨w.heap.size,1,none⟩) cP.out.hg (.slice Al ls.length cl));have HG:=h_ (zy (p:=⟨w.heap.size,1,none⟩) (zy (p:=⟨w.heap.size,0,none⟩) cP.out.gr (aaa _) (.slice An ns.length cn)) (aaa _) (.slice Al ls.length cl));have HW:=h_ cP.out.win;clear b7 b9;go_wp2;exact bodyPost_ret (v:= .agg #[(.slice An ns.length cn),(.slice Al ls.length cl)]) (by simp[results,Tryz.results264,go_sem,r_0,r_1,x_0,x_1]) rfl ⟨ns,ls,An,cn,Al,cl,rfl,HW.out,HO.out,Fo.out,HG.out⟩
    ·have GN:=HY9.out
     obtain⟨y_0,y_1⟩:=GN.c2;have f9:=cP.out.box;obtain⟨x_0,x_1,x_f0,x_f1⟩:=f9.b2;have bU:(0:Int)<(ns.length:Int):=o_
     have hYg:¬Y=g:=o_
     go_wp2_with fail
     have rR:w9.drew.cell? ⟨X,0,none⟩=some (.slice An ns.length cn)/\w9.drew.cell? ⟨Y,0,none⟩=some (.slice A7 (ns.length+1) c7)/\w9.drew.cell? ⟨Y,1,none⟩=some (.slice Al5 ls.length cl5):=⟨x_0,y_0,y_1⟩;refine jm (n:=13) (S:=fun w'=>w'.cell? ⟨X,0,none⟩=some (.slice An ns.length cn)/\w'.cell? ⟨Y,0,none⟩=some (.slice A7 (ns.length+1) c7)/\w'.cell? ⟨Y,1,none⟩=some (.slice Al5 ls.length cl5)) k_ rR (fun hS=>?_)
     refine tE_ 0 rfl rfl ?_;(try simp only[Act.put,abi,aal,aap])
     refine tE_ 1 rfl rfl ?_;(try simp only[Act.put,abi,aal,aap])
     refine tE_ 2 rfl rfl ?_;(try simp only[Act.put,abi,aal,aap])
     refine tE_ 3 rfl rfl ?_;(try simp only[Act.put,abi,aal,aap])
     refine tE_ 4 rfl rfl ?_;(try simp only[Act.put,abi,aal,aap])
     refine tE_ 6 rfl rfl ?_;(try simp only[Act.put,abi,aal,aap])
     refine tE_ 7 rfl rfl ?_;(try simp only[Act.put,abi,aal,aap])
     refine tE_ 8 rfl rfl ?_;(try simp only[Act.put,abi,aal,aap])
     (refine zL (i:=5) rfl k_ (fun K hK=>?_));(rw[aao (by rfl)])
     go_simp
     go_at_call 125
     refine(zp W0 v zs g _ _ Gq.out hle bU cP.out.drew.cur).mono ?_
     rintro e wa ⟨z,rfl,z0,z1,rS,Ue⟩;have cd:=h_ (cP.out.drew.drawn rS Ue);have Y9:=h_ (HY9.out.drew.grown Ue hYg);have HOa:=h_ (OwnW.far (w:=w9.drew) HO9.out Ue (fun k hk=>by cases hk;omega));clear rS Ue
     go_wp2_with fail
     refine hK _ _ (fun _=>⟨cd.out.box.cell 0,Y9.out.cell 0,Y9.out.cell 1⟩) (fun gp=>?_)
     clear hK K hS gp
     (try simp only[Act.put,abi,aal,aap])
     (refine zL (i:=9) rfl k_ (fun K hK=>?_));(rw[aao (by rfl)])
     go_simp
     go_at_call 107
     refine(VD _ _ N7 ls _ _ _ HOa.out.1.reads HOa.out.2.1.reads (by have:=Wk.out;omega) o_).mono ?_
     rintro e wb ⟨Anb,cnb,Alb,clb,rfl,rT,gj⟩;have ce:=h_ (cd.out.below gj);have HYb:=h_ (Y9.out.below gj Y9.out.lt);have HP:=h_ (ce.out.put (Vw (zq.1 fH.out) z ns.length) rfl rfl rT cd.out.box.lt);clear gj rT
     go_wp2_with fail
     refine hK _ _ (fun _=>⟨ce.out.box.cell 0,HYb.out.cell 0,HYb.out.cell 1⟩) (fun gp=>?_)
     have hSb:=gp k_;clear hK K gp
     (try simp only[Act.put,abi,aal,aap])
     refine tE_ 10 rfl rfl ?_;(try simp only[Act.put,abi,aal,aap])
     refine tE_ 11 rfl rfl ?_;(try simp only[Act.put,abi,aal,aap])
     refine tF_ 12 rfl ?_;(try simp only[Act.put,abi,aal,aap])
     have WX:=ce.out.box;clear x_0 x_1 x_f0 x_f1 y_0 y_1;obtain⟨x_0,x_1,x_f0,x_f1⟩:=WX.b2
     (refine zL (i:=13) rfl k_ (fun K hK=>?_));(rw[aao (by rfl)])
     go_simp;refine hK _ _ (fun h=>by cases h) (fun _=>?_)
     clear hK K hSb
     (try simp only[Act.put,abi,aal,aap])
     refine yv k_ ?_ _
     clear x_0 x_1 x_f0 x_f1 WX f9 rR;generalize addL N7 ls z ns.length=L' at*;obtain⟨wc,rU⟩:∃wc,wc=(wb.setCell ⟨X,0,none⟩ (.slice Anb N7.length cnb)).setCell ⟨X,1,none⟩ (.slice Alb L'.length clb):=⟨_,rfl⟩;rw[<-rU] at HP⊢;clear rU;have b7:=HP.out.box;have b9:=HP.out.res;obtain⟨x_0,x_1,x_f0,x_f1⟩:=b7.b2;obtain⟨r_0,r_1,r_f0,r_f1⟩:=b9.b2;have HO:=h_ ((HP.out.own.setLow (p:=⟨w.heap.size,0,none⟩) (show w.heap.size<w.heap.size+1 by omega) (.slice Anb N7.length cnb)).setLow (p:=⟨w.heap.size,1,none⟩) (show w.heap.size<w.heap.size+1 by omega) (.slice Alb L'.length clb));have Fo:=h_ ((HP.out.cur.far (p:=⟨w.heap.size,0,none⟩) HP.out.hg (.slice Anb N7.length cnb)).far (p:=⟨w.heap.size,1,none⟩) HP.out.hg (.slice Alb L'.length clb));have HG:=h_ (zy (p:=⟨w.heap.size,1,none⟩) (zy (p:=⟨w.heap.size,0,none⟩) HP.out.gr (aaa _) (.slice Anb N7.length cnb)) (aaa _) (.slice Alb L'.length clb));have HW:=h_ HP.out.win;clear b7 b9;go_wp2;exact bodyPost_ret (v:= .agg #[(.slice Anb N7.length cnb),(.slice Alb L'.length clb)]) (by simp[results,Tryz.results264,go_sem,r_0,r_1,x_0,x_1]) rfl ⟨N7,L',Anb,cnb,Alb,clb,rfl,HW.out,HO.out,Fo.out,HG.out⟩
  ·have YI:(0:Int)<(kn:Int):=o_
   go_wp2_with fail
   refine(Jl W0 v zs g 2 _ Gq.out hle o_ Gv.out.cur).mono ?_
   rintro e w4 ⟨bb,rfl,FG,Gc⟩;have GY:=h_ (Gv.out.drawn FG Gc);clear Gv FG Gc;have f9:=GY.out.box;have R2:=GY.out.win.2.1;have F5:=GY.out.win.1;have wM:=GY.out.win.2.2.1;obtain⟨x_0,x_1,x_f0,x_f1⟩:=f9.b2
   cases bb
   ·go_wp2_with fail
    have rR:=And.intro x_0 x_1;have bU:(0:Int)<(ns.length:Int):=o_
    refine jm (n:=15) (S:=fun w'=>w'.cell? ⟨X,0,none⟩=some (.slice An ns.length cn)/\w'.cell? ⟨X,1,none⟩=some (.slice Al ls.length cl)) k_ rR (fun hS=>?_)
    refine tE_ 0 rfl rfl ?_;(try simp only[Act.put,abi,aal,aap])
    refine tE_ 1 rfl rfl ?_;(try simp only[Act.put,abi,aal,aap])
    refine tE_ 2 rfl rfl ?_;(try simp only[Act.put,abi,aal,aap])
    refine tE_ 3 rfl rfl ?_;(try simp only[Act.put,abi,aal,aap])
    refine tE_ 4 rfl rfl ?_;(try simp only[Act.put,abi,aal,aap])
    refine tE_ 6 rfl rfl ?_;(try simp only[Act.put,abi,aal,aap])
    refine tE_ 7 rfl rfl ?_;(try simp only[Act.put,abi,aal,aap])
    refine tE_ 8 rfl rfl ?_;(try simp only[Act.put,abi,aal,aap])
    refine tE_ 9 rfl rfl ?_;(try simp only[Act.put,abi,aal,aap])
    (refine zL (i:=5) rfl k_ (fun K hK=>?_));(rw[aao (by rfl)])
    go_simp
    go_at_call 125
    refine(zp W0 v zs g _ _ Gq.out hle bU GY.out.drew.cur).mono ?_
    rintro e w5 ⟨y,rfl,y0,y1,ci,FW⟩;have Fb:=h_ (GY.out.drew.drawn ci FW);clear ci FW
    go_wp2_with fail
    refine hK _ _ (fun _=>⟨Fb.out.box.cell 0,Fb.out.box.cell 1⟩) (fun gp=>?_)
    clear hK K hS gp
    (try simp only[Act.put,abi,aal,aap])
    (refine zL (i:=10) rfl k_ (fun K hK=>?_));(rw[aao (by rfl)])
    go_simp
    go_at_call 125
    refine(zp W0 v zs g _ _ Gq.out hle bU Fb.out.cur).mono ?_
    rintro e w6 ⟨z,rfl,z0,z1,cK,GX⟩;have Fr:=h_ (Fb.out.drawn cK GX);clear cK GX
    go_wp2_with fail
    refine hK _ _ (fun _=>⟨Fr.out.box.cell 0,Fr.out.box.cell 1⟩) (fun gp=>?_)
    clear hK K gp
    (try simp only[Act.put,abi,aal,aap])
    (refine zL (i:=11) rfl k_ (fun K hK=>?_));(rw[aao (by rfl)])
    go_simp
    go_at_call 107
    refine(VD _ _ ns ls _ _ _ Fr.out.own.1.reads Fr.out.own.2.1.reads o_ o_).mono ?_
    rintro e w7 ⟨An7,cn7,Al7,cl7,rfl,Cb,fQ⟩;have Ba:=h_ (Fr.out.below fQ);have HP:=h_ (Ba.out.put (Vw Ba.out.win y z) rfl rfl Cb Fr.out.box.lt);clear fQ Cb
    go_wp2_with fail
    refine hK _ _ (fun _=>⟨Ba.out.box.cell 0,Ba.out.box.cell 1⟩) (fun gp=>?_)
    have Nz:=gp k_;clear hK K gp
    (try simp only[Act.put,abi,aal,aap])
    refine tE_ 12 rfl rfl ?_;(try simp only[Act.put,abi,aal,aap])
    refine tE_ 13 rfl rfl ?_;(try simp only[Act.put,abi,aal,aap])
    refine tF_ 14 rfl ?_;(try simp only[Act.put,abi,aal,aap])
    have WY:=Ba.out.box;clear x_0 x_1 x_f0 x_f1;obtain⟨x_0,x_1,x_f0,x_f1⟩:=WY.b2
    (refine zL (i:=15) rfl k_ (fun K hK=>?_));(rw[aao (by rfl)])
    go_simp;refine hK _ _ (fun h=>by cases h) (fun _=>?_)
    clear hK K Nz
    (try simp only[Act.put,abi,aal,aap])
    refine yv k_ ?_ _
    clear x_0 x_1 x_f0 x_f1 WY f9 rR;generalize addL ns ls y z=L' at*;go_wp2;go_roundw
    case rel=>exact⟨kn -1,An7,cn7,Al7,cl7,ns,L',by congr 1;omega,by omega,HP.out⟩
    case measure=>simp[intOf];omega
   ·go_wp2_with fail
    have rR:=And.intro x_0 x_1;have Ng:0<mx2 1 (ls.length:Int):=by rw[vr];omega
    refine jm (n:=11) (S:=fun w'=>w'.cell? ⟨X,0,none⟩=some (.slice An ns.length cn)/\w'.cell? ⟨X,1,none⟩=some (.slice Al ls.length cl)) k_ rR (fun hS=>?_)
    refine tE_ 0 rfl rfl ?_;(try simp only[Act.put,abi,aal,aap])
    refine tE_ 1 rfl rfl ?_;(try simp only[Act.put,abi,aal,aap])
    refine tE_ 2 rfl rfl ?_;(try simp only[Act.put,abi,aal,aap])
    refine tE_ 3 rfl rfl ?_;(try simp only[Act.put,abi,aal,aap])
    refine tE_ 4 rfl rfl ?_;(try simp only[Act.put,abi,aal,aap])
    refine tE_ 5 rfl rfl ?_;(try simp only[Act.put,abi,aal,aap])
    (refine zL (i:=6) rfl k_ (fun K hK=>?_));(rw[aao (by rfl)])
    go_simp
    go_at_call 125
    refine(zp W0 v zs g _ _ Gq.out hle Ng GY.out.drew.cur).mono ?_
    rintro e w5 ⟨y,rfl,y0,y1,ci,FW⟩;have Fb:=h_ (GY.out.drew.drawn ci FW);clear ci FW
    go_wp2_with fail
    refine hK _ _ (fun _=>⟨Fb.out.box.cell 0,Fb.out.box.cell 1⟩) (fun gp=>?_)
    clear hK K hS gp
    (try simp only[Act.put,abi,aal,aap])
    (refine zL (i:=7) rfl k_ (fun K hK=>?_));(rw[aao (by rfl)])
    go_simp
    go_at_call 108
    refine(XD _ _ ns ls _ _ Fb.out.own.1.reads Fb.out.own.2.1.reads o_ o_).mono ?_
    rintro e w6 ⟨An6,cn6,Al6,cl6,rfl,G2,gz⟩;have Fr:=h_ (Fb.out.below gz);have HP:=h_ (Fr.out.put (z06 Fr.out.win y) rfl rfl G2 Fb.out.box.lt);clear gz G2
    go_wp2_with fail
    refine hK _ _ (fun _=>⟨Fr.out.box.cell 0,Fr.out.box.cell 1⟩) (fun gp=>?_)
    have ro:=gp k_;clear hK K gp
    (try simp only[Act.put,abi,aal,aap])
    refine tE_ 8 rfl rfl ?_;(try simp only[Act.put,abi,aal,aap])
    refine tE_ 9 rfl rfl ?_;(try simp only[Act.put,abi,aal,aap])
    refine tF_ 10 rfl ?_;(try simp only[Act.put,abi,aal,aap])
    have WZ:=Fr.out.box;clear x_0 x_1 x_f0 x_f1;obtain⟨x_0,x_1,x_f0,x_f1⟩:=WZ.b2
    (refine zL (i:=11) rfl k_ (fun K hK=>?_));(rw[aao (by rfl)])
    go_simp;refine hK _ _ (fun h=>by cases h) (fun _=>?_)
    clear hK K ro
    (try simp only[Act.put,abi,aal,aap])
    refine yv k_ ?_ _
    clear x_0 x_1 x_f0 x_f1 WZ f9 rR;generalize jO ns ls y=L' at*;go_wp2;go_roundw
    case rel=>exact⟨kn -1,An6,cn6,Al6,cl6,ns,L',by congr 1;omega,by omega,HP.out⟩
    case measure=>simp[intOf];omega
end Go.Proofs.YtnjcpljhmhdhkaaGreat
