/- part 11 -/
import Derived.Test.YtnjcpljhmhdhkaaGreatTPk10
import Derived.Shelf.Abstract
import Derived.BigRegion
import Derived.OwnWalk
import Derived.StillTailTactics
set_option linter.unusedSimpArgs false
set_option linter.unusedVariables false
set_option maxRecDepth 100000
set_option maxHeartbeats 8000000
namespace Go.Proofs.YtnjcpljhmhdhkaaGreat
open Go.RowKit
def Jc (f:Nat) (lb:Array Value) (G:List Nat) (c:Nat->Nat->Int) (g:Option Nat) (w:World):Prop:=
 ∀(v:World) (d e:Nat),d∈G->e∈G->w.grownBy v g->Calls Tryz.prog f (#[.int .i64 d,.int .i64 e]++lb) v fun en v'=>en= .returned (.int .i64 (c d e))/\Below v.heap.size v v'
theorem yM {w v v':World} {row:Option Nat} (h:w.grownBy v row) (hb:Below v.heap.size v v'):w.grownBy v' row:=
 ⟨hb.os.trans h.os,hb.tape.trans h.tape,hb.output.trans h.output,aai h.size hb.size,fun i hi Hv=>(hb.block i (aaD hi h.size)).trans (h.block i hi Hv)⟩
theorem qu (w:World) (row:Option Nat):w.grownBy w row:=⟨rfl,rfl,rfl,aaa _,fun _ _ _=>rfl⟩
theorem qv {w v:World} {g:Nat} (h:w.grownBy v (some g)) (i:Nat) (x:Value):w.grownBy (v.setCell ⟨g,i,none⟩ x) (some g):=
 ⟨h.os,h.tape,h.output,by simpa[World.setCell] using h.size,fun j hj Hv=>(Below.heap_setCell v ⟨g,i,none⟩ x j (fun e=>Hv (by rw[e]))).trans (h.block j hj Hv)⟩
theorem Vs {w v:World} {row:Option Nat} (h:w.grownBy v row):w.grownBy v.drew row:=⟨h.os,h.tape,h.output,h.size,h.block⟩
theorem VY (lt:Nat->Nat->Bool) (G:List Nat) (e:Nat):∀i,i<=G.length->e∈isoK lt G i->e∈G
 |0,_,h=>by simp[XK] at h
 |i+1,hi,h=>by
  rw[ZH lt G i o_] at h
  rcases X5 h with rfl|h
  ·exact abg _
  ·exact VY lt G e i o_ h
theorem z1V (lt:Nat->Nat->Bool) (G:List Nat) (h:0<G.length):isoH lt G 1=natI G:=by
 have h1:=JT lt G 0 h;have h2:posN (lt G[0]) (isoK lt G 0) 0=0:=rfl;rw[h2,QL lt G 0 h,ZM] at h1;exact h1.symm
theorem z2T (base f g cap:Nat) (lb:Array Value) (G:List Nat) (c:Nat->Nat->Int) (lt:Nat->Nat->Bool) (w:World) (hc:Jc f lb G c (some g) w) (Hf:∀d e,decide (c d e<0)=lt d e)
  (ho:OwnI base w (.slice (some ⟨g,0,none⟩) G.length cap) (natI G)) (M0:G.length<=12) (ef:Enters Tryz.prog f):
  Calls Tryz.prog 246 #[.slice (some ⟨g,0,none⟩) G.length cap,.int .i64 0,.int .i64 G.length,.func (.func f) #[] lb] w
   fun e w'=>e= .returned (.tuple #[])/\OwnI base w' (.slice (some ⟨g,0,none⟩) G.length cap) (natI (isoK lt G G.length))/\w.grownBy w' (some g):=by
 go_enter Tryz.func246,Tryz.ntmps246
 go_wp2
 go_loopw [8] (fun x wr=>∃i:Nat,1<=i/\(i<=G.length∨G.length=0)/\x= .int .i64 i/\OwnI base wr (.slice (some ⟨g,0,none⟩) G.length cap) (isoH lt G (min i G.length))/\w.grownBy wr (some g)) (fun x _=>G.length -(intOf x).toNat)
 case atStart=>
  refine⟨1,aaa _,by omega,rfl,?_,qu _ _⟩
  rcases abv G.length with h0|h0
  ·rw[h0,show min 1 0=0 from rfl,ZM];rw[h0] at ho;exact ho
  ·rw[show min 1 G.length=1 by omega,z1V lt G h0];exact ho
 case round=>
  obtain⟨i,Cz,CS,rfl,Hn,hg⟩:=hrel;have EF:=h_ ef;clear ho ef
  by_cases Gg:i<G.length
  ·rw[show min i G.length=i by omega,<-QL lt G i Gg] at Hn
   have HE:=h_ (JT lt G i Gg);have NU:G.getD i 0=G[i]:=by simp[List.getD,Gg]
   have rF:G.getD i 0∈G:=by rw[NU];exact abg Gg
   have WZ:=h_ (jE lt G i o_);have HKM:=h_ (fun e h=>VY lt G e i o_ h);rw[<-NU] at HE;have W7:=h_ (fun p hp=>z0j lt G i p Gg hp);have GP:=h_ (fun p hp=>V6 lt G i p Gg hp);have M1:=h_ (fun p hp=>XV lt G i p Gg hp);have rG:=h_ (fun p hp=>z1Z lt G i p Gg hp);clear NU;generalize hD:G.getD i 0=D at*;clear hD;go_wp2
   go_loopw [9] (fun x wr2=>∃p:Nat,p<=i/\x= .int .i64 p/\OwnI base wr2 (.slice (some ⟨g,0,none⟩) G.length cap) (isoR lt G i p)/\w.grownBy wr2 (some g)/\Hid (posN (lt D) (isoK lt G i) i=posN (lt D) (isoK lt G i) p)) (fun x _=>(intOf x).toNat)
   case atStart=>exact⟨i,aaa _,rfl,Hn,hg,h_ rfl⟩
   case round=>
    clear Hn hg;obtain⟨p,hp,rfl,Hn,hg,HP⟩:=hrel
    by_cases nt:0<p
    ·obtain⟨r,rfl⟩:∃r,p=r+1:=⟨p -1,by omega⟩
     have Mn:r<i:=o_
     have xs:=Hn.cell (q:=r+1) (by rw[rG.out _ hp];omega);have xb:=Hn.cell (q:=r) (by rw[rG.out _ hp];omega);rw[W7.out _ hp] at xs;rw[GP.out r Mn] at xb;have Ck:(isoK lt G i).getD r 0∈G:=HKM.out _ (by rw[List.getD,aac (by rw[WZ.out];exact Mn)];exact abg _);have Mi:Hid (posN (lt D) (isoK lt G i) (r+1)=if lt D ((isoK lt G i).getD r 0) then posN (lt D) (isoK lt G i) r else r+1):=h_ rfl;have HS:=h_ (M1.out r Mn);have FU:=Hf D ((isoK lt G i).getD r 0);have uE:=fun v (hv:w.grownBy v (some g))=>hc v D ((isoK lt G i).getD r 0) rF Ck hv
     generalize (isoK lt G i).getD r 0=e at*;rw[<-FU] at Mi;generalize c D e=z at*;have HC:=h_ uE;clear uE FU Ck;have ir1:(0:Int)<=(r:Int):=o_
     have ir2:(r:Int)<(G.length:Int):=o_
     have ir3:((r+1:Nat):Int)<(G.length:Int):=o_
     have mP:=(Hn.lt g rfl).2;clear hc Hf;have hef:∀(args:Array Value) (w:World),(callFunc f args).run Tryz.prog w= .ok (.enter f args) w:=EF.out
     go_wp2_with fail
     (refine z7 k_ k_ (fun hG=>?_))
     repeat (go_big_quiet_step ((go_at_fn f;exact zE (HC.out _ (yM hg (Grw.below _))))))
     refine wpQuiet_nil ?_
     clear hG;rintro w3 ⟨⟨_,Hg⟩,rfl⟩;have Hq:=Hn.kept Hg;have gq:=yM hg Hg;have g0:=Hq.frz r;have g1:=Hq.frz (r+1);have ys:=Hq.cell (q:=r+1) (by rw[rG.out _ hp];omega);rw[W7.out _ hp] at ys
     have yb':w3.cell? ⟨g,r,none⟩=some (.int .i64 e):=by
      have:=(Hg.cell (p:=⟨g,r,none⟩) mP).trans xb;exact this
     clear xs xb hg Hg hef
     by_cases hz:z<0
     ·have e1:decide (z<0)=true:=by simp[hz]
      have HO:=h_ (show OwnI base ((w3.setCell ⟨g,r+1,none⟩ (.int .i64 e)).setCell ⟨g,r,none⟩ (.int .i64 D)) (.slice (some ⟨g,0,none⟩) G.length cap) (isoR lt G i r) by
       rw[<-HS.out];exact(Hq.set_ (r+1) _).set_ r _)
      have HG:=h_ (qv (qv gq (r+1) (.int .i64 e)) r (.int .i64 D));have FO:Hid (posN (lt D) (isoK lt G i) i=posN (lt D) (isoK lt G i) r):=h_ (by rw[HP.out,Mi.out,aao e1]);clear Hn Hq gq
      go_wp2_with fail
      go_region
      all_goals go_wp2
      all_goals go_roundw
      case rel=>exact⟨r,by omega,by go_num,HO.out,Vs HG.out,FO⟩
      case measure=>simp[intOf]
     ·have e1:decide (z<0)=false:=by simp[hz]
      have FO:Hid (posN (lt D) (isoK lt G i) i=r+1):=h_ (by rw[HP.out,Mi.out,e1];rfl);have HO:Hid (OwnI base w3 (.slice (some ⟨g,0,none⟩) G.length cap) (isoH lt G (i+1))):=h_ (by rw[<-HE.out,FO.out];exact Hq);clear Hn Hq;go_wp2;go_roundw
      case rel=>exact⟨i+1,by omega,by omega,by go_num,by rw[show min (i+1) G.length=i+1 by omega];exact HO.out,gq⟩
      case measure=>simp[intOf];omega
    ·have mG:p=0:=o_
     subst mG;have FO:Hid (posN (lt D) (isoK lt G i) i=0):=h_ HP.out;have HO:Hid (OwnI base wr (.slice (some ⟨g,0,none⟩) G.length cap) (isoH lt G (i+1))):=h_ (by rw[<-HE.out,FO.out];exact Hn);clear Hn hc Hf nt
     go_wp2_with fail
     (refine z7 k_ k_ (fun hG=>?_))
     repeat (go_big_quiet_step (fail))
     refine wpQuiet_nil ?_
     clear hG;rintro w3 ⟨⟨_,Hg⟩,rfl⟩;have Hq:=HO.out.kept Hg;have gq:=yM hg Hg;go_wp2;go_roundw
     case rel=>exact⟨i+1,by omega,by omega,by go_num,by rw[show min (i+1) G.length=i+1 by omega];exact Hq,gq⟩
     case measure=>simp[intOf];omega
  ·have HO:Hid (OwnI base wr (.slice (some ⟨g,0,none⟩) G.length cap) (natI (isoK lt G G.length))):=h_ (by
    rw[show min i G.length=G.length by omega,z27] at Hn;exact Hn)
   clear hc Hf Hn;go_wp2
   go_end0
   exact⟨rfl,HO.out,hg⟩
theorem ZW (f:Nat) (lb:Array Value) (w:World):
  Calls Tryz.prog 246 #[.slice none 0 0,.int .i64 0,.int .i64 0,.func (.func f) #[] lb] w
   fun e w'=>e= .returned (.tuple #[])/\Below w.heap.size w w':=by
 go_enter Tryz.func246,Tryz.ntmps246
 go_wp2;refine wp_loop_rounds 1 ?_
 rw[rounds_succ];go_wp2
 go_end0
 exact⟨rfl,by exact bel_⟩
theorem z8F (base f g cap:Nat) (k:Int) (lb:Array Value) (G:List Nat) (c:Nat->Nat->Int) (lt:Nat->Nat->Bool) (w:World) (hc:Jc f lb G c (some g) w) (Hf:∀d e,decide (c d e<0)=lt d e)
  (ho:OwnI base w (.slice (some ⟨g,0,none⟩) G.length cap) (natI G)) (M0:G.length<=12) (ef:Enters Tryz.prog f):
  Calls Tryz.prog 273 #[.slice (some ⟨g,0,none⟩) G.length cap,.int .i64 0,.int .i64 G.length,.int .i64 k,.func (.func f) #[] lb] w
   fun e w'=>e= .returned (.tuple #[])/\OwnI base w' (.slice (some ⟨g,0,none⟩) G.length cap) (natI (isoK lt G G.length))/\w.grownBy w' (some g):=by
 have h1:(G.length:Int)<=12:=o_
 go_enter Tryz.func273,Tryz.ntmps273
 go_wp2;refine wp_loop_rounds 1 ?_
 rw[rounds_succ]
 go_wp2_with fail
 refine(z2T base f g cap lb G c lt _ hc Hf ho M0 ef).mono ?_
 rintro e w1 ⟨rfl,Hj,gL⟩;go_wp2;exact bodyPost_ret (v:= .tuple #[]) (by simp[results,Tryz.results273,go_sem]) rfl ⟨rfl,Hj,gL⟩
theorem z5u (base f g cap:Nat) (lb:Array Value) (G:List Nat) (c:Nat->Nat->Int) (lt:Nat->Nat->Bool) (w:World) (hc:Jc f lb G c (some g) w) (Hf:∀d e,decide (c d e<0)=lt d e)
  (ho:OwnI base w (.slice (some ⟨g,0,none⟩) G.length cap) (natI G)) (M0:G.length<=12) (ef:Enters Tryz.prog f):
  Calls Tryz.prog 267 #[.slice (some ⟨g,0,none⟩) G.length cap,.func (.func f) #[] lb] w
   fun e w'=>e= .returned (.tuple #[])/\OwnI base w' (.slice (some ⟨g,0,none⟩) G.length cap) (natI (isoK lt G G.length))/\w.grownBy w' (some g):=by
 have h0:(0:Int)<=(G.length:Int):=o_
 have h1:(G.length:Int)<=12:=o_
 go_enter Tryz.func267,Tryz.ntmps267
 go_wp2_with (go_at_call 274;refine(z4q _ _ h0 h1).mono ?_;rintro e w' ⟨⟨k,rfl⟩,rfl⟩)
 refine(z8F base f g cap _ lb G c lt _ hc Hf ho M0 ef).mono ?_
 rintro e w1 ⟨rfl,Hj,gL⟩;go_wp2
 go_end0
 exact⟨rfl,Hj,gL⟩
theorem z8l (f:Nat) (k:Int) (lb:Array Value) (w:World):
  Calls Tryz.prog 273 #[.slice none 0 0,.int .i64 0,.int .i64 0,.int .i64 k,.func (.func f) #[] lb] w
   fun e w'=>e= .returned (.tuple #[])/\Below w.heap.size w w':=by
 go_enter Tryz.func273,Tryz.ntmps273
 go_wp2;refine wp_loop_rounds 1 ?_
 rw[rounds_succ]
 go_wp2_with fail
 refine(ZW f lb _).mono ?_
 rintro e w1 ⟨rfl,Hb⟩;go_wp2;exact bodyPost_ret (v:= .tuple #[]) (by simp[results,Tryz.results273,go_sem]) rfl ⟨rfl,Hb⟩
theorem z5O (f:Nat) (lb:Array Value) (w:World):
  Calls Tryz.prog 267 #[.slice none 0 0,.func (.func f) #[] lb] w
   fun e w'=>e= .returned (.tuple #[])/\Below w.heap.size w w':=by
 go_enter Tryz.func267,Tryz.ntmps267
 go_wp2_with (go_at_call 274;refine(z4q 0 _ o_ o_).mono ?_;rintro e w' ⟨⟨k,rfl⟩,rfl⟩)
 refine(z8l f _ lb _).mono ?_
 rintro e w1 ⟨rfl,Hb⟩;go_wp2
 go_end0
 exact⟨rfl,Hb⟩
theorem z4v (ls:List Pr) (k:Nat):∀d,(frD ls k d).length <=d
 |0=>by simp[frD]
 |d+1=>by
  have:=z4v ls k d;unfold frD
  split<;>simp<;>omega
theorem z2K (vn vl:Value) (ns ls:List Pr) (k:Nat) (w:World) (hn:RP w vn ns) (hl:RP w vl ls) (hk:k<ns.length) (Hk:zC ns ls):
  Calls Tryz.prog 262 #[.agg #[vn,vl],.int .i64 k] w (RetI (natI (ardS ns ls k (2*ls.length))) w):=by
 have GN:=Hk.2.2.1;obtain⟨Al,cl,rfl,Hz,GM,_⟩:=hl.formI;unfold maxLen at GM;obtain⟨i0,hi,iz0,iz1,iz2⟩:=info_parts qq
 go_enter Tryz.func262,Tryz.ntmps262
 go_wp2
 go_loopw [5,6] (fun v i wr=>∃d:Nat,d<=2*ls.length/\i= .int .i64 d/\OwnI (w.heap.size+1+1) wr v (natI (frD ls k d))/\Blk wr w.heap.size 27 #[vn,.slice Al ls.length cl]/\Blk wr (w.heap.size+1) 3 #[.int .i64 k]/\Below w.heap.size w wr) (fun _ i _=>2*ls.length -(intOf i).toNat)
 case atStart=>exact⟨0,aab _,rfl,OwnI.nil _ _,(Blk.newAt rfl).alloc _,Blk.newAt (by simp),by exact bel_⟩
 case round=>
  obtain⟨d,hd,rfl,ho,hW,hK,Hd⟩:=hrel;have gI:=hW.lt;have hsk:=hK.lt
  by_cases Hf:d<2*ls.length
  ·have Hu:(d:Int)<2*(ls.length:Int):=o_
   have nv:RP wr (.slice Al ls.length cl) ls:=hl.below Hd;have kk:=hK.cell 0;simp only[abd,aag] at kk
   obtain⟨a_0,a_1⟩:=hW.c2
   go_wp2_with fail
   (refine z7 k_ k_ (fun hG=>?_))
   repeat (go_big_quiet_step ((go_at_call 241;exact zE (yP _ _ ls d _ (RS.grw _ nv) Hf))))
   (refine wpQuiet_nil ?_);(clear hG);(rintro w3 ⟨⟨_,Hg⟩,rfl⟩);(try dsimp only);have fC:=Hg.size;(try simp at fC);(try have F1:=p0_ w w3);(try have F2:=p1_ w w3)
   have gy:Below w.heap.size w w3:=Hd.trans (Hg.mono Hd.size);have Hq:=ho.kept Hg;have Gz:=hW.below Hg gI;have rz:=hK.below Hg hsk
   by_cases bF:zd ls d=k
   ·have e1:(zd ls d==(k:Int))=true:=by simp[bF]
    have HS:Hid (natI (frD ls k (d+1))=natI (frD ls k d)++[(d:Int)]):=h_ (by rw[Jv bF];simp[natI]);have hle:=z4v ls k d;have Cg:=h_ (za (frD ls k d));generalize frD ls k d=G at*;have hG:G.length<=40:=o_
    go_wp2_with (at_builtin;refine wpList_append_own _ rfl _ _ 31 rfl (w.heap.size+1+1) 3 i0 (.int .i64 0) 1 8 Tryz.underlying31 hi iz0 iz1 iz2 rfl (by decide) _ _ _ rfl (World.ownsRow.alloc Hq _) ⟨w3.heap.size,0,none⟩ 1 1 [.int .i64 _] rfl rfl (cell_one_new _ _ _) (by intro u hu;simp at hu;subst hu;rfl) (by rw[Cg.out];unfold maxLen;omega) (by rw[Cg.out];omega) (by simp;omega) ?_)
    intro v2 w2 fe gu Gr;have Ge:Below w.heap.size w w2:=(gy.alloc gy.size (.cells #[.int .i64 (d:Int)] 3)).grown gu (by simp;have:=gy.size;omega) (fun k hk=>by have:=(Hq.lt k hk).1;omega);have gX:Blk w2 w.heap.size 27 #[vn,.slice Al ls.length cl]:=(gu.block _ (by simp;omega) (fun e=>by have:=(Hq.lt _ e.symm).1;omega)).trans (Gz.alloc _);have hK2:Blk w2 (w.heap.size+1) 3 #[.int .i64 k]:=(gu.block _ (by simp;omega) (fun e=>by have:=(Hq.lt _ e.symm).1;omega)).trans (rz.alloc _);have HO:=h_ (OwnI.snoc fe);go_wp2;go_roundw
    case rel=>exact⟨d+1,by omega,by go_num,by rw[HS.out];exact HO.out,gX,hK2,Ge⟩
    case measure=>simp[intOf];omega
   ·have e1:(zd ls d==(k:Int))=false:=by simp[bF]
    have HS:Hid (frD ls k (d+1)=frD ls k d):=h_ (z0S bF);go_wp2;go_roundw
    case rel=>exact⟨d+1,by omega,by go_num,by rw[HS.out];exact Hq,Gz,rz,gy⟩
    case measure=>simp[intOf];omega
  ·have C1:d=2*ls.length:=o_
   subst C1;obtain⟨a_0,a_1⟩:=hW.c2;have hAS:=JB ns ls k (2*ls.length);have M0:=z7t Hk k;have F3:=Xe ls k (2*ls.length);generalize frD ls k (2*ls.length)=G at*
   rcases F4:ho.2 with ⟨rfl,e1⟩|⟨gb,cap,cur,rfl,mo,hh,Fs⟩
   ·have hG0:G=[]:=by rw[za] at e1;exact abx e1
    have HR:Hid (ardS ns ls k (2*ls.length)=[]):=h_ (by rw[<-hAS,hG0];rfl)
    go_wp2_with fail
    refine(z5O _ _ _).mono ?_
    rintro e w4 ⟨rfl,H5⟩;go_wp2;go_ret
    exact⟨_,rfl,by rw[HR.out];exact OwnI.nil _ _,Hd.trans (H5.mono Hd.size)⟩
   ·have Bj:=(ho.lt gb rfl).2
    have hgl:=za G;rw[hgl] at ho⊢
    have hc:Jc 268 #[.pointer (some ⟨w.heap.size,0,none⟩),.pointer (some ⟨w.heap.size+1,0,none⟩)] G (cmpD ns ls k) (some gb) wr:=by
     intro v d e hd he Yb;have hbv:Below w.heap.size w v:=Hd.grown Yb Hd.size (fun k hk=>by cases hk;omega);have hWv:=hW.grown Yb o_;have hKv:=hK.grown Yb o_;have kk:=hKv.cell 0;simp only[abd,aag] at kk
     exact z8e w.heap.size (w.heap.size+1) vn (.slice Al ls.length cl) ns ls k d e v hWv kk hKv.lt (hn.below hbv) (hl.below hbv) hk (F3 d hd).1 (F3 e he).1 Hk
    have HC:=h_ hc;have HO:=h_ ho;have Yc:=h_ hAS
    go_wp2_with fail
    refine(z5u (w.heap.size+1+1) _ gb cap _ G (cmpD ns ls k) (bfD ns ls k) _ HC.out (z8B ns ls k) HO.out M0 (enters_of Tryz.func268 k_ rfl)).mono ?_
    rintro e w4 ⟨rfl,gz,Gf⟩;rw[Yc.out] at gz;go_wp2;go_ret
    exact⟨_,rfl,gz.mono o_,Hd.grown Gf Hd.size (fun k hk=>by cases hk;omega)⟩
def idxN (l:List Nat) (d:Nat):Int:=if d∈l then(l.idxOf d:Int) else -1
theorem z4m {l:List Nat} {d:Nat} (h:d∉l):idxN l d= -1:=by simp[idxN,h]
theorem z55 {l:List Nat} {d k:Nat} (hk:k<l.length) (h:d∉l.take k) (hp:l.getD k 0=d):idxN l d=k:=by
 have Wf:l[k]=d:=by simpa[List.getD,hk] using hp
 have e:l=l.take k++d::l.drop (k+1):=by
  rw[<-Wf,<-aas hk,abo]
 have hm:d∈l:=by rw[e];simp
 unfold idxN;rw[aao hm]
 have:l.idxOf d=k:=by
  rw[e,List.idxOf_append,aaq h,List.idxOf_cons_self];simp;omega
 rw[this]
theorem qg (l:List Nat) (k:Nat):(natI l).getD k 0=((l.getD k 0:Nat):Int):=by
 unfold natI;simp only[List.getD,aau]
 cases l[k]? <;>rfl
theorem Qu {l:List Nat} {d k:Nat} (hk:k<l.length) (h:d∉l.take k) (Hv:l.getD k 0≠d):d∉l.take (k+1):=by
 rw[aax hk,aaI,aa9];rintro(h2|h2)
 ·exact h h2
 ·apply Hv
  rw[h2];simp[List.getD,hk]
theorem Zh (v:Value) (l:List Nat) (d:Nat) (w:World) (h:RI w v (natI l)):
  Calls Tryz.prog 85 #[v,.int .i64 d] w fun e w'=>e= .returned (.int .i64 (idxN l d))/\w=w':=by
 obtain⟨A,c,rfl,hc,hm,hcell⟩:=h.form;rw[za] at hc hm hcell⊢;unfold maxLen at hm;clear h
 go_enter Tryz.func85,Tryz.ntmps85
 go_wp2
 go_loop [8] (fun i=>∃k:Nat,k<=l.length/\i= .int .i64 k/\Hid (d∉l.take k)) (fun i=>l.length -(intOf i).toNat)
 case atStart=>exact⟨0,aab _,rfl,h_ (by simp)⟩
 case round=>
  obtain⟨k,hk,rfl,HT⟩:=hrel
  by_cases Hf:k<l.length
  ·obtain⟨b,off,rfl,hb,Hz⟩:=hcell o_
   have fM:=Hz k Hf;rw[qg] at fM;clear Hz hcell;have HS:=h_ (fun Hv=>Qu Hf HT.out Hv);have HY:=h_ (fun he=>z55 Hf HT.out he);generalize l.getD k 0=x at*
   by_cases he:x=d
   ·have e1:((d:Int)==(x:Int))=true:=by simp[he]
    have HX:=h_ (HY.out he);clear he;go_wp2;go_ret
    exact⟨zi HX.out.symm,rfl⟩
   ·have e1:((d:Int)==(x:Int))=false:=by simp;omega
    have HX:=h_ (HS.out he);clear he;go_wp2;go_round
    case rel=>exact⟨k+1,by omega,by go_num,HX⟩
    case measure=>simp[intOf];omega
  ·have gn:l.length<=k:=o_
   have h:=HT.out;rw[aaK gn] at h;have HX:Hid (idxN l d= -1):=h_ (z4m h);clear h hcell;go_wp2;go_ret
   exact⟨zi HX.out.symm,rfl⟩
theorem z8U {l:List Nat} {d:Nat} (h:d∈l):idxN l d=(l.idxOf d:Int):=by simp[idxN,h]
theorem X8 {ns ls:List Pr} (Hk:zC ns ls) {d:Nat} (hd:d<2*ls.length):∃(t:Nat) (G:List Nat) (i q:Nat),zd ls d=(t:Int)/\t<ns.length/\ardS ns ls t (2*ls.length)=G/\idxN G d=(i:Int)/\i<G.length/\G.length<=12/\G.getD i 0=d/\d∉G.take i/\
  (i+G.length -1)%G.length=q/\q<G.length/\G.getD q 0=vf ns ls d:=by
 have Hr:∀j:Nat,j<ls.length->zt ns (ndI ls j)=true:=fun j hj=>(Hk.2.2.2.2.2 j hj).1
 obtain⟨t,ht,Bh⟩:=qL Hr hd;have hr:qK ns ls d=ardS ns ls t (2*ls.length):=by unfold qK;rw[ht,aa5]
 have hm:=ky Hr hd;have FH:=abt hm;have fZ:=abh hm;have M0:=z7t Hk t;have hAS:=JB ns ls t (2*ls.length);have Hm:(qK ns ls d).length =(frD ls t (2*ls.length)).length :=by rw[hr,<-hAS,jE _ _ _ (aaa _)]
 refine⟨t,qK ns ls d,(qK ns ls d).idxOf d,_,ht,Bh,hr.symm,z8U hm,FH,by omega,?_,?_,rfl,Nat.mod_lt _ fZ,rfl⟩
 ·rw[List.getD,aac FH,List.getElem_idxOf FH];rfl
 ·intro hc
  have hn:(qK ns ls d).Nodup :=vS _ _ _ _;obtain⟨j,hj,e⟩:=aba hc;rw[abm] at hj;rw[abp] at e;have e2:=List.getElem_idxOf FH;have:=(List.getElem_inj hn (h₀:=by omega) (h₁:=FH)).1 (e.trans e2.symm);omega
theorem z3l (vn vl:Value) (ns ls:List Pr) (d:Nat) (w:World) (hn:RP w vn ns) (hl:RP w vl ls) (hd:d<2*ls.length) (Hk:zC ns ls):
  CB_ 245 #[.agg #[vn,vl],.int .i64 d,.int .i64 (-1)] w (.int .i64 (vf ns ls d)):=by
 obtain⟨t,G,i,q,ht,Bh,hG,rJ,FH,M0,_,_,hq,mr,G9⟩:=X8 Hk hd;have HW:=h_ Hk;have Hi:Below w.heap.size w (w.alloc (.cells #[vn,vl] 27)):=bel_
 have NW:=h_ (fun (v:World) (hv:Below w.heap.size w v)=>yP vn vl ls d v (hl.below hv) hd);have Wg:=h_ (fun (v:World) (hv:Below w.heap.size w v)=>z2K vn vl ns ls t v (hn.below hv) (hl.below hv) Bh HW.out);rw[ht] at NW;rw[hG] at Wg;rw[<-G9];obtain⟨x,hx⟩:∃x,G.getD q 0=x:=⟨_,rfl⟩;rw[hx];have HX:=h_ hx;clear hx;have HID:=h_ rJ;clear rJ G9 hG Hk ht;have HQ:=h_ hq;clear hq
 go_enter Tryz.func245,Tryz.ntmps245
 go_wp2_with fail
 go_region_held3 (fun w'=>w'.cell? ⟨w.heap.size,0,none⟩=some vn/\w'.cell? ⟨w.heap.size,1,none⟩=some vl)
  (go_keep)
  (first|(go_at_call 241;refine(NW.out _ bel_).mono ?_;rintro e w1 ⟨rfl,Hb⟩;(have gl:=bdC Hb);have H7:=Hb.size;(try simp at H7);(try have gY:=p0_ w w1);have Ha:Below w.heap.size w w1:=bel_)|(go_at_call 262;refine(Wg.out _ bel_).mono ?_;rintro e w2 ⟨v2,rfl,Hn,Hh⟩;(have gV:=bcC Hh)))
 have Hc:Below w.heap.size w w2:=bel_
 have Mn:=Hn.reads;obtain⟨A,c,rfl,hc,hm,hcell⟩:=Mn.form;rw[za] at hc hm hcell Mn⊢;obtain⟨b,off,rfl,H4,Hz⟩:=hcell o_;have fM:=Hz q mr;rw[qg] at fM;clear Hz hcell gl gV;rw[HX.out] at fM;have e1:(i:Int)+ -1+(G.length:Int)=((i+G.length -1:Nat):Int):=o_
 have e2:((i+G.length -1:Nat):Int).tmod (G.length:Int)=(q:Int):=by
  rw[Int.tmod_eq_emod_of_nonneg (Int.natCast_nonneg _),<-Int.natCast_emod,HQ.out]
 have i1:(0:Int)<=(q:Int):=o_
 have i2:(q:Int)<(G.length:Int):=o_
 go_wp2_with fail
 refine(Zh _ G d _ Mn).mono ?_
 rintro e w3 ⟨rfl,rfl⟩;rw[HID.out];go_wp2;go_ret
 exact⟨rfl,by exact bel_⟩
theorem z3X (vn vl:Value) (ns ls:List Pr) (d:Nat) (w:World) (hn:RP w vn ns) (hl:RP w vl ls) (hd:d<2*ls.length) (Hk:zC ns ls):
  CB_ 261 #[.agg #[vn,vl],.int .i64 d,.int .i64 (-1)] w (.int .i64 (vf ns ls d)):=by
 obtain⟨t,G,i,q,ht,Bh,hG,rJ,FH,M0,NU,hni,hq,mr,G9⟩:=X8 Hk hd;have Hr:∀j:Nat,j<ls.length->zt ns (ndI ls j)=true:=fun j hj=>(Hk.2.2.2.2.2 j hj).1
 have Bg:=h_ Hr;have HNI:=h_ hni;have HGI:=h_ NU;have HM:=h_ (And.intro Hk.2.2.1 Hk.2.1);rw[<-G9];obtain⟨x,hx⟩:∃x,G.getD q 0=x:=⟨_,rfl⟩;rw[hx];have HX:=h_ hx;clear hx;have HG:=h_ hG;have HT:=h_ ht;clear rJ G9 hG Hk ht hni NU Hr;have HQ:=h_ hq;clear hq
 go_enter Tryz.func261,Tryz.ntmps261
 go_wp2_with fail
 refine(kA _ _ ls d _ (hl.below bel_) hd).mono ?_
 rintro e w1 ⟨rfl,Hb⟩;(have gl:=bcC Hb)
 have Ha:Below w.heap.size w w1:=bel_
 rw[HT.out]
 go_wp2_with fail
 refine(z36 _ _ ns ls t _ (hn.below Ha) (hl.below Ha) Bh HM.out.1 HM.out.2 Bg.out).mono ?_
 rw[HG.out];rintro e w2 ⟨v2,rfl,Hn,Hh⟩;have Hc:=Ha.trans (Hh.mono Ha.size);have Mn:=Hn.reads;obtain⟨A,c,rfl,hc,hm,hcell⟩:=Mn.form;rw[za] at hc hm hcell Mn⊢;obtain⟨b,off,rfl,H4,Hz⟩:=hcell o_;have fM:=Hz q mr;rw[qg] at fM;have cZ:=h_ Hz;clear Hz hcell gl Hb Hh Hn;rw[HX.out] at fM;have e1:(i:Int)+ -1+(G.length:Int)=((i+G.length -1:Nat):Int):=o_
 have e2:((i+G.length -1:Nat):Int).tmod (G.length:Int)=(q:Int):=by
  rw[Int.tmod_eq_emod_of_nonneg (Int.natCast_nonneg _),<-Int.natCast_emod,HQ.out]
 have i1:(0:Int)<=(q:Int):=o_
 have i2:(q:Int)<(G.length:Int):=o_
 go_wp2
 go_loop [10] (fun y=>∃k:Nat,k<=i/\y= .int .i64 k) (fun y=>i+1 -(intOf y).toNat)
 case atStart=>exact⟨0,aab _,rfl⟩
 case round=>
  obtain⟨k,hk,rfl⟩:=hrel;have BJ:k<G.length:=o_
  have hkc:=cZ.out k BJ;rw[qg] at hkc
  by_cases ua:k=i
  ·subst ua
   rw[HGI.out] at hkc;go_wp2;go_ret
   exact⟨rfl,Hc⟩
  ·have Hv:G.getD k 0≠d:=by
    intro h
    apply HNI.out
    rw[<-h,List.getD,aac BJ];simp only[Option.getD_some]
    rw[List.mem_take_iff_getElem];exact⟨k,by omega,rfl⟩
   generalize G.getD k 0=y at*;have e4:((y:Int)==(d:Int))=false:=by simp;omega
   clear Hv;go_wp2;go_round
   case rel=>exact⟨k+1,by omega,by go_num⟩
   case measure=>simp[intOf];omega
theorem kX (d:Nat) (h:d<1000000):bits .xor .i64 (d:Int) 1=((twin d:Nat):Int):=by
 have x:=x5 (a:=d) (b:=1) o_ o_;rw[z3g] at x;exact x
theorem z6e (vn vl:Value) (ns ls:List Pr) (d:Nat) (w:World) (hn:RP w vn ns) (hl:RP w vl ls) (hd:d<2*ls.length) (Hk:zC ns ls):
  CB_ 244 #[.agg #[vn,vl],.int .i64 d] w (.int .i64 (j4 ns ls d)):=by
 have GN:=Hk.2.2.1;have x1:=kX d o_;have Hi:Below w.heap.size w (w.alloc (.cells #[vn,vl] 27)):=bel_
 have HC:=h_ (fun (v:World) (hv:Below w.heap.size w v)=>z3X vn vl ns ls (twin d) v (hn.below hv) (hl.below hv) (jC hd) Hk);have HR:Hid (j4 ns ls d=vf ns ls (twin d)):=h_ rfl;generalize twin d=e at*
 go_enter Tryz.func244,Tryz.ntmps244
 go_wp2_with fail
 refine(HC.out _ Hi).mono ?_
 rintro e w1 ⟨rfl,Hb⟩;go_wp2;go_ret
 exact⟨zi (by rw[HR.out]),by exact bel_⟩
def lenV:Value->Nat
 | .slice _ n _=>n
 |_=>0
theorem OwnI.lenV {base:Nat} {w:World} {v:Value} {zs:List Int} (h:OwnI base w v zs):lenV v=zs.length:=by
 obtain⟨A,c,rfl⟩:=h.form;rfl
theorem OwnI.lit1 {base g:Nat} {w:World} {x:Int} (hg:g=w.heap.size) (hb:base<=w.heap.size):OwnI base (w.alloc (.cells #[.int .i64 x] 3)) (.slice (some ⟨g,0,none⟩) 1 1) [x]:=by
 subst hg;exact World.ownsRow_lit w #[.int .i64 x] 1 hb (by simp[maxLen]) rfl
theorem z5S (vn vl:Value) (ns ls:List Pr) (d:Nat) (w:World) (hn:RP w vn ns) (hl:RP w vl ls) (hd:d<2*ls.length) (Hk:zC ns ls):
  Calls Tryz.prog 208 #[.agg #[vn,vl],.int .i64 d] w (RetI (natI (qG ns ls d)) w):=by
 have GN:=Hk.2.2.1;have Hr:∀j:Nat,j<ls.length->zt ns (ndI ls j)=true:=fun j hj=>(Hk.2.2.2.2.2 j hj).1
 obtain⟨nt,hpm,Yd,Ye⟩:=kw Hr hd;obtain⟨i0,hi,iz0,iz1,iz2⟩:=info_parts qq;have NX:=h_ (fun (v:World) (e:Nat) (hv:Below w.heap.size w v) (he:e<2*ls.length)=>z3l vn vl ns ls (twin e) v (hn.below hv) (hl.below hv) (jC he) Hk);have uu:=h_ (fun k=>xy Hr hd k);have HPJ:=h_ Ye;have HPD:=h_ Yd;have HWD:Hid (qG ns ls d=jw ns ls d (perD ns ls d)):=h_ rfl;have HWS:=h_ (fun k=>VF ns ls d k);have rK:=h_ (fun k=>kZ ns ls d k);have uI:Hid (∀k,j4 ns ls (orbD ns ls d k)=orbD ns ls d (k+1)):=h_ (fun _=>rfl);have H01:Hid (orbD ns ls d 1=j4 ns ls d):=h_ rfl;have Wh:Hid (jw ns ls d 1=[d]):=h_ rfl;generalize perD ns ls d=per at*;have HTX:=h_ (fun (e:Nat) (he:e<2*ls.length)=>kX e o_);have NX:Hid (∀(v:World) (e:Nat),Below w.heap.size w v->e<2*ls.length->Calls Tryz.prog 245 #[.agg #[vn,vl],.int .i64 (bits .xor .i64 (e:Int) 1),.int .i64 (-1)] v fun e' w'=>e'= .returned (.int .i64 (j4 ns ls e))/\Below v.heap.size v w'):=h_ (fun v e hv he=>by rw[HTX.out e he];exact NX.out v e hv he);clear Hk Ye Yd Hr
 go_enter Tryz.func208,Tryz.ntmps208
 go_wp2_with fail
 have fr:Below w.heap.size w ((w.alloc (.cells #[vn,vl] 27)).alloc (.cells #[.int .i64 d] 3)):=bel_
 have gE:Blk ((w.alloc (.cells #[vn,vl] 27)).alloc (.cells #[.int .i64 d] 3)) w.heap.size 27 #[vn,vl]:=(Blk.newAt rfl).alloc _;have MY:OwnI (w.heap.size+1) ((w.alloc (.cells #[vn,vl] 27)).alloc (.cells #[.int .i64 d] 3)) (.slice (some ⟨w.heap.size+1,0,none⟩) 1 1) [(d:Int)]:=OwnI.lit1 (by simp) (by simp);refine(NX.out _ d fr hd).mono ?_
 rintro e w1 ⟨rfl,Hb⟩;have Ha:=fr.trans (Hb.mono fr.size);have gc:=gE.below Hb gE.lt;have Hj:=MY.kept Hb;clear Hb fr gE MY;go_wp2
 go_loopw [5,6] (fun v x wr=>∃k:Nat,1<=k/\k<=per/\x= .int .i64 (orbD ns ls d k)/\OwnI (w.heap.size+1) wr v (natI (jw ns ls d k))/\Blk wr w.heap.size 27 #[vn,vl]/\Below w.heap.size w wr) (fun v _ _=>per -lenV v)
 case atStart=>exact⟨1,aaa _,nt,by rw[H01.out],by rw[Wh.out];exact Hj,gc,Ha⟩
 case round=>
  clear Hj gc Ha;obtain⟨k,FC,hkp,rfl,ho,hW,Hd⟩:=hrel;have Yf:=ho.lenV;have gI:=hW.lt;rw[za,rK.out] at Yf;obtain⟨a_0,a_1⟩:=hW.c2;have HK:Hid (k<per->orbD ns ls d k≠d):=h_ (fun h=>HPJ.out k o_ h);have uJ:=uu.out k;have HS:Hid (natI (jw ns ls d (k+1))=natI (jw ns ls d k)++[((orbD ns ls d k:Nat):Int)]):=h_ (by rw[HWS.out];simp[natI]);have mD:=h_ (uI.out k);have Cg:Hid ((natI (jw ns ls d k)).length =k):=h_ (by rw[za,rK.out]);have HE:Hid (k=per->orbD ns ls d k=d):=h_ (fun h=>by rw[h];exact HPD.out);have HEW:Hid (k=per->qG ns ls d=jw ns ls d k):=h_ (fun h=>by rw[h];exact HWD.out);generalize hxe:orbD ns ls d k=x at*;clear hxe
  by_cases hkd:k<per
  ·have Hv:=HK.out hkd
   have e1:((x:Int) != (d:Int))=true:=by simp;omega
   generalize jw ns ls d k=G at*
   go_wp2_with (at_builtin;refine wpList_append_own _ rfl _ _ 31 rfl (w.heap.size+1) 3 i0 (.int .i64 0) 1 8 Tryz.underlying31 hi iz0 iz1 iz2 rfl (by decide) _ _ _ rfl (World.ownsRow.alloc ho _) ⟨wr.heap.size,0,none⟩ 1 1 [.int .i64 _] rfl rfl (ju (by simp)) (by intro u hu;simp at hu;subst hu;rfl) (by rw[Cg.out];unfold maxLen;omega) (by rw[Cg.out];omega) (by simp;omega) ?_)
   intro v2 w2 fe gu Gr;have Ge:Below w.heap.size w w2:=(Hd.alloc (show w.heap.size<=wr.heap.size by omega) (.cells #[.int .i64 (x:Int)] 3)).grown gu (by simp;omega) (fun k hk=>by have:=(ho.lt k hk).1;omega);have gX:Blk w2 w.heap.size 27 #[vn,vl]:=(gu.block _ (by simp;omega) (fun e=>by have:=(ho.lt _ e.symm).1;omega)).trans (hW.alloc _);have CW:=OwnI.snoc fe;have Gp:=gX.lt;have CI:=CW.lenV;rw[aaW,Cg.out] at CI;simp at CI
   clear fe gu ho hW Hd Gr a_0 a_1;obtain⟨a_0,a_1⟩:=gX.c2
   go_wp2_with fail
   refine(NX.out _ x Ge uJ).mono ?_
   rw[mD.out];rintro e w3 ⟨rfl,Hg⟩;have C6:=h_ (CW.kept Hg);have HW3:=h_ (gX.below Hg Gp);have gy:=Ge.trans (Hg.mono Ge.size);clear Hg CW gX Ge a_0 a_1;go_wp2;go_roundw
   case rel=>exact⟨k+1,by omega,by omega,rfl,by rw[HS.out];exact C6.out,HW3.out,gy⟩
   case measure=>simp[CI,Yf];omega
  ·have gn:k=per:=o_
   have Yg:=HE.out gn;have e1:((x:Int) != (d:Int))=false:=by simp[Yg]
   have HR:=h_ (HEW.out gn);clear gn Yg;go_wp2;go_ret
   exact⟨_,rfl,by rw[HR.out];exact ho.mono o_,Hd⟩
theorem z5W (vn vl:Value) (ns ls:List Pr) (d:Nat) (w:World) (hn:RP w vn ns) (hl:RP w vl ls) (hd:d<2*ls.length) (Hk:zC ns ls):
  Calls Tryz.prog 199 #[.agg #[vn,vl],.int .i64 d] w (RetI (natI (qG ns ls d)) w):=by
 have GN:=Hk.2.2.1;have Hr:∀j:Nat,j<ls.length->zt ns (ndI ls j)=true:=fun j hj=>(Hk.2.2.2.2.2 j hj).1
 obtain⟨nt,hpm,Yd,Ye⟩:=kw Hr hd;obtain⟨i0,hi,iz0,iz1,iz2⟩:=info_parts qq;have NX:=h_ (fun (v:World) (e:Nat) (hv:Below w.heap.size w v) (he:e<2*ls.length)=>z6e vn vl ns ls e v (hn.below hv) (hl.below hv) he Hk);have uu:=h_ (fun k=>xy Hr hd k);have HPJ:=h_ Ye;have HPD:=h_ Yd;have HWD:Hid (qG ns ls d=jw ns ls d (perD ns ls d)):=h_ rfl;have HWS:=h_ (fun k=>VF ns ls d k);have rK:=h_ (fun k=>kZ ns ls d k);have uI:Hid (∀k,j4 ns ls (orbD ns ls d k)=orbD ns ls d (k+1)):=h_ (fun _=>rfl);have H01:Hid (orbD ns ls d 1=j4 ns ls d):=h_ rfl;have Wh:Hid (jw ns ls d 1=[d]):=h_ rfl;generalize perD ns ls d=per at*;clear Hk Ye Yd Hr
 go_enter Tryz.func199,Tryz.ntmps199
 go_wp2_with fail
 have fr:Below w.heap.size w ((w.alloc (.cells #[vn,vl] 27)).alloc (.cells #[.int .i64 d] 3)):=bel_
 have gE:Blk ((w.alloc (.cells #[vn,vl] 27)).alloc (.cells #[.int .i64 d] 3)) w.heap.size 27 #[vn,vl]:=(Blk.newAt rfl).alloc _;have MY:OwnI (w.heap.size+1) ((w.alloc (.cells #[vn,vl] 27)).alloc (.cells #[.int .i64 d] 3)) (.slice (some ⟨w.heap.size+1,0,none⟩) 1 1) [(d:Int)]:=OwnI.lit1 (by simp) (by simp);refine(NX.out _ d fr hd).mono ?_
 rintro e w1 ⟨rfl,Hb⟩;have Ha:=fr.trans (Hb.mono fr.size);have gc:=gE.below Hb gE.lt;have Hj:=MY.kept Hb;clear Hb fr gE MY;go_wp2
 go_loopw [5,6] (fun v x wr=>∃k:Nat,1<=k/\k<=per/\x= .int .i64 (orbD ns ls d k)/\OwnI (w.heap.size+1) wr v (natI (jw ns ls d k))/\Blk wr w.heap.size 27 #[vn,vl]/\Below w.heap.size w wr) (fun v _ _=>per -lenV v)
 case atStart=>exact⟨1,aaa _,nt,by rw[H01.out],by rw[Wh.out];exact Hj,gc,Ha⟩
 case round=>
  clear Hj gc Ha;obtain⟨k,FC,hkp,rfl,ho,hW,Hd⟩:=hrel;have Yf:=ho.lenV;have gI:=hW.lt;rw[za,rK.out] at Yf;obtain⟨a_0,a_1⟩:=hW.c2;have HK:Hid (k<per->orbD ns ls d k≠d):=h_ (fun h=>HPJ.out k o_ h);have uJ:=uu.out k;have HS:Hid (natI (jw ns ls d (k+1))=natI (jw ns ls d k)++[((orbD ns ls d k:Nat):Int)]):=h_ (by rw[HWS.out];simp[natI]);have mD:=h_ (uI.out k);have Cg:Hid ((natI (jw ns ls d k)).length =k):=h_ (by rw[za,rK.out]);have HE:Hid (k=per->orbD ns ls d k=d):=h_ (fun h=>by rw[h];exact HPD.out);have HEW:Hid (k=per->qG ns ls d=jw ns ls d k):=h_ (fun h=>by rw[h];exact HWD.out);generalize hxe:orbD ns ls d k=x at*;clear hxe
  by_cases hkd:k<per
  ·have Hv:=HK.out hkd
   have e1:((x:Int) != (d:Int))=true:=by simp;omega
   generalize jw ns ls d k=G at*
   go_wp2_with (at_builtin;refine wpList_append_own _ rfl _ _ 31 rfl (w.heap.size+1) 3 i0 (.int .i64 0) 1 8 Tryz.underlying31 hi iz0 iz1 iz2 rfl (by decide) _ _ _ rfl (World.ownsRow.alloc ho _) ⟨wr.heap.size,0,none⟩ 1 1 [.int .i64 _] rfl rfl (ju (by simp)) (by intro u hu;simp at hu;subst hu;rfl) (by rw[Cg.out];unfold maxLen;omega) (by rw[Cg.out];omega) (by simp;omega) ?_)
   intro v2 w2 fe gu Gr;have Ge:Below w.heap.size w w2:=(Hd.alloc (show w.heap.size<=wr.heap.size by omega) (.cells #[.int .i64 (x:Int)] 3)).grown gu (by simp;omega) (fun k hk=>by have:=(ho.lt k hk).1;omega);have gX:Blk w2 w.heap.size 27 #[vn,vl]:=(gu.block _ (by simp;omega) (fun e=>by have:=(ho.lt _ e.symm).1;omega)).trans (hW.alloc _);have CW:=OwnI.snoc fe;have Gp:=gX.lt;have CI:=CW.lenV;rw[aaW,Cg.out] at CI;simp at CI
   clear fe gu ho hW Hd Gr a_0 a_1;obtain⟨a_0,a_1⟩:=gX.c2
   go_wp2_with fail
   refine(NX.out _ x Ge uJ).mono ?_
   rw[mD.out];rintro e w3 ⟨rfl,Hg⟩;have C6:=h_ (CW.kept Hg);have HW3:=h_ (gX.below Hg Gp);have gy:=Ge.trans (Hg.mono Ge.size);clear Hg CW gX Ge a_0 a_1;go_wp2;go_roundw
   case rel=>exact⟨k+1,by omega,by omega,rfl,by rw[HS.out];exact C6.out,HW3.out,gy⟩
   case measure=>simp[CI,Yf];omega
  ·have gn:k=per:=o_
   have Yg:=HE.out gn;have e1:((x:Int) != (d:Int))=false:=by simp[Yg]
   have HR:=h_ (HEW.out gn);clear gn Yg;go_wp2;go_ret
   exact⟨_,rfl,by rw[HR.out];exact ho.mono o_,Hd⟩
theorem z7W {s m i:Nat} (hm:i<=m) (h:s/2^i=0):memS s m=memS s i:=by
 have hp:0<2^i:=Nat.two_pow_pos i
 have Hf:s<2^i:=by
  rcases abj s (2^i) with h1|h1
  ·exact h1
  ·have:=Nat.div_pos h1 hp
   omega
 have:=z0F Hf (m -i);rw[show i+(m -i)=m by omega] at this;exact this
theorem shl64 {k:Nat} (hk:k<62):wrap64 ((2:Int)^k)=((2^k:Nat):Int):=by
 have h:=z93 hk;rw[Int.one_mul] at h;have e:wrap64 ((2:Int)^k)=IntKind.i64.wrap ((2:Int)^k):=(IntWalk.i64_left _).symm;rw[e];exact h
theorem z8r {s:Nat} {l:Pr} {p q:Nat} (h1:l.1=p) (h2:l.2=q) (hb:(s.testBit p||s.testBit q)=false):addS s l=s:=by
 unfold addS;rw[h1,h2,aa5,aa5,hb];rfl
theorem z6u {s:Nat} {l:Pr} {p q:Nat} (h1:l.1=p) (h2:l.2=q) (hb:(s.testBit p||s.testBit q)=true):addS s l=s ||| (2^p ||| 2^q):=by
 unfold addS;rw[h1,h2,aa5,aa5,hb];rfl
theorem z2G (t:Nat) {ls:List Pr} {i:Nat} (h:i<ls.length):qk t (ls.take (i+1))=addS (qk t (ls.take i)) (ndI ls i):=by
 rw[aax h,ks,qd ls i h];rfl
theorem z7q {s m:Nat} (h:s<2^m):s/2^m=0:=Nat.div_eq_of_lt h
theorem QU (s m:Nat) (w:World) (hs:s<2^m) (hm:m<=40):
  Calls Tryz.prog 207 #[.int .i64 s] w (RetI (natI (memS s m)) w):=by
 obtain⟨i0,hi,iz0,iz1,iz2⟩:=info_parts qq;have hs62:s<2^62:=aaD hs (aaE o_ o_);have HB:=h_ (fun k=>Zj (k:=k) hs62);have HD:=h_ (z7q hs);have uK:=h_ (fun i (h1:i<=m) h2=>z7W (s:=s) h1 h2);have HY:=h_ (fun i h=>qS (s:=s) (m:=i) h);have HN:=h_ (fun i h=>jx (s:=s) (m:=i) h);have HL:=h_ (fun i=>z1C s i);clear hs
 go_enter Tryz.func207,Tryz.ntmps207
 go_wp2
 go_loopw [3,4] (fun v x wr=>∃i:Nat,i<=m/\x= .int .i64 i/\OwnI w.heap.size wr v (natI (memS s i))/\Below w.heap.size w wr) (fun _ x _=>m -(intOf x).toNat)
 case atStart=>exact⟨0,aab _,rfl,OwnI.nil _ _,by exact bel_⟩
 case round=>
  obtain⟨i,him,rfl,ho,Hd⟩:=hrel;have gI:=Hd.size;have Ru:=HB.out i;have HLI:=HL.out i;have h0:i<64:=o_
  have HZ:Hid ((0:Int)<(s:Int)/2^i↔s/2^i≠0):=h_ (by
   have e:((s:Int)/2^i)=((s/2^i:Nat):Int):=by(rw[Int.natCast_ediv];rfl)
   rw[e];generalize s/2^i=q;omega)
  by_cases hz:(0:Int)<(s:Int)/2^i
  ·have Hv:=HZ.out.1 hz
   have him2:i<m:=by
    rcases abj i m with h|h
    ·exact h
    ·have:i=m:=o_
     subst this;exact absurd HD.out Hv
   clear Hv
   cases hb:s.testBit i
   ·rw[hb] at Ru
    have hbt':bits .and .i64 ((s:Int)/2^i) 1=0:=Ru;have HS:=h_ (HN.out i hb);clear hb Ru;go_wp2;go_roundw
    case rel=>exact⟨i+1,by omega,by go_num,by rw[HS.out];exact ho,Hd⟩
    case measure=>simp[intOf];omega
   ·rw[hb] at Ru
    have hbt':bits .and .i64 ((s:Int)/2^i) 1=1:=Ru;have HS:Hid (natI (memS s (i+1))=natI (memS s i)++[(i:Int)]):=h_ (by rw[HY.out i hb];simp[natI]);have Cg:=h_ (za (memS s i));clear hb Ru;generalize memS s i=G at*
    go_wp2_with (at_builtin;refine wpList_append_own _ rfl _ _ 31 rfl (w.heap.size) 3 i0 (.int .i64 0) 1 8 Tryz.underlying31 hi iz0 iz1 iz2 rfl (by decide) _ _ _ rfl (World.ownsRow.alloc ho _) ⟨wr.heap.size,0,none⟩ 1 1 [.int .i64 _] rfl rfl (ju (by simp)) (by intro u hu;simp at hu;subst hu;rfl) (by rw[Cg.out];unfold maxLen;omega) (by rw[Cg.out];omega) (by simp;omega) ?_)
    intro v2 w2 fe gu Gr;have Ge:Below w.heap.size w w2:=(Hd.alloc gI (.cells #[.int .i64 (i:Int)] 3)).grown gu (by simp;omega) (fun k hk=>(ho.lt k hk).1);have HO:=h_ (OwnI.snoc fe);clear fe gu ho Hd Gr;go_wp2;go_roundw
    case rel=>exact⟨i+1,by omega,by go_num,by rw[HS.out];exact HO.out,Ge⟩
    case measure=>simp[intOf];omega
  ·have h2:s/2^i=0:=by
    apply abk
    intro h;exact hz (HZ.out.2 h)
   have HR:=h_ (uK.out i him h2);clear h2 Ru;go_wp2;go_ret
   exact⟨_,rfl,by rw[HR.out];exact ho,Hd⟩
theorem Jj (vn vl:Value) (ns ls:List Pr) (k:Nat) (w:World) (hn:RP w vn ns) (hl:RP w vl ls) (hk:k<ns.length) (FG:ns.length<=12) (GN:ls.length<=20) (Hr:∀j:Nat,j<ls.length->zt ns (ndI ls j)=true):
  Calls Tryz.prog 144 #[.agg #[vn,vl],.int .i64 k] w (RetI (natI (memS (zJ (2^k) ls ns.length) ns.length)) w):=by
 obtain⟨An,cn,rfl,FQ,GW,_⟩:=hn.formI;obtain⟨Al,cl,rfl,Hz,GM,hcell⟩:=hl.formI;unfold maxLen at GW GM
 have bI:∀l∈ls,l.1.toNat <ns.length/\l.2.toNat <ns.length:=by
  intro l hm;obtain⟨j,hj,e⟩:=aba hm;obtain⟨h1,h2,h3,_⟩:=zZ.1 (Hr j hj);rw[qd ls j hj,e] at h1 h2 h3;omega
 have h2k:2^k<2^ns.length:=aa3 o_ hk;have Cf:=h_ (fun j=>kV (ls:=ls) h2k bI j);have rG:=h_ (fun (t:Nat) (i:Nat) (ht:t<2^ns.length)=>Q5 (ls.take i) t ht (fun l hm=>bI l (List.mem_of_mem_take hm)));have M0:(2:Nat)^ns.length<=2^12:=aaE o_ FG;have Bg:=h_ Hr;have nH:=h_ hcell;have x0:=shl64 (k:=k) o_;have hk64:k<64:=o_
 clear Hr hcell bI;generalize hB:(2:Nat)^ns.length=B at*;have mQ:=h_ hB;clear hB
 go_enter Tryz.func144,Tryz.ntmps144
 go_wp2
 go_loopw [5,13] (fun t x wr=>∃j:Nat,j<=ns.length/\x= .int .i64 j/\t= .int .i64 (zJ (2^k) ls j)/\Blk wr w.heap.size 27 #[.slice An ns.length cn,.slice Al ls.length cl]/\Below w.heap.size w wr) (fun _ x _=>ns.length -(intOf x).toNat)
 case atStart=>exact⟨0,aab _,rfl,by rw[x0];rfl,Blk.newAt rfl,by exact bel_⟩
 case round=>
  clear x0;obtain⟨j,hj,rfl,rfl,hW,Hd⟩:=hrel;have gI:=hW.lt;obtain⟨a_0,a_1⟩:=hW.c2
  by_cases wY:j<ns.length
  ·have Wi:=h_ (Cf.out j)
   have Rs:Hid (zJ (2^k) ls (j+1)=qk (zJ (2^k) ls j) ls):=h_ rfl;have HT0:Hid (qk (zJ (2^k) ls j) (ls.take 0)=zJ (2^k) ls j):=h_ rfl;generalize zJ (2^k) ls j=T at*;go_wp2
   go_loopw [5,18] (fun t x wr=>∃i:Nat,i<=ls.length/\x= .int .i64 i/\t= .int .i64 (qk T (ls.take i))/\Blk wr w.heap.size 27 #[.slice An ns.length cn,.slice Al ls.length cl]/\Below w.heap.size w wr) (fun _ x _=>ls.length -(intOf x).toNat)
   case atStart=>exact⟨0,aab _,rfl,by rw[HT0.out],hW,Hd⟩
   case round=>
    clear hW Hd gI a_0 a_1;obtain⟨i,hi,rfl,rfl,hW,Hd⟩:=hrel;have gI:=hW.lt;obtain⟨a_0,a_1⟩:=hW.c2
    by_cases FH:i<ls.length
    ·obtain⟨b,off,rfl,hb,Hz⟩:=nH.out o_
     obtain⟨k0,k1⟩:=Hz i FH;have q0:=(Hd.cell (p:=⟨b,off+i*2,none⟩) hb).trans k0;have q1:=(Hd.cell (p:=⟨b,off+i*2+1,none⟩) hb).trans k1;obtain⟨h1,h2,h3,_⟩:=zZ.1 (Bg.out i FH);obtain⟨p,hp⟩:∃p:Nat,(ndI ls i).1=p:=⟨(ndI ls i).1.toNat,by omega⟩;obtain⟨q,hq⟩:∃q:Nat,(ndI ls i).2=q:=⟨(ndI ls i).2.toNat,by omega⟩;have HS:=h_ (z2G T FH);have BK:=h_ (rG.out T i Wi.out);have HAN:=h_ (fun s hb=>z8r (s:=s) hp hq hb);have HAY:=h_ (fun s hb=>z6u (s:=s) hp hq hb);rw[hp] at q0;rw[hq] at q1;have hp12:p<12:=o_
     have hq12:q<12:=o_
     have ii1:(0:Int)<=(i:Int):=o_
     have ii2:(i:Int)<(ls.length:Int):=o_
     generalize qk T (ls.take i)=s at*;have hs12:s<2^12:=by have:=BK.out;omega
     have bp:=Zj (s:=s) (k:=p) o_;have bq:=Zj (s:=s) (k:=q) o_;have xp:=shl64 (k:=p) o_;have xq:=shl64 (k:=q) o_;have Pp:2^p<2^12:=aa3 o_ hp12;have Pq:2^q<2^12:=aa3 o_ hq12;have o1:=vk (a:=2^p) (b:=2^q) o_ o_;have Po:2^p ||| 2^q<2^12:=Nat.or_lt_two_pow Pp Pq
     have o2:=vk (a:=s) (b:=2^p ||| 2^q) o_ o_;clear Hz k0 k1 hp hq h1 h2 h3 Pp Pq Po;have Ge:Below w.heap.size w (wr.alloc (.cells #[.int .i64 p,.int .i64 q] 108)):=bel_
     have gX:=hW.alloc (.cells #[.int .i64 p,.int .i64 q] 108)
     cases Cj:s.testBit p||s.testBit q
     ·have HX:=h_ (HAN.out s Cj)
      rw[Bool.or_eq_false_iff] at Cj;rw[Cj.1] at bp;rw[Cj.2] at bq;have bp':bits .and .i64 ((s:Int)/2^p) 1=0:=bp;have bq':bits .and .i64 ((s:Int)/2^q) 1=0:=bq;clear bp bq Cj o1 o2 xp xq hW Hd;go_wp2;go_roundw
      case rel=>exact⟨i+1,by omega,by go_num,by rw[HS.out,HX.out],gX,Ge⟩
      case measure=>simp[intOf];omega
     ·have HX:=h_ (HAY.out s Cj)
      cases Hb:s.testBit p
      ·rw[Hb,Bool.false_or] at Cj
       rw[Hb] at bp;rw[Cj] at bq;have bp':bits .and .i64 ((s:Int)/2^p) 1=0:=bp;have bq':bits .and .i64 ((s:Int)/2^q) 1=1:=bq;clear bp bq Cj Hb hW Hd;generalize hO:s ||| (2^p ||| 2^q)=O at*
       generalize (2^p ||| 2^q)=O1 at*;generalize hP:((2^p:Nat):Int)=P at*;generalize hQ:((2^q:Nat):Int)=QQ at*;clear hP hQ hO;go_wp2
       go_quiet (fail)
       go_wp2;go_roundw
       case rel=>exact⟨i+1,by omega,by go_num,by rw[HS.out,HX.out],gX,ke Ge _⟩
       case measure=>simp[intOf];omega
      ·rw[Hb] at bp
       have bp':bits .and .i64 ((s:Int)/2^p) 1=1:=bp;clear bp bq Cj Hb hW Hd;generalize hO:s ||| (2^p ||| 2^q)=O at*
       generalize (2^p ||| 2^q)=O1 at*;generalize hP:((2^p:Nat):Int)=P at*;generalize hQ:((2^q:Nat):Int)=QQ at*;clear hP hQ hO;go_wp2
       go_quiet (fail)
       go_wp2;go_roundw
       case rel=>exact⟨i+1,by omega,by go_num,by rw[HS.out,HX.out],gX,ke Ge _⟩
       case measure=>simp[intOf];omega
    ·have nQ:i=ls.length:=o_
     subst nQ;have HX:Hid (qk T (ls.take ls.length)=qk T ls):=h_ (by rw[aaA]);rw[HX.out];go_wp2;go_roundw
     case rel=>exact⟨j+1,by omega,by go_num,by rw[Rs.out],hW,Hd⟩
     case measure=>simp[intOf];omega
  ·have GS:j=ns.length:=o_
   subst GS;have Hf:=Cf.out ns.length;rw[<-mQ.out] at Hf;have HM:=h_ (fun (v:World)=>QU (zJ (2^k) ls ns.length) ns.length v Hf o_);clear Hf;generalize zJ (2^k) ls ns.length=R at*
   go_wp2_with fail
   refine(HM.out _).mono ?_
   rintro e w1 ⟨v1,rfl,Hj,Hb⟩;go_wp2;go_ret
   exact⟨_,rfl,Hj.mono o_,Hd.trans (Hb.mono Hd.size)⟩
theorem z1u {ns ls:List Pr} (Hr:∀j:Nat,j<ls.length->zt ns (ndI ls j)=true):QA ns.length ls:=by
 intro j hj;obtain⟨h1,h2,h3,_⟩:=zZ.1 (Hr j hj);exact⟨(ndI ls j).1.toNat,(ndI ls j).2.toNat,by omega,by omega,by omega,by omega⟩
theorem z3U (vn vl:Value) (ns ls:List Pr) (w:World) (hn:RP w vn ns) (hl:RP w vl ls):
  CB_ 79 #[.agg #[vn,vl]] w (.bool (zf ns ls)):=by
 obtain⟨An,cn,rfl,FQ,GW,_⟩:=hn.formI;obtain⟨Al,cl,rfl,Hz,GM,_⟩:=hl.formI;unfold maxLen at GW GM;have Hi:Below w.heap.size w (w.alloc (.cells #[.slice An ns.length cn,.slice Al ls.length cl] 27)):=bel_
 have fX:=hn.below Hi;have M2:=hl.below Hi
 cases hw:winB ns ls
 ·have HR:Hid (zf ns ls=false):=h_ (by simp[zf,hw])
  have HC:=h_ (fun (v:World) (h1:RP v (.slice An ns.length cn) ns) (h2:RP v (.slice Al ls.length cl) ls)=>qb _ _ ns ls _ v h1 h2 hw);clear hw
  go_enter Tryz.func79,Tryz.ntmps79
  go_wp2_with fail
  (refine z7 k_ k_ (fun hG=>?_))
  repeat (go_big_quiet_step ((go_at_call 87;exact zE (HC.out _ (RS.grw _ fX) (RS.grw _ M2)))))
  (refine wpQuiet_nil ?_);(clear hG);(rintro w3 ⟨⟨_,Hg⟩,rfl⟩);(try dsimp only)
  go_wp2;go_ret
  exact⟨z8 HR.out.symm,by exact bel_⟩
 ·have HC:=h_ (fun (v:World) (h1:RP v (.slice An ns.length cn) ns) (h2:RP v (.slice Al ls.length cl) ls)=>qb _ _ ns ls _ v h1 h2 hw)
  by_cases h0:ls.length=0
  ·have HR:Hid (zf ns ls=false):=h_ (by simp[zf,hw,h0])
   have e4:¬0<ls.length:=o_
   clear hw h0
   go_enter Tryz.func79,Tryz.ntmps79
   go_wp2_with fail
   (refine z7 k_ k_ (fun hG=>?_))
   repeat (go_big_quiet_step ((go_at_call 87;exact zE (HC.out _ (RS.grw _ fX) (RS.grw _ M2)))))
   (refine wpQuiet_nil ?_);(clear hG);(rintro w3 ⟨⟨_,Hg⟩,rfl⟩);(try dsimp only)
   go_wp2;go_ret
   exact⟨z8 HR.out.symm,by exact bel_⟩
  ·have Gn:=zu.1 hw
   have Hr:∀j:Nat,j<ls.length->zt ns (ndI ls j)=true:=fun j hj=>(Gn.2.2.2.2.2 j hj).1
   have hws:=z6l (z1u Hr) Gn.1;have HP:=h_ (fun (v:World) (h1:RP v (.slice An ns.length cn) ns) (h2:RP v (.slice Al ls.length cl) ls)=>Jj _ _ ns ls 0 v h1 h2 Gn.1 Gn.2.1 Gn.2.2.1 Hr);have e0:(2:Nat)^0=1:=rfl;rw[e0] at HP;have e2:(0:Int)<(ls.length:Int):=o_
   have e4:0<ls.length:=o_
   generalize memS (zJ 1 ls ns.length) ns.length=G at*
   have HR:Hid (zf ns ls=((G.length:Int)==(ns.length:Int))):=h_ (by
    unfold zf;rw[hw];have h1:decide (0<ls.length)=true:=by simp;omega
    rw[h1,aaR,aaR]
    cases hq:(zl ns.length ls ls.length).all (· ==0)
    ·have:¬G.length=ns.length:=fun h=>by rw[hws.1 h] at hq;cases hq
     symm;simp;omega
    ·have:=hws.2 hq
     symm;simp;omega)
   clear hw h0 Gn Hr hws fX M2 e0
   go_enter Tryz.func79,Tryz.ntmps79
   go_wp2_with fail
   go_region_held3 (fun w'=>w'.cell? ⟨w.heap.size,0,none⟩=some (.slice An ns.length cn)/\w'.cell? ⟨w.heap.size,1,none⟩=some (.slice Al ls.length cl))
    (go_keep)
    (first|(go_at_call 87;refine(HC.out _ (hn.below bel_) (hl.below bel_)).mono ?_;rintro e w1 ⟨rfl,Hb⟩;(have gl:=bdC Hb);have H7:=Hb.size;(try simp at H7);(try have gY:=p0_ w w1);have Ha:Below w.heap.size w w1:=bel_)|(go_at_call 144;refine(HP.out _ (hn.below bel_) (hl.below bel_)).mono ?_;rintro e w2 ⟨v2,rfl,Hn,Hh⟩;obtain⟨A2,c2,rfl⟩:=Hn.form;(have gV:=bcC Hh)))
   rw[za];go_wp2;go_ret
   exact⟨z8 HR.out.symm,by exact bel_⟩
def OwnE {α:Type} (t:TypeId) (enc:α->Value) (base:Nat) (w:World) (v:Value) (l:List α):Prop:=w.ownsRow base t 1 v l.length (l.map enc)
section
variable {α:Type} {t:TypeId} {enc:α->Value} {base:Nat} {w w':World} {v:Value} {l:List α} {g n cap:Nat}
theorem OwnE.kept (h:OwnE t enc base w v l) (hb:Below w.heap.size w w'):OwnE t enc base w' v l:=ql h hb
theorem OwnE.alloc (h:OwnE t enc base w v l) (o:Obj):OwnE t enc base (w.alloc o) v l:=World.ownsRow.alloc h o
theorem OwnE.lt (h:OwnE t enc base w v l):∀k,v.ownBlock=some k->base<=k/\k<w.heap.size:=World.ownsRow.lt h
theorem OwnE.form (h:OwnE t enc base w v l):∃A c,v= .slice A l.length c:=by
 rcases h.2 with ⟨rfl,hn⟩|⟨g,cap,cur,rfl,_⟩
 ·exact⟨none,0,by rw[hn]⟩
 ·exact⟨_,_,rfl⟩
theorem OwnE.len (h:OwnE t enc base w (.slice (some ⟨g,0,none⟩) n cap) l):n=l.length:=by
 obtain⟨A,c,e⟩:=h.form
 cases e;rfl
theorem OwnE.cell (h:OwnE t enc base w (.slice (some ⟨g,0,none⟩) n cap) l) (d:α) {q:Nat} (hq:q<l.length):w.cell? ⟨g,q,none⟩=some (enc (l.getD q d)):=by
 have e:=h.len;subst e;have ho:w.ownsRow base t 1 (.slice (some ⟨g,0,none⟩) l.length cap) l.length (l.map enc):=h;rw[ho.cellAt q o_,aau,aac hq];simp[List.getD,aac hq]
theorem OwnE.frz (h:OwnE t enc base w (.slice (some ⟨g,0,none⟩) n cap) l) (q:Nat):w.frozen? ⟨g,q,none⟩=false:=by
 have e:=h.len;subst e;have ho:w.ownsRow base t 1 (.slice (some ⟨g,0,none⟩) l.length cap) l.length (l.map enc):=h;exact ho.frozenAt q
theorem OwnE.set_ (h:OwnE t enc base w (.slice (some ⟨g,0,none⟩) n cap) l) (q:Nat) (x:α):OwnE t enc base (w.setCell ⟨g,q,none⟩ (enc x)) (.slice (some ⟨g,0,none⟩) n cap) (l.set q x):=by
 have e:=h.len;subst e;have ho:w.ownsRow base t 1 (.slice (some ⟨g,0,none⟩) l.length cap) l.length (l.map enc):=h;have:=(ho.stored q (enc x)).1;unfold OwnE;rw[aar,List.map_set];exact this
theorem OwnE.other (h:OwnE t enc base w v l) {b2 s2 n2:Nat} {t2:TypeId} {u:Value} {xs:List Value} (h2:w.ownsRow b2 t2 s2 u n2 xs) (Hv:t≠t2) (hg:w.grownBy w' u.ownBlock):OwnE t enc base w' v l:=by
 refine World.ownsRow.kept h hg ?_
 rcases h.2 with ⟨rfl,hn⟩|⟨g,cap,cur,rfl,_,hh,_⟩
 ·exact .inl rfl
 ·right
  rcases h2.2 with ⟨rfl,_⟩|⟨g2,cap2,cur2,rfl,_,Rv,_⟩
  ·exact fun e=>by cases e
  ·intro e
   have e':g=g2:=by injection e
   subst e';rw[hh] at Rv
   injection Rv with Rv
   injection Rv with _ Rv _
   exact Hv Rv
end
theorem RS.get {w:World} {v:Value} {n:Nat} {xs:List Value} (h:RS w 1 v n xs):∃A c,v= .slice A n c/\n<=c/\n<=maxLen/\(0<n->∃b off,A=some ⟨b,off,none⟩/\b<w.heap.size/\∀k,k<n->w.cell? ⟨b,off+k,none⟩=some (xs.getD k undef)):=by
 obtain⟨h0,A,c,h1,h2,h3,h4⟩:=h;refine⟨A,c,h1,h2,h3,fun hn=>?_⟩
 obtain⟨b,off,e1,e2,e3⟩:=h4 hn;refine⟨b,off,e1,e2,fun k hk=>e3 k _ ?_⟩
 rw[List.getD,aac o_];rfl
def OwnF (base:Nat) (w:World) (v:Value) (F:List (List Nat)):Prop:=∃vs:List Value,vs.length=F.length/\w.ownsRow base 31 1 v F.length vs/\∀k,k<F.length->OwnI base w (vs.getD k undef) (natI (F.getD k []))
def RF (w:World) (v:Value) (F:List (List Nat)):Prop:=∃vs:List Value,RS w 1 v F.length vs/\∀k,k<F.length->RI w (vs.getD k undef) (natI (F.getD k []))
def RetF (F:List (List Nat)) (w:World) (e:Ending) (w':World):Prop:=∃v,e= .returned v/\OwnF w.heap.size w' v F/\Below w.heap.size w w'
section
variable {base:Nat} {w w':World} {v:Value} {F:List (List Nat)}
theorem OwnF.nil (base:Nat) (w:World):OwnF base w (.slice none 0 0) []:=⟨[],rfl,World.ownsRow_nil _ _ _ _,fun k hk=>absurd hk (by simp)⟩
theorem OwnF.kept (h:OwnF base w v F) (hb:Below w.heap.size w w'):OwnF base w' v F:=by
 obtain⟨vs,h1,h2,h3⟩:=h;exact⟨vs,h1,ql h2 hb,fun k hk=>(h3 k hk).kept hb⟩
theorem OwnF.alloc (h:OwnF base w v F) (o:Obj):OwnF base (w.alloc o) v F:=h.kept ((aaj _ _).alloc (aaa _) _)
theorem OwnF.far {row:Option Nat} (h:OwnF base w v F) (hg:w.grownBy w' row) (hr:∀k,row=some k->k<base):OwnF base w' v F:=by
 obtain⟨vs,h1,h2,h3⟩:=h;refine⟨vs,h1,?_,fun k hk=>(h3 k hk).far hg hr⟩
 refine World.ownsRow.kept h2 hg ?_
 cases hv:v.ownBlock with
 |none=>exact .inl rfl
 |some k=>
  right
  rintro rfl;have:=hr k rfl;have:=(World.ownsRow.lt h2 k hv).1;omega
theorem OwnF.mono {base':Nat} (h:OwnF base w v F) (hb:base'<=base):OwnF base' w v F:=by
 obtain⟨vs,h1,h2,h3⟩:=h;refine⟨vs,h1,?_,fun k hk=>(h3 k hk).mono hb⟩
 obtain⟨h4,h5⟩:=h2;refine⟨h4,?_⟩
 rcases h5 with h5|⟨g,cap,cur,e1,e2,e3⟩
 ·exact .inl h5
 ·exact .inr ⟨g,cap,cur,e1,aai hb e2,e3⟩
theorem OwnF.form (h:OwnF base w v F):∃A c,v= .slice A F.length c:=by
 obtain⟨vs,h1,h2,h3⟩:=h
 rcases h2.2 with ⟨rfl,hn⟩|⟨g,cap,cur,rfl,_⟩
 ·exact⟨none,0,by rw[hn]⟩
 ·exact⟨_,_,rfl⟩
theorem OwnF.reads (h:OwnF base w v F):RF w v F:=by
 obtain⟨vs,h1,h2,h3⟩:=h;exact⟨vs,kI h2,fun k hk=>(h3 k hk).reads⟩
theorem OwnF.lt (h:OwnF base w v F):∀k,v.ownBlock=some k->base<=k/\k<w.heap.size:=by
 obtain⟨vs,h1,h2,h3⟩:=h;exact World.ownsRow.lt h2
theorem RF.below (h:RF w v F) (hb:Below w.heap.size w w'):RF w' v F:=by
 obtain⟨vs,h1,h2⟩:=h;exact⟨vs,RS.below h1 hb,fun k hk=>(h2 k hk).below hb⟩
end
theorem za1:3≠31:=by decide
theorem OwnF.snoc {base n:Nat} {w w':World} {v v' u:Value} {vs:List Value} {F:List (List Nat)} {f:List Nat} (hv:vs.length=F.length) (h2:w.ownsRow base 31 1 v n vs) (h3:∀k,k<F.length->OwnI base w (vs.getD k undef) (natI (F.getD k [])))
  (hu:OwnI base w u (natI f)) (hg:w.grownBy w' v.ownBlock) (hw:w'.ownsRow base 31 1 v' (n+1) (vs++[u])):OwnF base w' v' (F++[f]):=by
 have hn:n=F.length:=by have:=h2.1;omega
 subst hn;have kp:∀x zs,OwnI base w x zs->OwnI base w' x zs:=fun x zs hx=>OwnE.other (t:=3) (enc:=vI) hx h2 za1 hg
 refine⟨vs++[u],by simp[hv],by simpa using hw,fun k hk=>?_⟩
 rw[aaW,aa8] at hk
 by_cases he:k=F.length
 ·subst he
  rw[List.getD,abb o_,hv,aae,List.getD,abb (aaa _),aae];exact kp _ _ hu
 ·have Hf:k<F.length:=o_
  have e1:(vs++[u]).getD k undef=vs.getD k undef:=by rw[List.getD,List.getD,abc o_]
  have e2:(F++[f]).getD k []=F.getD k []:=by rw[List.getD,List.getD,abc Hf]
  rw[e1,e2];exact kp _ _ (h3 k Hf)
theorem z8v:(Tryz.prog.info? 31).map (fun i=>(i.zero,i.size,i.bytes))=some (some (.slice none 0 0),1,24):=by kernel_rfl
theorem kh {w:World} {ops:Array Oper} {rest:List Oper} {o:Oper} {a:Act} {Q:Exit->Act->World->Prop} (Fu:o.guard=none) (s x:Operand)
  (ho:o.op= .call { callee:= .builtin .append,args:= #[s,x],argTypes:= #[135,135] })
  (base:Nat) (v u:Value) (F:List (List Nat)) (f:List Nat) (hs:a.eval s=v) (g:Nat) (hx:a.eval x= .slice (some ⟨g,0,none⟩) 1 1) (hg:w.cell? ⟨g,0,none⟩=some u)
  (hown:OwnF base w v F) (hu:OwnI base w u (natI f)) (Hm:F.length<=1048576) (Hs:base<=w.heap.size)
  (h:∀v' w',OwnF base w' v' (F++[f])->w.grownBy w' v.ownBlock->wpList Tryz.prog ops Q rest (a.put o.dst v') w'):wpList Tryz.prog ops Q (o::rest) a w:=by
 obtain⟨i,hi,hz,Hy,gp⟩:=info_parts z8v;obtain⟨vs,h1,h2,h3⟩:=hown
 exact wpList_append_own w Fu s x 135 ho base 31 i (.slice none 0 0) 1 24 Tryz.underlying135 hi hz Hy gp rfl (by decide) v F.length _ hs h2 ⟨g,0,none⟩ 1 1 [u] hx rfl
  (fun j y hj=>by
   match j,hj with
   |0,hj=>cases hj;exact hg
   |j+1,hj=>simp at hj)
  (by
   intro y hy;simp at hy
   subst hy;obtain⟨A,c,rfl⟩:=hu.form;rfl) (by unfold maxLen;omega) o_ Hs fun v' w' e1 e2 _=>h v' w' (OwnF.snoc h1 h2 h3 hu e2 e1) e2
def mkS (n:Nat) (F:List (List Nat)) (f:List Nat) (j:Nat):List Bool:=(List.range n).map fun e=>jo F e||(f.take j).contains e
theorem z1p (n:Nat) (F:List (List Nat)) (f:List Nat) (j:Nat):(mkS n F f j).length =n:=by simp[mkS]
theorem z2q (n:Nat) (F:List (List Nat)) (f:List Nat):mkS n F f 0=(List.range n).map (jo F):=by simp[mkS]
theorem z0r (n:Nat):(List.range n).map (jo [])=List.replicate n false:=by
 apply aat
 intro j
 by_cases hj:j<n
 ·simp[aau,hj,jo,abl]
 ·simp[hj,abl]
theorem z4Y (n:Nat) (F:List (List Nat)) (f:List Nat):mkS n F f f.length=(List.range n).map (jo (F++[f])):=by
 unfold mkS jo;rw[aaA];simp
theorem z2R (n:Nat) (F:List (List Nat)) (f:List Nat) (j:Nat) (hj:j<f.length):mkS n F f (j+1)=(mkS n F f j).set (f.getD j 0) true:=by
 have e:f.getD j 0=f[j]:=by simp[List.getD,hj]
 rw[e]
 apply aat
 intro i;rw[aa0,z1p];unfold mkS
 by_cases hi:i<n
 ·rw[aau,aau,aav hi,aaw,aaw,aax hj,List.contains_append]
  by_cases he:f[j]=i
  ·rw[aao he,aao o_,he];simp
  ·rw[aaq he]
   have:([f[j]]:List Nat).contains i=false:=by simp;omega
   rw[this,Bool.or_false]
 ·have h1:(List.range n)[i]? =none:=by simp;omega
  rw[aau,aau,h1]
  by_cases he:f[j]=i
  ·rw[aao he,aaq o_];rfl
  ·rw[aaq he];rfl
theorem z4A {n:Nat} {F:List (List Nat)} {d:Nat} (h:d<n):((List.range n).map (jo F)).getD d false=jo F d:=by simp[List.getD,h]
theorem z4Q (n:Nat):(madeCells #[.bool false] n).toList =(List.replicate n false).map Value.bool:=by
 apply aat
 intro j
 by_cases hj:j<n
 ·simp only[madeCells,Array.toList_map,aau,Array.toList_range,aav hj,abl,aao hj,aaw]
  congr 1
  show #[Value.bool false][j%1]! =_
  rw[Nat.mod_one];rfl
 ·simp[madeCells,hj]
theorem Z9:(Tryz.prog.info? 4).map (fun i=>(i.zero,i.size,i.bytes))=some (some (.bool false),1,1):=by kernel_rfl
noncomputable def z9 (ns ls:List Pr):List (List Nat):=if zf ns ls then zg ns ls else []
def z0X (adj:Nat->Nat->Bool) (ok:Nat->Bool) (F:Nat) (C:Nat->Prop):Prop:=∀g i,g<F->i<F->C g->adj g i=true->ok i=true->C i
def vM (adj:Nat->Nat->Bool) (ok:Nat->Bool) (F f i:Nat):Prop:=∀C:Nat->Prop,C f->z0X adj ok F C->C i
noncomputable def kr (adj:Nat->Nat->Bool) (ok:Nat->Bool) (F f:Nat):List Nat:=(List.range F).filter (fun i=> @decide (vM adj ok F f i) (Classical.propDecidable _))
theorem QK (adj:Nat->Nat->Bool) (ok:Nat->Bool) (F f:Nat):vM adj ok F f f:=fun C h _=>h
theorem vz (adj:Nat->Nat->Bool) (ok:Nat->Bool) (F f:Nat):z0X adj ok F (vM adj ok F f):=fun g i hg hi hr ha ho C h0 hC=>hC g i hg hi (hr C h0 hC) ha ho
theorem z3N {adj:Nat->Nat->Bool} {ok:Nat->Bool} {F f i:Nat}:i∈kr adj ok F f↔i<F/\vM adj ok F f i:=by
 unfold kr;rw[List.mem_filter,aaM];simp
def stpC (near:Nat->Nat) (ok:Nat->Bool) (s g:Nat):Nat:=if ok g&&(near g &&& s != 0) then s ||| 2^g else s
def rndC (near:Nat->Nat) (ok:Nat->Bool) (s:Nat):Nat->Nat
 |0=>s
 |k+1=>stpC near ok (rndC near ok s k) k
def qI (near:Nat->Nat) (ok:Nat->Bool) (F s:Nat):Nat->Nat
 |0=>s
 |k+1=>rndC near ok (qI near ok F s k) F
theorem z2X {near:Nat->Nat} {ok:Nat->Bool} {s g i:Nat} (h:s.testBit i=true):(stpC near ok s g).testBit i=true:=by
 unfold stpC
 split
 ·rw[aa1,h];rfl
 ·exact h
theorem Z5 {near:Nat->Nat} {ok:Nat->Bool} {s i:Nat} (h:s.testBit i=true):∀k,(rndC near ok s k).testBit i=true
 |0=>h
 |k+1=>z2X (Z5 h k)
theorem z0H {near:Nat->Nat} {ok:Nat->Bool} {s i k:Nat}:∀j,(rndC near ok s k).testBit i=true->(rndC near ok s (k+j)).testBit i=true
 |0,h=>h
 |j+1,h=>z2X (z0H j h)
theorem z8V {near:Nat->Nat} {ok:Nat->Bool} {s g m:Nat} (hs:s<2^m) (hg:g<m):stpC near ok s g<2^m:=by
 unfold stpC
 split
 ·exact Nat.or_lt_two_pow hs (aa3 o_ hg)
 ·exact hs
theorem Jz {near:Nat->Nat} {ok:Nat->Bool} {s m:Nat} (hs:s<2^m):∀k,k<=m->rndC near ok s k<2^m
 |0,_=>hs
 |k+1,h=>z8V (Jz hs k o_) o_
theorem xJ {near:Nat->Nat} {ok:Nat->Bool} {F s:Nat} (hs:s<2^F):∀k,qI near ok F s k<2^F
 |0=>hs
 |k+1=>Jz (xJ hs k) F (aaa _)
theorem J1 {a b:Nat}:(a &&& b != 0)=true↔∃i,a.testBit i=true/\b.testBit i=true:=by
 rw[bne_iff_ne]
 constructor
 ·intro h
  apply abk
  intro hc
  apply h
  apply Nat.eq_of_testBit_eq
  intro i;rw[Nat.testBit_and,Nat.zero_testBit]
  cases h1:a.testBit i
  ·rfl
  ·cases h2:b.testBit i
   ·rfl
   ·exact absurd ⟨i,h1,h2⟩ hc
 ·rintro⟨i,h1,h2⟩ h
  have:(a &&& b).testBit i=true:=by rw[Nat.testBit_and,h1,h2];rfl
  rw[h,Nat.zero_testBit] at this
  cases this
theorem z6h {near:Nat->Nat} {ok:Nat->Bool} {s m:Nat} (hs:s<2^m) (h0:0<(memS s m).length):rndC near ok (qI near ok m s m) m=qI near ok m s m:=by
 apply abk
 intro hc
 have stay:∀k j,rndC near ok (qI near ok m s k) m=qI near ok m s k->qI near ok m s (k+j)=qI near ok m s k:=by
  intro k j hk
  induction j with
  |zero=>rfl
  |succ j ih=>show rndC near ok (qI near ok m s (k+j)) m=_;rw[ih,hk]
 have Hv:∀k,k<=m->rndC near ok (qI near ok m s k) m≠qI near ok m s k:=by
  intro k hk he;have:=stay k (m -k) he;rw[show k+(m -k)=m by omega] at this;rw[this] at hc;exact hc he
 have grow:∀k,k<=m->k<(memS (qI near ok m s k) m).length :=by
  intro k
  induction k with
  |zero=>intro _;exact h0
  |succ k ih=>
   intro hk;have h1:=ih o_;have h2:=J9 (s:=qI near ok m s k) (t:=rndC near ok (qI near ok m s k) m) (m:=m) (fun i hi=>Z5 hi m) (xJ hs k) (Jz (xJ hs k) m (aaa _)) (fun e=>Hv k o_ e.symm)
   show k+1<(memS (rndC near ok (qI near ok m s k) m) m).length
   omega
 have h1:=grow m (aaa _);have h2:=z1C (qI near ok m s m) m;omega
theorem z1N {near:Nat->Nat} {adj:Nat->Nat->Bool} {ok:Nat->Bool} {F f:Nat} (hn:∀g i,g<F->i<F->(near g).testBit i=adj g i) (fQ:∀g,g<F->near g<2^F) (Yw:∀g i,adj g i=adj i g) (hf:f<F):
  memS (qI near ok F (2^f) F) F=kr adj ok F f:=by
 have hs:2^f<2^F:=aa3 o_ hf;have Ud:0<(memS (2^f) F).length :=abh (a:=f) (by simp[memS,hf,aby]);have hfix:=z6h (near:=near) (ok:=ok) hs Ud
 have sub:∀k i,(qI near ok F (2^f) k).testBit i=true->vM adj ok F f i:=by
  intro k
  induction k with
  |zero=>
   intro i hi;have fP:(2^f).testBit i=true:=hi;rw[aa2] at fP;have:f=i:=by simpa using fP
   subst this;exact QK adj ok F f
  |succ k ih=>
   have inner:∀j,j<=F->∀i,(rndC near ok (qI near ok F (2^f) k) j).testBit i=true->vM adj ok F f i:=by
    intro j
    induction j with
    |zero=>intro _ i hi;exact ih i hi
    |succ j ihj=>
     intro hj i hi;have ihj':=ihj o_;have fP:(stpC near ok (rndC near ok (qI near ok F (2^f) k) j) j).testBit i=true:=hi;unfold stpC at fP
     split at fP
     ·rename_i hc
      rw[aaG,J1] at hc;obtain⟨ho,x,bJ,hx2⟩:=hc;rw[aa1,aaH] at fP
      rcases fP with h|h
      ·exact ihj' i h
      ·rw[aa2] at h
       have:j=i:=by simpa using h
       subst this
       have hxF:x<F:=by
        apply abk
        intro hxF;rw[Nat.testBit_lt_two_pow (aaD (fQ j o_) (aaE o_ o_))] at bJ
        cases bJ
       have ha:adj x j=true:=by rw[Yw,<-hn j x o_ hxF];exact bJ
       exact vz adj ok F f x j hxF o_ (ihj' x hx2) ha ho
     ·exact ihj' i fP
   exact inner F (aaa _)
 have keep:∀k,(qI near ok F (2^f) k).testBit f=true:=by
  intro k
  induction k with
  |zero=>exact aby
  |succ k ih=>exact Z5 ih F
 have closed:z0X adj ok F (fun i=>(qI near ok F (2^f) F).testBit i=true):=by
  intro g i hg hi rF ha ho
  have e:(rndC near ok (qI near ok F (2^f) F) (i+1)).testBit i=true:=by
   show(stpC near ok (rndC near ok (qI near ok F (2^f) F) i) i).testBit i=true
   unfold stpC
   have hc:(ok i&&(near i &&& rndC near ok (qI near ok F (2^f) F) i != 0))=true:=by
    rw[aaG,J1];exact⟨ho,g,by rw[hn i g hi hg,Yw];exact ha,Z5 rF i⟩
   rw[aao hc,aa1,aby,Bool.or_true]
  have:=z0H (F -(i+1)) e;rw[show i+1+(F -(i+1))=F by omega,hfix] at this;exact this
 unfold memS kr
 apply List.filter_congr
 intro i hi;rw[aaZ]
 constructor
 ·intro h;simpa using sub F i h
 ·intro h
  have h':vM adj ok F f i:=by simpa using h
  exact h' _ (keep F) closed
structure Grow (adj:Nat->Nat->Bool) (ok:Nat->Bool) (F f:Nat) (todo:List Nat) (k j:Nat):Prop where
 nd:todo.Nodup
 lt:∀x∈todo,x<F
 f_:f∈todo
 re:∀x∈todo,vM adj ok F f x
 done:∀x∈todo.take k,∀i,i<F->adj x i=true->ok i=true->i∈todo
 part:∀x,todo[k]? =some x->∀i,i<j->i<F->adj x i=true->ok i=true->i∈todo
theorem Grow.start {adj:Nat->Nat->Bool} {ok:Nat->Bool} {F f:Nat} (hf:f<F):Grow adj ok F f [f] 0 0:=
 ⟨by simp,fun x hx=>by simp at hx;omega,by simp,fun x hx=>by simp at hx;subst hx;exact QK adj ok F x,fun x hx=>by simp at hx,fun x _ i hi=>by omega⟩
theorem Grow.skip {adj:Nat->Nat->Bool} {ok:Nat->Bool} {F f k j:Nat} {todo:List Nat} (h:Grow adj ok F f todo k j) (hn:∀x,todo[k]? =some x->adj x j=true->ok j=true->j∈todo):Grow adj ok F f todo k (j+1):=
 ⟨h.nd,h.lt,h.f_,h.re,h.done,fun x hx i hi hF ha ho=>by
  by_cases he:i=j
  ·subst he;exact hn x hx ha ho
  ·exact h.part x hx i o_ hF ha ho⟩
theorem Grow.push {adj:Nat->Nat->Bool} {ok:Nat->Bool} {F f k j:Nat} {todo:List Nat} (h:Grow adj ok F f todo k j) (hk:k<todo.length) (hj:j<F) (ha:adj todo[k] j=true) (ho:ok j=true) (hn:j∉todo):Grow adj ok F f (todo++[j]) k (j+1):=
 ⟨by rw[List.nodup_append];exact⟨h.nd,by simp,fun a Yx b hb=>by simp at hb;subst hb;exact fun hc=>hn (hc▸Yx)⟩,
  fun x hx=>by
   rcases List.mem_append.1 hx with h1|h1
   ·exact h.lt x h1
   ·simp at h1;omega,
  abz _ h.f_,
  fun x hx=>by
   rcases List.mem_append.1 hx with h1|h1
   ·exact h.re x h1
   ·simp at h1
    subst h1;exact vz adj ok F f _ _ (h.lt _ (abg hk)) hj (h.re _ (abg hk)) ha ho,
  fun x hx i hi Yx FF=>by
   rw[List.take_append_of_le_length o_] at hx;exact abz _ (h.done x hx i hi Yx FF),
  fun x hx i hi hF Yx FF=>by
   rw[abc hk] at hx
   by_cases he:i=j
   ·subst he;simp
   ·exact abz _ (h.part x hx i o_ hF Yx FF)⟩
theorem Grow.next {adj:Nat->Nat->Bool} {ok:Nat->Bool} {F f k:Nat} {todo:List Nat} (h:Grow adj ok F f todo k F) (hk:k<todo.length):Grow adj ok F f todo (k+1) 0:=
 ⟨h.nd,h.lt,h.f_,h.re,fun x hx i hi ha ho=>by
  rw[aax hk,aaI] at hx
  rcases hx with h1|h1
  ·exact h.done x h1 i hi ha ho
  ·simp at h1
   subst h1;exact h.part _ (aac hk) i hi hi ha ho,
  fun x _ i hi=>by omega⟩
theorem Grow.len {adj:Nat->Nat->Bool} {ok:Nat->Bool} {F f k j:Nat} {todo:List Nat} (h:Grow adj ok F f todo k j):todo.length<=F:=by
 have:=h.nd.length_le_of_subset (l₂:=List.range F) (fun x hx=>List.mem_range.2 (h.lt x hx));rw[abq] at this;exact this
theorem Grow.end_ {adj:Nat->Nat->Bool} {ok:Nat->Bool} {F f k j:Nat} {todo:List Nat} (h:Grow adj ok F f todo k j) (hk:todo.length<=k):(List.range F).filter (fun i=>decide (i∈todo))=kr adj ok F f:=by
 unfold kr
 apply List.filter_congr
 intro i hi;rw[aaZ,aa4]
 constructor
 ·intro hm;simpa using h.re i hm
 ·intro hr
  have hr':vM adj ok F f i:=by simpa using hr
  refine hr' (fun x=>x∈todo) h.f_ (fun g x hg hx rF ha ho=>h.done g ?_ x hx ha ho)
  rw[aaK hk];exact rF
attribute [local go_sem ↓] zr Qx zq QB
theorem Jn (vn vl un ul:Value) (ns ls ns' ls':List (Int×Int)) (w:World) (hn:RP w vn ns) (hl:RP w vl ls) (bQ:RP w un ns') (Gq:RP w ul ls'):
  CB_ 19 #[.agg #[vn,vl],.agg #[un,ul]] w (.bool (qN ns ls ns' ls')):=by
 obtain⟨A1,c1,rfl,gl,bH,Fc⟩:=hn.form;obtain⟨A2,c2,rfl,gV,hm2,GO⟩:=hl.form;obtain⟨A3,c3,rfl,GK,hm3,Fw⟩:=bQ.form;obtain⟨A4,c4,rfl,cf,hm4,Gm⟩:=Gq.form;unfold maxLen at bH hm2 hm3 hm4;clear hn hl bQ Gq
 by_cases h1:ns.length=ns'.length
 ·have e1:((ns.length:Int) != (ns'.length:Int))=false:=by simp[h1]
  by_cases h2:ls.length=ls'.length
  ·have e2:((ls.length:Int) != (ls'.length:Int))=false:=by simp[h2]
   have H1:=h_ h1;have H2:=h_ h2;clear h1 h2
   go_enter Tryz.func19,Tryz.ntmps19
   go_wp2;generalize FI:(w.alloc _).alloc _=w0;have Hi:Below w.heap.size w w0:=by rw[<-FI];exact bel_
   have hv0:w0.cell? ⟨w.heap.size,0,none⟩=some (.slice A1 ns.length c1):=by rw[<-FI];simp[go_sem]
   have Bi:w0.cell? ⟨w.heap.size,1,none⟩=some (.slice A2 ls.length c2):=by rw[<-FI];simp[go_sem]
   have hu0:w0.cell? ⟨w.heap.size+1,0,none⟩=some (.slice A3 ns'.length c3):=by rw[<-FI];simp[go_sem]
   have NV:w0.cell? ⟨w.heap.size+1,1,none⟩=some (.slice A4 ls'.length c4):=by rw[<-FI];simp[go_sem]
   clear FI
   go_loopw [5] (fun i wr=>∃k:Nat,∃n:Nat,k<=ns.length/\i= .int .i64 k/\Hid (ns.take k=ns'.take k)/\wr=w0.drewN n) (fun i _=>ns.length -(intOf i).toNat)
   case atStart=>exact⟨0,0,aab _,rfl,h_ (by simp),rfl⟩
   case round=>
    obtain⟨k,n,hk,rfl,HT,rfl⟩:=hrel
    by_cases Hf:k<ns.length
    ·obtain⟨b,off,rfl,hb,Hz⟩:=Fc o_
     have Cy:k<ns'.length:=by rw[<-H1.out];exact Hf
     obtain⟨b',off',rfl,gH,Cd⟩:=Fw o_;obtain⟨k0,k1⟩:=Hz k Hf;obtain⟨j0,j1⟩:=Cd k Cy;have q0:=(Hi.cell (p:=⟨b,off+k*2,none⟩) hb).trans k0;have q1:=(Hi.cell (p:=⟨b,off+k*2+1,none⟩) hb).trans k1;have p0:=(Hi.cell (p:=⟨b',off'+k*2,none⟩) gH).trans j0;have p1:=(Hi.cell (p:=⟨b',off'+k*2+1,none⟩) gH).trans j1;have Cz:(0:Int)<=(k:Int):=o_
     have CS:(k:Int)<(ns.length:Int):=o_
     have NO:(k:Int)<(ns'.length:Int):=o_
     clear Hz Fc Cd Fw GO Gm k0 k1 j0 j1
     cases Fz:prB ns[k].1 ns[k].2 ns'[k].1 ns'[k].2
     ·have HF:Hid (qN ns ls ns' ls'=false):=h_ (by
       unfold qN;rw[Bool.and_eq_false_iff];left
       rw[aaJ];intro h;have:ns[k]=ns'[k]:=by simp[h]
       rw[this,Q0] at Fz;cases Fz)
      go_wp2
      go_quiet (fail)
      go_wp2;go_ret
      exact⟨z8 HF.out.symm,by exact bel_⟩
     ·have HE:Hid (ns[k]=ns'[k]):=h_ (kl.1 Fz)
      go_wp2
      go_quiet (fail)
      go_wp2;go_roundw
      case rel=>exact⟨k+1,_,by omega,by go_num,h_ (vB HT.out Hf Cy HE.out),rfl⟩
      case measure=>simp[intOf];omega
    ·have gn:ns.length<=k:=o_
     have rm:ns=ns':=by
      have h:=HT.out;rw[aaK gn,aaK (by rw[<-H1.out];exact gn)] at h;exact h
     have HE:=h_ rm;clear rm Fc Fw;go_wp2
     go_loopw [6] (fun i wr=>∃k:Nat,∃n:Nat,k<=ls.length/\i= .int .i64 k/\Hid (ls.take k=ls'.take k)/\wr=w0.drewN n) (fun i _=>ls.length -(intOf i).toNat)
     case atStart=>exact⟨0,_,aab _,rfl,h_ (by simp),rfl⟩
     case round=>
      obtain⟨k,n,hk,rfl,HT,rfl⟩:=hrel
      by_cases Hf:k<ls.length
      ·obtain⟨b,off,rfl,hb,Hz⟩:=GO o_
       have Cy:k<ls'.length:=by rw[<-H2.out];exact Hf
       obtain⟨b',off',rfl,gH,Cd⟩:=Gm o_;obtain⟨k0,k1⟩:=Hz k Hf;obtain⟨j0,j1⟩:=Cd k Cy;have q0:=(Hi.cell (p:=⟨b,off+k*2,none⟩) hb).trans k0;have q1:=(Hi.cell (p:=⟨b,off+k*2+1,none⟩) hb).trans k1;have p0:=(Hi.cell (p:=⟨b',off'+k*2,none⟩) gH).trans j0;have p1:=(Hi.cell (p:=⟨b',off'+k*2+1,none⟩) gH).trans j1;have Cz:(0:Int)<=(k:Int):=o_
       have CS:(k:Int)<(ls.length:Int):=o_
       have NO:(k:Int)<(ls'.length:Int):=o_
       clear Hz Cd GO Gm k0 k1 j0 j1
       cases Fz:prB ls[k].1 ls[k].2 ls'[k].1 ls'[k].2
       ·have HF:Hid (qN ns ls ns' ls'=false):=h_ (by
         unfold qN;rw[Bool.and_eq_false_iff];right
         rw[aaJ];intro h;have:ls[k]=ls'[k]:=by simp[h]
         rw[this,Q0] at Fz;cases Fz)
        go_wp2
        go_quiet (fail)
        go_wp2;go_ret
        exact⟨z8 HF.out.symm,by exact bel_⟩
       ·have HE:Hid (ls[k]=ls'[k]):=h_ (kl.1 Fz)
        go_wp2
        go_quiet (fail)
        go_wp2;go_roundw
        case rel=>exact⟨k+1,_,by omega,by go_num,h_ (vB HT.out Hf Cy HE.out),rfl⟩
        case measure=>simp[intOf];omega
      ·have gn:ls.length<=k:=o_
       have rm:ls=ls':=by
        have h:=HT.out;rw[aaK gn,aaK (by rw[<-H2.out];exact gn)] at h;exact h
       have HF:Hid (qN ns ls ns' ls'=true):=h_ (by simp[qN,HE.out,rm]);clear rm GO Gm;go_wp2;go_ret
       exact⟨z8 HF.out.symm,by exact bel_⟩
  ·have e2:((ls.length:Int) != (ls'.length:Int))=true:=by simp;omega
   have HF:Hid (qN ns ls ns' ls'=false):=h_ (by
    unfold qN;rw[Bool.and_eq_false_iff];right
    rw[aaJ];intro h;exact h2 (by rw[h]))
   clear h1 Fc GO Fw Gm
   go_enter Tryz.func19,Tryz.ntmps19
   go_wp2;go_ret
   exact⟨z8 HF.out.symm,by exact bel_⟩
 ·have e1:((ns.length:Int) != (ns'.length:Int))=true:=by simp;omega
  have HF:Hid (qN ns ls ns' ls'=false):=h_ (by
   unfold qN;rw[Bool.and_eq_false_iff];left
   rw[aaJ];intro h;exact h1 (by rw[h]))
  clear Fc GO Fw Gm
  go_enter Tryz.func19,Tryz.ntmps19
  go_wp2;go_ret
  exact⟨z8 HF.out.symm,by exact bel_⟩
theorem yy (vn vl un ul:Value) (ns ls ns' ls':List (Int×Int)) (b:Bool) (w:World) (hn:RP w vn ns) (hl:RP w vl ls) (bQ:RP w un ns') (Gq:RP w ul ls') (hx:Hid (qN ns ls ns' ls'=b)):
  CB_ 19 #[.agg #[vn,vl],.agg #[un,ul]] w (.bool b):=
 (Jn vn vl un ul ns ls ns' ls' w hn hl bQ Gq).mono fun e w' ⟨he,hw⟩=>⟨he.trans (z8 hx.out),hw⟩
theorem xF (vn vl un ul:Value) (ns ls ns' ls':List (Int×Int)) (b:Bool) (w:World) (hn:RP w vn ns) (hl:RP w vl ls) (bQ:RP w un ns') (Gq:RP w ul ls') (hx:Hid (qN ns ls ns' ls'=b)):
  CB_ 88 #[.agg #[vn,vl],.agg #[un,ul]] w (.bool b):=
 (Jk vn vl un ul ns ls ns' ls' w hn hl bQ Gq).mono fun e w' ⟨he,hw⟩=>⟨he.trans (z8 hx.out),hw⟩
open Go.ChangeShapes Go.WideShapes Go.Deep Go.RowKit Go.Joins
structure Sp where
 k:Int
 a:Int
 b:Int
 ns:List (Int×Int)
 ls:List (Int×Int)
def z1d (w:World) (b o:Nat) (s:Sp):Prop:=
 w.cell? ⟨b,o,none⟩=some (.int .i64 s.k)/\w.cell? ⟨b,o+1,none⟩=some (.int .i64 s.a)/\w.cell? ⟨b,o+2,none⟩=some (.int .i64 s.b)/\
  ∃vn vl,w.cell? ⟨b,o+3,none⟩=some vn/\w.cell? ⟨b,o+4,none⟩=some vl/\RP w vn s.ns/\RP w vl s.ls
def RT (w:World) (v:Value) (l:List Sp):Prop:=∃A c,v= .slice A l.length c/\l.length<=c/\l.length<=maxLen/\
 (0<l.length->∃b off,A=some ⟨b,off,none⟩/\b<w.heap.size/\∀k (hk:k<l.length),z1d w b (off+k*5) l[k])
theorem z1d.below {w w':World} {b o:Nat} {s:Sp} (h:z1d w b o s) (hb:Below w.heap.size w w') (hl:b<w.heap.size):z1d w' b o s:=by
 obtain⟨h0,h1,h2,vn,vl,h3,h4,hn,Gq⟩:=h
 exact⟨(hb.cell (p:=⟨b,o,none⟩) hl).trans h0,(hb.cell (p:=⟨b,o+1,none⟩) hl).trans h1,(hb.cell (p:=⟨b,o+2,none⟩) hl).trans h2,vn,vl,
  (hb.cell (p:=⟨b,o+3,none⟩) hl).trans h3,(hb.cell (p:=⟨b,o+4,none⟩) hl).trans h4,hn.below hb,Gq.below hb⟩
theorem RT.below {w w':World} {v:Value} {l:List Sp} (h:RT w v l) (hb:Below w.heap.size w w'):RT w' v l:=by
 obtain⟨A,c,h1,h2,h3,h4⟩:=h;refine⟨A,c,h1,h2,h3,fun hp=>?_⟩
 obtain⟨b,off,g1,g2,g3⟩:=h4 hp;have:=hb.size;exact⟨b,off,g1,by omega,fun k hk=>(g3 k hk).below hb g2⟩
structure Dr where
 fn:List (Int×Int)
 fl:List (Int×Int)
 nn:List (Int×Int)
 nl:List (Int×Int)
 ss:List Sp
structure RD (w:World) (a b c d e:Value) (D:Dr):Prop where
 fn:RP w a D.fn
 fl:RP w b D.fl
 nn:RP w c D.nn
 nl:RP w d D.nl
 ss:RT w e D.ss
theorem RD.below {w w':World} {a b c d e:Value} {D:Dr} (h:RD w a b c d e D) (hb:Below w.heap.size w w'):RD w' a b c d e D:=
 ⟨h.fn.below hb,h.fl.below hb,h.nn.below hb,h.nl.below hb,h.ss.below hb⟩
section
variable {H:Type} {enc:TypeId×Value->H} {w:World} {base:Nat} {spare:Nat->Bool} {mz:Bool}
end
abbrev SF:=Sp×Value×Value
def sfc (f:SF):List Value:=[.int .i64 f.1.k,.int .i64 f.1.a,.int .i64 f.1.b,f.2.1,f.2.2]
structure OwnT (base:Nat) (w:World) (v:Value) (fs:List SF):Prop where
 row:w.ownsRow base 113 5 v fs.length (fs.flatMap sfc)
 win:∀k (hk:k<fs.length),OwnW base w fs[k].2.1 fs[k].2.2 fs[k].1.ns fs[k].1.ls
 rw_:∀k (hk:k<fs.length) b,v.ownBlock=some b->¬zp fs[k].2.1 fs[k].2.2 b
 ww:∀i j (hi:i<fs.length) (hj:j<fs.length),i≠j->∀b,zp fs[i].2.1 fs[i].2.2 b->¬zp fs[j].2.1 fs[j].2.2 b
def kH (v:Value) (fs:List SF) (b:Nat):Prop:=v.ownBlock=some b∨∃k,∃hk:k<fs.length,zp fs[k].2.1 fs[k].2.2 b
section
variable {base:Nat} {w w':World} {v:Value} {fs:List SF}
theorem OwnT.lt (h:OwnT base w v fs) (b:Nat) (hb:kH v fs b):base<=b/\b<w.heap.size:=by
 rcases hb with hb|⟨k,hk,hb⟩
 ·exact World.ownsRow.lt h.row b hb
 ·exact(h.win k hk).lt b hb
theorem OwnT.turned {S:Nat->Prop} (h:OwnT base w v fs) (hb:Turns S w w') (hs:∀b,kH v fs b->¬S b):OwnT base w' v fs:=
 ⟨yQ h.row hb (fun b hb=>hs b (.inl hb)),fun k hk=>(h.win k hk).turned hb (fun b hb=>hs b (.inr ⟨k,hk,hb⟩)),h.rw_,h.ww⟩
theorem OwnT.mono {base':Nat} (h:OwnT base w v fs) (hb:base'<=base):OwnT base' w v fs:=by
 refine⟨?_,fun k hk=>(h.win k hk).mono hb,h.rw_,h.ww⟩
 obtain⟨h1,h2⟩:=h.row;refine⟨h1,?_⟩
 rcases h2 with h2|⟨g,cap,cur,e1,e2,e3⟩
 ·exact .inl h2
 ·exact .inr ⟨g,cap,cur,e1,aai hb e2,e3⟩
theorem OwnT.nil (base:Nat) (w:World):OwnT base w (.slice none 0 0) []:=
 ⟨World.ownsRow_nil _ _ _ _,fun k hk=>absurd hk (by simp),fun k hk=>absurd hk (by simp),fun i j hi=>absurd hi (by simp)⟩
theorem OwnW.alloc' {vn vl:Value} {ns ls:List Pr} (h:OwnW base w vn vl ns ls) (o:Obj):OwnW base (w.alloc o) vn vl ns ls:=h.kept ((aaj _ _).alloc (aaa _) o)
theorem OwnT.reads (h:OwnT base w v fs):RT w v (fs.map Prod.fst):=by
 obtain⟨h0,A,c,rfl,h1,h2,h3⟩:=kI h.row;refine⟨A,c,by simp,by simpa using h1,by simpa using h2,fun hp=>?_⟩
 obtain⟨b,off,e1,e2,e3⟩:=h3 (by simpa using hp);refine⟨b,off,e1,e2,fun k hk=>?_⟩
 have FD:k<fs.length:=by simpa using hk
 have g:=fun j hj=>yA sfc 5 (fun _=>rfl) fs k j FD hj
 have c0:=e3 (k*5+0) _ (by rw[g 0 o_];rfl);have c1:=e3 (k*5+1) _ (by rw[g 1 o_];rfl);have c2:=e3 (k*5+2) _ (by rw[g 2 o_];rfl);have c3:=e3 (k*5+3) _ (by rw[g 3 o_];rfl);have c4:=e3 (k*5+4) _ (by rw[g 4 o_];rfl);simp only[<-aak,aaf] at c0 c1 c2 c3 c4
 have hw:=h.win k FD;simp only[List.getElem_map]
 exact⟨c0,c1,c2,_,_,c3,c4,hw.1.reads,hw.2.1.reads⟩
end
def sumT:List Sp->Nat
 | []=>0
 |s::r=>s.ns.length+s.ls.length+sumT r
theorem VZ:(Tryz.prog.info? 113).map (fun i=>(i.zero,i.size,i.bytes))=some (some (.agg #[.int .i64 0,.int .i64 0,.int .i64 0,.slice none 0 0,.slice none 0 0]),5,72):=by kernel_rfl
structure DrLe (D:Dr):Prop where
 fn:D.fn.length<=1048576
 fl:D.fl.length<=1048576
 nn:D.nn.length<=1048576
 nl:D.nl.length<=1048576
 ss:D.ss.length<=1048576
 ws:∀k (hk:k<D.ss.length),D.ss[k].ns.length <=1048576/\D.ss[k].ls.length <=1048576
 sum:sumT D.ss<=1048576
structure OwnD (base:Nat) (w:World) (a b c d e:Value) (D:Dr) (fs:List SF):Prop where
 first:OwnW base w a b D.fn D.fl
 now:OwnW base w c d D.nn D.nl
 ss:OwnT base w e fs
 map:fs.map Prod.fst=D.ss
 f_n:∀k,zp a b k->¬zp c d k
 f_s:∀k,zp a b k->¬kH e fs k
 n_s:∀k,zp c d k->¬kH e fs k
def qE (a b c d e:Value) (fs:List SF) (k:Nat):Prop:=zp a b k∨zp c d k∨kH e fs k
section
variable {base:Nat} {w w':World} {a b c d e:Value} {D:Dr} {fs:List SF}
theorem OwnD.lt (h:OwnD base w a b c d e D fs) (k:Nat) (hk:qE a b c d e fs k):base<=k/\k<w.heap.size:=by
 rcases hk with hk|hk|hk
 ·exact h.first.lt k hk
 ·exact h.now.lt k hk
 ·exact h.ss.lt k hk
theorem OwnD.turned {S:Nat->Prop} (h:OwnD base w a b c d e D fs) (hb:Turns S w w') (hs:∀k,qE a b c d e fs k->¬S k):OwnD base w' a b c d e D fs:=
 ⟨h.first.turned hb (fun k hk=>hs k (.inl hk)),h.now.turned hb (fun k hk=>hs k (.inr (.inl hk))),h.ss.turned hb (fun k hk=>hs k (.inr (.inr hk))),h.map,h.f_n,h.f_s,h.n_s⟩
theorem OwnD.kept (h:OwnD base w a b c d e D fs) (hb:Below w.heap.size w w'):OwnD base w' a b c d e D fs:=
 h.turned (S:=fun _=>False) (Turns.ofBelow hb) (fun _ _ h=>h)
theorem OwnD.alloc (h:OwnD base w a b c d e D fs) (o:Obj):OwnD base (w.alloc o) a b c d e D fs:=h.kept ((aaj _ _).alloc (aaa _) o)
theorem OwnD.reads (h:OwnD base w a b c d e D fs):RD w a b c d e D:=
 ⟨h.first.1.reads,h.first.2.1.reads,h.now.1.reads,h.now.2.1.reads,by have:=h.ss.reads;rw[h.map] at this;exact this⟩
end
def RetD (D:Dr) (w:World) (e:Ending) (w':World):Prop:=∃A0 c0 A1 c1 A2 c2 A3 c3 A4 c4 fs,
 e= .returned (.agg #[.slice A0 D.fn.length c0,.slice A1 D.fl.length c1,.slice A2 D.nn.length c2,.slice A3 D.nl.length c3,.slice A4 D.ss.length c4])/\
 OwnD w.heap.size w' (.slice A0 D.fn.length c0) (.slice A1 D.fl.length c1) (.slice A2 D.nn.length c2) (.slice A3 D.nl.length c3) (.slice A4 D.ss.length c4) D fs/\Below w.heap.size w w'
end Go.Proofs.YtnjcpljhmhdhkaaGreat
