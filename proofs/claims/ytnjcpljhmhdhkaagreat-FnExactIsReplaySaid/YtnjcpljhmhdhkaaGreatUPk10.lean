/- part 10 -/
import Derived.Test.YtnjcpljhmhdhkaaGreatUPk4
import Derived.Deep.RegionHeld3
import Derived.StillTailTactics
set_option linter.unusedSimpArgs false
set_option linter.unusedVariables false
set_option maxRecDepth 100000
set_option maxHeartbeats 8000000
namespace Go.Proofs.YtnjcpljhmhdhkaaGreat
open Go.RowKit
attribute [local go_sem ↓] zv zu qb qf
def nwo (ns:List Pr) (k:Int):Nat->List Pr
 |0=> []
 |j+1=>if (j:Int)=k then nwo ns k j else nwo ns k j++[ndI ns j]
def dnI (k i:Int):Int:=if i>k then i -1 else i
def lwo (ls:List Pr) (k:Int):Nat->List Pr
 |0=> []
 |j+1=>if (ndI ls j).1≠k/\(ndI ls j).2≠k then lwo ls k j++[(dnI k (ndI ls j).1,dnI k (ndI ls j).2)] else lwo ls k j
theorem z27 (ns:List Pr) (k:Int):∀j,(nwo ns k j).length <=j
 |0=>by simp[nwo]
 |j+1=>by
  have:=z27 ns k j;unfold nwo
  split<;>simp<;>omega
theorem z5G (ls:List Pr) (k:Int):∀j,(lwo ls k j).length <=j
 |0=>by simp[lwo]
 |j+1=>by
  have:=z5G ls k j;unfold lwo
  split<;>simp<;>omega
theorem z3R (i k:Int) (g:Nat) (w:World) (hc:w.cell? ⟨g,0,none⟩=some (.int .i64 k)) (hb: -1000000<=i/\i<=1000000):
  Calls Tryz.prog 251 #[.int .i64 i,.pointer (some ⟨g,0,none⟩)] w fun e w'=>e= .returned (.int .i64 (dnI k i))/\w=w':=by
 obtain⟨h9,He⟩:=hb
 by_cases h:k<i
 ·have HR:Hid (dnI k i=i -1):=h_ (by simp[dnI,h])
  go_enter Tryz.func251,Tryz.ntmps251
  go_wp2;go_ret
  exact⟨zb HR.out.symm,rfl⟩
 ·have HR:Hid (dnI k i=i):=h_ (by simp[dnI,h])
  go_enter Tryz.func251,Tryz.ntmps251
  go_wp2;go_ret
  exact⟨zb HR.out.symm,rfl⟩
theorem z1y (vn vl:Value) (ns ls:List Pr) (k:Int) (w:World) (hn:RP w vn ns) (hl:RP w vl ls) (h1:ns.length<=1048576) (h2:ls.length<=1048576)
  (fr:∀j:Nat,j<ls.length->(-1000000<=(ndI ls j).1/\(ndI ls j).1<=1000000)/\(-1000000<=(ndI ls j).2/\(ndI ls j).2<=1000000)):
  Calls Tryz.prog 219 #[.agg #[vn,vl],.int .i64 k] w (RetW (nwo ns k ns.length) (lwo ls k ls.length) w):=by
 obtain⟨An,cn,rfl,ci,fC,Ht⟩:=hn.formI;obtain⟨Al,cl,rfl,Ho,GO,gx⟩:=hl.formI;obtain⟨i0,hi,iz0,iz1,iz2⟩:=info_parts Qj;obtain⟨j0,hj,jz0,jz1,jz2⟩:=info_parts jc;unfold maxLen at fC GO
 go_enter Tryz.func219,Tryz.ntmps219
 go_wp2
 go_loopw [15] (fun i wr=>∃j:Nat,j<=ns.length/\i= .int .i64 j/\∃A c,OwnP 106 (w.heap.size+1+1+1+1) wr (.slice A (nwo ns k j).length c) (nwo ns k j)/\
   Blk wr w.heap.size 27 #[.slice An ns.length cn,.slice Al ls.length cl]/\Blk wr (w.heap.size+1) 3 #[.int .i64 k]/\Blk wr (w.heap.size+1+1) 27 #[.slice none 0 0,.slice none 0 0]/\
   Blk wr (w.heap.size+1+1+1) 27 #[.slice A (nwo ns k j).length c,.slice none 0 0]/\Below w.heap.size w wr) (fun i _=>ns.length -(intOf i).toNat)
 case atStart=>exact⟨0,aab _,rfl,none,0,OwnP.nil _ _ _,(((Blk.newAt rfl).alloc _).alloc _).alloc _,((Blk.newAt (by simp)).alloc _).alloc _,(Blk.newAt (by simp)).alloc _,Blk.newAt (by simp),by exact bel_⟩
 case round=>
  obtain⟨j,mz,rfl,A,c,ho,hA,hK,hR,hO,Hb⟩:=hrel;have gj:=hO.lt;obtain⟨a_0,a_1⟩:=hA.c2
  (have kk:=hK.cell 0);simp only[abe,aag] at kk
  obtain⟨o_0,o_1,o_f0,o_f1⟩:=hO.b2;have hG:=z27 ns k j
  by_cases Hd:j<ns.length
  ·obtain⟨b,off,rfl,hb,Gq⟩:=Ht o_
   obtain⟨k0,k1⟩:=Gq j Hd;have q0:=(Hb.cell (p:=⟨b,off+j*2,none⟩) hb).trans k0;have q1:=(Hb.cell (p:=⟨b,off+j*2+1,none⟩) hb).trans k1;have FT:(0:Int)<=(j:Int):=o_
   have cf:(j:Int)<(ns.length:Int):=o_
   have p1:w.heap.size+1<wr.heap.size:=o_
   clear k0 k1 Gq Ht
   by_cases F8:(j:Int)=k
   ·have HS:Hid (nwo ns k (j+1)=nwo ns k j):=h_ (by simp[nwo,F8])
    have e1:((j:Int) != k)=false:=by simp[F8]
    clear F8;have HB:Hid (Below w.heap.size w (wr.alloc (.cells #[.int .i64 (ndI ns j).1,.int .i64 (ndI ns j).2] 106))):=h_ bel_;go_wp2;go_roundw
    case rel=>exact⟨j+1,by omega,by go_num,A,c,by rw[HS.out];exact ho.alloc _,hA.alloc _,hK.alloc _,hR.alloc _,by rw[HS.out];exact hO.alloc _,HB.out⟩
    case measure=>simp[intOf];omega
   ·have HS:Hid (nwo ns k (j+1)=nwo ns k j++[((ndI ns j).1,(ndI ns j).2)]):=h_ (by simp[nwo,F8])
    have e1:((j:Int) != k)=true:=by simp[F8]
    clear F8;generalize nwo ns k j=G at*;generalize (ndI ns j).1=X at*;generalize (ndI ns j).2=Y at*;have Hk:∀b,(Value.slice A G.length c).ownBlock =some b->w.heap.size+1+1+1+1<=b/\b<wr.heap.size:=fun b hb=>ho.lt b hb
    go_wp2_with (at_builtin;refine zj rfl _ _ _ rfl (w.heap.size+1+1+1+1) 106 i0 Tryz.underlying24 hi iz0 iz1 iz2 (.slice A G.length c) _ G [(X,Y)] rfl rfl ((ho.alloc _).alloc _) (jk (by simp) rfl rfl rfl (by simp[maxLen])) (by simp;omega) (by simp;omega) ?_)
    intro A3 c3 w3 Hq gM _;have FE:=((hA.alloc (.cells #[.int .i64 X,.int .i64 Y] 106)).alloc _).grownR gM (fun b hb=>by have:=(Hk b hb).1;omega);have uX:=((hK.alloc (.cells #[.int .i64 X,.int .i64 Y] 106)).alloc _).grownR gM (fun b hb=>by have:=(Hk b hb).1;omega);have GK:=((hR.alloc (.cells #[.int .i64 X,.int .i64 Y] 106)).alloc _).grownR gM (fun b hb=>by have:=(Hk b hb).1;omega);have GM:=((hO.alloc (.cells #[.int .i64 X,.int .i64 Y] 106)).alloc _).grownR gM (fun b hb=>by have:=(Hk b hb).1;omega);have gz:Below w.heap.size w w3:=((Hb.alloc o_ _).alloc sz_ _).grown gM sz_ (fun b hb=>by have:=(Hk b hb).1;omega);clear ho hA hK hR hO Hb gM a_0 a_1 kk o_0 o_1 o_f0 o_f1 q0 q1;obtain⟨o_0,o_1,o_f0,o_f1⟩:=GM.b2;have F3:Hid (OwnP 106 (w.heap.size+1+1+1+1) (w3.setCell ⟨w.heap.size+1+1+1,0,none⟩ (.slice A3 (G.length+1) c3)) (.slice A3 (G++[(X,Y)]).length c3) (G++[(X,Y)])):=h_ (OwnP.setLow (by simpa using Hq) (show w.heap.size+1+1+1<w.heap.size+1+1+1+1 by omega) _);have HA4:=h_ (FE.far (p:=⟨w.heap.size+1+1+1,0,none⟩) (show ¬w.heap.size=w.heap.size+1+1+1 by omega) (.slice A3 (G.length+1) c3));have HK4:=h_ (uX.far (p:=⟨w.heap.size+1+1+1,0,none⟩) (show ¬w.heap.size+1=w.heap.size+1+1+1 by omega) (.slice A3 (G.length+1) c3));have Uf:=h_ (GK.far (p:=⟨w.heap.size+1+1+1,0,none⟩) (show ¬w.heap.size+1+1=w.heap.size+1+1+1 by omega) (.slice A3 (G.length+1) c3))
    have BR:Hid (Blk (w3.setCell ⟨w.heap.size+1+1+1,0,none⟩ (.slice A3 (G.length+1) c3)) (w.heap.size+1+1+1) 27 #[.slice A3 (G++[(X,Y)]).length c3,.slice none 0 0]):=h_ (by
     rw[show(G++[(X,Y)]).length =G.length+1 by simp];exact GM.set_ 0 _)
    have mV:=h_ (gz.setCell (p:=⟨w.heap.size+1+1+1,0,none⟩) (show w.heap.size<=w.heap.size+1+1+1 by omega) (.slice A3 (G.length+1) c3));clear Hq FE uX GK GM gz;go_wp2;go_roundw
    case rel=>exact⟨j+1,by omega,by go_num,A3,c3,by rw[HS.out];exact F3.out,HA4.out,HK4.out,Uf.out,by rw[HS.out];exact BR.out,mV.out⟩
    case measure=>simp[intOf];omega
  ·have GV:j=ns.length:=o_
   subst GV;generalize nwo ns k ns.length=NN at*;have Na:=ho;have hA0:=hA;have hK0:=hK;have bX:=hR;have bT:=hO;have fW:=Hb;clear ho hA hK hR hO Hb Ht hG;go_wp2
   go_loopw [33] (fun i wr=>∃j:Nat,j<=ls.length/\i= .int .i64 j/\∃A' c',OwnP 108 (w.heap.size+1+1+1+1) wr (.slice A' (lwo ls k j).length c') (lwo ls k j)/\OwnP 106 (w.heap.size+1+1+1+1) wr (.slice A NN.length c) NN/\
     (∀b,(Value.slice A NN.length c).ownBlock =some b->(Value.slice A' (lwo ls k j).length c').ownBlock =some b->False)/\
     Blk wr w.heap.size 27 #[.slice An ns.length cn,.slice Al ls.length cl]/\Blk wr (w.heap.size+1) 3 #[.int .i64 k]/\Blk wr (w.heap.size+1+1) 27 #[.slice none 0 0,.slice none 0 0]/\
     Blk wr (w.heap.size+1+1+1) 27 #[.slice A NN.length c,.slice A' (lwo ls k j).length c']/\Below w.heap.size w wr) (fun i _=>ls.length -(intOf i).toNat)
   case atStart=>exact⟨0,aab _,rfl,none,0,OwnP.nil _ _ _,Na,(by intro b h1 h2;cases h2),hA0,hK0,bX,bT,fW⟩
   case round=>
    obtain⟨j,mz,rfl,A',c',ho,CJ,bK,hA,hK,hR,hO,Hb⟩:=hrel;clear Na hA0 hK0 bX bT fW a_0 a_1 kk o_0 o_1 o_f0 o_f1;have gj:=hO.lt;obtain⟨a_0,a_1⟩:=hA.c2
    (have kk:=hK.cell 0);simp only[abe,aag] at kk
    obtain⟨o_0,o_1,o_f0,o_f1⟩:=hO.b2;have hG:=z5G ls k j
    by_cases Hd:j<ls.length
    ·obtain⟨b,off,rfl,hb,Gq⟩:=gx o_
     obtain⟨k0,k1⟩:=Gq j Hd;obtain⟨b1,b2⟩:=fr j Hd;have q0:=(Hb.cell (p:=⟨b,off+j*2,none⟩) hb).trans k0;have q1:=(Hb.cell (p:=⟨b,off+j*2+1,none⟩) hb).trans k1;have FT:(0:Int)<=(j:Int):=o_
     have cf:(j:Int)<(ls.length:Int):=o_
     have p1:w.heap.size+1<wr.heap.size:=o_
     clear k0 k1 Gq gx;have HS:Hid (lwo ls k (j+1)=if (ndI ls j).1≠k/\(ndI ls j).2≠k then lwo ls k j++[(dnI k (ndI ls j).1,dnI k (ndI ls j).2)] else lwo ls k j):=h_ rfl;generalize lwo ls k j=G at*;generalize (ndI ls j).1=X at*;generalize (ndI ls j).2=Y at*
     by_cases hx:X=k
     ·have fg:Hid (lwo ls k (j+1)=G):=h_ (by rw[HS.out,aaq (fun h=>h.1 hx)])
      have e1:(X != k)=false:=by simp[hx]
      clear hx HS;have HB:Hid (Below w.heap.size w (wr.alloc (.cells #[.int .i64 X,.int .i64 Y] 108))):=h_ bel_;go_wp2;go_roundw
      case rel=>exact⟨j+1,by omega,by go_num,A',c',by rw[fg.out];exact ho.alloc _,CJ.alloc _,by rw[fg.out];exact bK,hA.alloc _,hK.alloc _,hR.alloc _,by rw[fg.out];exact hO.alloc _,HB.out⟩
      case measure=>simp[intOf];omega
     ·have e1:(X != k)=true:=by simp[hx]
      by_cases hy:Y=k
      ·have fg:Hid (lwo ls k (j+1)=G):=h_ (by rw[HS.out,aaq (fun h=>h.2 hy)])
       have e2:(Y != k)=false:=by simp[hy]
       clear hx hy HS;have HB:Hid (Below w.heap.size w (wr.alloc (.cells #[.int .i64 X,.int .i64 Y] 108))):=h_ bel_;go_wp2;go_roundw
       case rel=>exact⟨j+1,by omega,by go_num,A',c',by rw[fg.out];exact ho.alloc _,CJ.alloc _,by rw[fg.out];exact bK,hA.alloc _,hK.alloc _,hR.alloc _,by rw[fg.out];exact hO.alloc _,HB.out⟩
       case measure=>simp[intOf];omega
      ·have fg:Hid (lwo ls k (j+1)=G++[(dnI k X,dnI k Y)]):=h_ (by rw[HS.out,aao ⟨hx,hy⟩])
       have e2:(Y != k)=true:=by simp[hy]
       clear hx hy HS
       go_wp2_with fail
       have Hk:∀b,(Value.slice A' G.length c').ownBlock =some b->w.heap.size+1+1+1+1<=b/\b<wr.heap.size:=fun b hb=>ho.lt b hb
       have HKC:=h_ (fun (u:World) (h:u.cell? ⟨w.heap.size+1,0,none⟩=some (.int .i64 k))=>z3R X k (w.heap.size+1) u h b1);have HKD:=h_ (fun (u:World) (h:u.cell? ⟨w.heap.size+1,0,none⟩=some (.int .i64 k))=>z3R Y k (w.heap.size+1) u h b2);have HO':=h_ ho;have HKB:=h_ hK;have HOB:=h_ hO;generalize hdx:dnI k X=DX at*;generalize hdy:dnI k Y=DY at*;clear ho hK hO hdx hdy;refine z3v (n:=14) (S:=fun w'=>w'.cell? ⟨wr.heap.size,0,none⟩=some (.int .i64 X)/\w'.cell? ⟨wr.heap.size,1,none⟩=some (.int .i64 Y)/\w'.cell? ⟨w.heap.size+1,0,none⟩=some (.int .i64 k)/\w'.cell? ⟨w.heap.size+1+1+1,1,none⟩=some (.slice A' G.length c')) k_ ⟨by simp,by simp,((HKB.out.alloc _).drew).cell 0,((HOB.out.alloc _).drew).cell 1⟩ (fun hS=>?_)
       (refine jt (i:=0) (v:=?_) rfl rfl k_ k_ k_ k_ (fun _ _ _ h=>h) (Or.inl ⟨by rfl,?_⟩) (by assumption) ?_);rotate_left;(focus (intro w' fV;(try dsimp only at fV);go_simp;(try with_reducible rfl)));(try simp only[lp_])
       (refine jt (i:=1) (v:=?_) rfl rfl k_ k_ k_ k_ (fun _ _ _ h=>h) (Or.inl ⟨by rfl,?_⟩) (by assumption) ?_);rotate_left;(focus (intro w' fV;(try dsimp only at fV);go_simp;(try with_reducible rfl)));(try simp only[lp_])
       (refine jt (i:=2) (v:=?_) rfl rfl k_ k_ k_ k_ (fun _ _ _ h=>h) (Or.inl ⟨by rfl,?_⟩) (by assumption) ?_);rotate_left;(focus (intro w' fV;(try dsimp only at fV);go_simp;(try with_reducible rfl)));(try simp only[lp_])
       (refine jt (i:=3) (v:=?_) rfl rfl k_ k_ k_ k_ (fun _ _ _ h=>h) (Or.inl ⟨by rfl,?_⟩) (by assumption) ?_);rotate_left;(focus (intro w' fV;(try dsimp only at fV);go_simp;(try with_reducible rfl)));(try simp only[lp_])
       (refine jt (i:=4) (v:=?_) rfl rfl k_ k_ k_ k_ (fun _ _ _ h=>h) (Or.inl ⟨by rfl,?_⟩) (by assumption) ?_);rotate_left;(focus (intro w' fV;(try dsimp only at fV);go_simp;(try with_reducible rfl)));(try simp only[lp_])
       (refine jt (i:=6) (v:=?_) rfl rfl k_ k_ k_ k_ (fun _ _ _ h=>h) (Or.inl ⟨by rfl,?_⟩) (by assumption) ?_);rotate_left;(focus (intro w' fV;(try dsimp only at fV);go_simp;(try with_reducible rfl)));(try simp only[lp_])
       (refine jt (i:=7) (v:=?_) rfl rfl k_ k_ k_ k_ (fun _ _ _ h=>h) (Or.inl ⟨by rfl,?_⟩) (by assumption) ?_);rotate_left;(focus (intro w' fV;(try dsimp only at fV);go_simp;(try with_reducible rfl)));(try simp only[lp_])
       (refine jt (i:=8) (v:=?_) rfl rfl k_ k_ k_ k_ (fun _ _ _ h=>h) (Or.inl ⟨by rfl,?_⟩) (by assumption) ?_);rotate_left;(focus (intro w' fV;(try dsimp only at fV);go_simp;(try with_reducible rfl)));(try simp only[lp_])
       (refine xd (i:=5) rfl k_ (fun K hK=>?_));(rw[aao (by rfl)])
       go_simp
       go_at_call 251
       refine(HKC.out _ hS.2.2.1).mono ?_
       rintro e w5 ⟨rfl,rfl⟩
       go_wp2_with fail
       refine hK _ _ (fun _=>hS) (fun _=>?_)
       clear hK K
       (try simp only[lp_])
       (refine xd (i:=9) rfl k_ (fun K hK=>?_));(rw[aao (by rfl)])
       go_simp
       go_at_call 251
       refine(HKD.out _ hS.2.2.1).mono ?_
       rintro e w5 ⟨rfl,rfl⟩
       go_wp2_with fail
       refine hK _ _ (fun _=>hS) (fun _=>?_)
       clear hK K
       (try simp only[lp_])
       (refine jt (i:=10) (v:=?_) rfl rfl k_ k_ k_ k_ (fun _ _ _ h=>h) (Or.inl ⟨by rfl,?_⟩) (by assumption) ?_);rotate_left;(focus (intro w' fV;(try dsimp only at fV);go_simp;(try with_reducible rfl)));(try simp only[lp_])
       (refine xd (i:=11) rfl k_ (fun K hK=>?_));(rw[aao (by rfl)])
       go_simp;have HLB:=h_ (Blk.newAt (w:=wr) (g:=wr.heap.size) (t:=108) (cs:= #[.int .i64 X,.int .i64 Y]) rfl);refine hK _ _ (fun _=>⟨(HLB.out.alloc _).cell 0,(HLB.out.alloc _).cell 1,((HKB.out.alloc _).alloc _).cell 0,((HOB.out.alloc _).alloc _).cell 1⟩) (fun gl=>?_)
       clear hK K hS gl
       (try simp only[lp_])
       (refine xd (i:=12) rfl k_ (fun K hK=>?_))
       refine zo rfl _ _ _ rfl (w.heap.size+1+1+1+1) 108 j0 Tryz.underlying25 hj jz0 jz1 jz2 (.slice A' G.length c') _ G [(DX,DY)] rfl rfl (((HO'.out.alloc _).alloc _).drew) (z60 (by simp) rfl rfl rfl (by simp[maxLen])) (by simp;omega) (by simp;omega) ?_
       intro A3 c3 w3 Hq gM FW;have Ys:=((HLB.out.alloc (.cells #[.int .i64 DX,.int .i64 DY] 108)).drew).grownR gM (fun b hb=>by have:=(Hk b hb).2;omega);have FE:=(((hA.alloc (.cells #[.int .i64 X,.int .i64 Y] 108)).alloc (.cells #[.int .i64 DX,.int .i64 DY] 108)).drew).grownR gM (fun b hb=>by have:=(Hk b hb).1;omega);have uX:=(((HKB.out.alloc (.cells #[.int .i64 X,.int .i64 Y] 108)).alloc (.cells #[.int .i64 DX,.int .i64 DY] 108)).drew).grownR gM (fun b hb=>by have:=(Hk b hb).1;omega);have GK:=(((hR.alloc (.cells #[.int .i64 X,.int .i64 Y] 108)).alloc (.cells #[.int .i64 DX,.int .i64 DY] 108)).drew).grownR gM (fun b hb=>by have:=(Hk b hb).1;omega);have GM:=(((HOB.out.alloc (.cells #[.int .i64 X,.int .i64 Y] 108)).alloc (.cells #[.int .i64 DX,.int .i64 DY] 108)).drew).grownR gM (fun b hb=>by have:=(Hk b hb).1;omega);have gz:Below w.heap.size w w3:=(((Hb.alloc o_ _).alloc sz_ _).drew).grown gM sz_ (fun b hb=>by have:=(Hk b hb).1;omega);have M4:=(((CJ.alloc (.cells #[.int .i64 X,.int .i64 Y] 108)).alloc (.cells #[.int .i64 DX,.int .i64 DY] 108)).drew).apart gM (fun b h1 h2=>bK b h1 h2)
       have hap3:∀b,(Value.slice A NN.length c).ownBlock =some b->(Value.slice A3 (G++[(DX,DY)]).length c3).ownBlock =some b->False:=fun b h1 h2=>by
        have h3:=(CJ.lt b h1).2
        rcases FW with h|h
        ·rw[h] at h2;exact bK b h1 h2
        ·rw[h] at h2;cases h2;simp at h3;omega
       clear FW gM;refine hK _ _ (fun _=>⟨Ys.cell 0,Ys.cell 1,uX.cell 0,GM.cell 1⟩) (fun gl=>?_)
       have FX:=gl (by decide);clear hK K gl
       (try simp only[lp_])
       (refine jt (i:=13) (v:=?_) rfl rfl k_ k_ k_ k_ (fun _ _ _ h=>h) (Or.inl ⟨by rfl,?_⟩) (by assumption) ?_);rotate_left;(focus (intro w' fV;(try dsimp only at fV);go_simp;(try with_reducible rfl)));(try simp only[lp_])
       clear a_0 a_1 kk o_0 o_1 o_f0 o_f1 q0 q1;obtain⟨o_0,o_1,o_f0,o_f1⟩:=GM.b2;have F3:Hid (OwnP 108 (w.heap.size+1+1+1+1) (w3.setCell ⟨w.heap.size+1+1+1,1,none⟩ (.slice A3 (G.length+1) c3)) (.slice A3 (G++[(DX,DY)]).length c3) (G++[(DX,DY)])):=h_ (OwnP.setLow (by simpa using Hq) (show w.heap.size+1+1+1<w.heap.size+1+1+1+1 by omega) _);have HN4:Hid (OwnP 106 (w.heap.size+1+1+1+1) (w3.setCell ⟨w.heap.size+1+1+1,1,none⟩ (.slice A3 (G.length+1) c3)) (.slice A NN.length c) NN):=h_ (OwnP.setLow M4 (show w.heap.size+1+1+1<w.heap.size+1+1+1+1 by omega) _);have HA4:=h_ (FE.far (p:=⟨w.heap.size+1+1+1,1,none⟩) (show ¬w.heap.size=w.heap.size+1+1+1 by omega) (.slice A3 (G.length+1) c3));have HK4:=h_ (uX.far (p:=⟨w.heap.size+1+1+1,1,none⟩) (show ¬w.heap.size+1=w.heap.size+1+1+1 by omega) (.slice A3 (G.length+1) c3));have Uf:=h_ (GK.far (p:=⟨w.heap.size+1+1+1,1,none⟩) (show ¬w.heap.size+1+1=w.heap.size+1+1+1 by omega) (.slice A3 (G.length+1) c3))
       have BR:Hid (Blk (w3.setCell ⟨w.heap.size+1+1+1,1,none⟩ (.slice A3 (G.length+1) c3)) (w.heap.size+1+1+1) 27 #[.slice A NN.length c,.slice A3 (G++[(DX,DY)]).length c3]):=h_ (by
        rw[show(G++[(DX,DY)]).length =G.length+1 by simp];exact GM.set_ 1 _)
       have mV:=h_ (gz.setCell (p:=⟨w.heap.size+1+1+1,1,none⟩) (show w.heap.size<=w.heap.size+1+1+1 by omega) (.slice A3 (G.length+1) c3));have NO:=h_ hap3;clear Hq FE uX GK GM gz Ys M4 hap3 bK hA hR Hb CJ
       (refine xd (i:=14) rfl k_ (fun K hK=>?_));(rw[aao (by rfl)])
       go_simp;refine hK _ _ (fun h=>absurd rfl h) (fun _=>?_)
       clear hK K FX
       (try simp only[lp_])
       refine z95 k_ ?_ _
       go_wp2;go_roundw
       case rel=>exact⟨j+1,by omega,by go_num,A3,c3,by rw[fg.out];exact F3.out,HN4.out,by rw[fg.out];exact NO.out,HA4.out,HK4.out,Uf.out,by rw[fg.out];exact BR.out,mV.out⟩
       case measure=>simp[intOf];omega
    ·have GV:j=ls.length:=o_
     subst GV;have F3:=h_ ho;have HN4:=h_ CJ;have NO:=h_ bK;have HB:=h_ Hb;generalize lwo ls k ls.length=LL at*;clear ho CJ bK Hb gx hG hn hl;obtain⟨r_0,r_1,r_f0,r_f1⟩:=hR.b2;have H8:w.heap.size<=w.heap.size+1+1:=o_
     go_wp2;exact bodyPost_ret (v:= .agg #[.slice A NN.length c,.slice A' LL.length c']) (by simp[results,Tryz.results219,go_sem, *]) rfl ⟨_,_,_,_,rfl,⟨((HN4.out.setLow (p:=⟨w.heap.size+1+1,0,none⟩) sz_ _).setLow (p:=⟨w.heap.size+1+1,1,none⟩) sz_ _).mono o_,((F3.out.setLow (p:=⟨w.heap.size+1+1,0,none⟩) sz_ _).setLow (p:=⟨w.heap.size+1+1,1,none⟩) sz_ _).mono o_,NO.out⟩,(HB.out.setCell (by simp;omega) _).setCell (by simp;omega) _⟩
end Go.Proofs.YtnjcpljhmhdhkaaGreat
