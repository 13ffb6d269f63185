/- part 13 -/
import Derived.Test.YtnjcpljhmhdhkaaGreatEPk5
import Derived.Deep.RegionHeld3
import Derived.StillTailTactics
set_option linter.unusedSimpArgs false
set_option linter.unusedVariables false
set_option maxRecDepth 100000
set_option maxHeartbeats 8000000
namespace Go.Proofs.YtnjcpljhmhdhkaaGreat
open Go.RowKit
attribute [local go_sem ↓] zr zt zR zQ
def nwo (ns:List Pr) (k:Int):Nat->List Pr
 |0=> []
 |j+1=>if (j:Int)=k then nwo ns k j else nwo ns k j++[ndI ns j]
def dnI (k i:Int):Int:=if i>k then i -1 else i
def lwo (ls:List Pr) (k:Int):Nat->List Pr
 |0=> []
 |j+1=>if (ndI ls j).1≠k/\(ndI ls j).2≠k then lwo ls k j++[(dnI k (ndI ls j).1,dnI k (ndI ls j).2)] else lwo ls k j
theorem z0N (ns:List Pr) (k:Int):∀j,(nwo ns k j).length <=j
 |0=>by simp[nwo]
 |j+1=>by
  have:=z0N ns k j;unfold nwo
  split<;>simp<;>omega
theorem z4q (ls:List Pr) (k:Int):∀j,(lwo ls k j).length <=j
 |0=>by simp[lwo]
 |j+1=>by
  have:=z4q ls k j;unfold lwo
  split<;>simp<;>omega
theorem z1G (i k:Int) (g:Nat) (w:World) (hc:w.cell? ⟨g,0,none⟩=some (.int .i64 k)) (hb: -1000000<=i/\i<=1000000):
  Calls Tryz.prog 251 #[.int .i64 i,.pointer (some ⟨g,0,none⟩)] w fun e w'=>e= .returned (.int .i64 (dnI k i))/\w=w':=by
 obtain⟨h9,Hd⟩:=hb
 by_cases h:k<i
 ·have HR:Hid (dnI k i=i -1):=h_ (by simp[dnI,h])
  go_enter Tryz.func251,Tryz.ntmps251
  go_wp2;go_ret
  exact⟨zo HR.out.symm,rfl⟩
 ·have HR:Hid (dnI k i=i):=h_ (by simp[dnI,h])
  go_enter Tryz.func251,Tryz.ntmps251
  go_wp2;go_ret
  exact⟨zo HR.out.symm,rfl⟩
theorem z0Z (vn vl:Value) (ns ls:List Pr) (k:Int) (w:World) (hn:RP w vn ns) (hl:RP w vl ls) (h1:ns.length<=1048576) (h2:ls.length<=1048576)
  (fE:∀j:Nat,j<ls.length->(-1000000<=(ndI ls j).1/\(ndI ls j).1<=1000000)/\(-1000000<=(ndI ls j).2/\(ndI ls j).2<=1000000)):
  Calls Tryz.prog 219 #[.agg #[vn,vl],.int .i64 k] w (RetW (nwo ns k ns.length) (lwo ls k ls.length) w):=by
 obtain⟨An,cn,rfl,Fk,GL,Hl⟩:=hn.formI;obtain⟨Al,cl,rfl,Hy,Gz,H9⟩:=hl.formI;obtain⟨i0,hi,iz0,iz1,iz2⟩:=info_parts ko;obtain⟨j0,hj,jz0,jz1,jz2⟩:=info_parts jb;unfold maxLen at GL Gz
 go_enter Tryz.func219,Tryz.ntmps219
 go_wp2
 go_loopw [15] (fun i wr=>∃j:Nat,j<=ns.length/\i= .int .i64 j/\∃A c,OwnP 106 (w.heap.size+1+1+1+1) wr (.slice A (nwo ns k j).length c) (nwo ns k j)/\
   Blk wr w.heap.size 27 #[.slice An ns.length cn,.slice Al ls.length cl]/\Blk wr (w.heap.size+1) 3 #[.int .i64 k]/\Blk wr (w.heap.size+1+1) 27 #[.slice none 0 0,.slice none 0 0]/\
   Blk wr (w.heap.size+1+1+1) 27 #[.slice A (nwo ns k j).length c,.slice none 0 0]/\Below w.heap.size w wr) (fun i _=>ns.length -(intOf i).toNat)
 case atStart=>exact⟨0,aab _,rfl,none,0,OwnP.nil _ _ _,(((Blk.newAt rfl).alloc _).alloc _).alloc _,((Blk.newAt (by simp)).alloc _).alloc _,(Blk.newAt (by simp)).alloc _,Blk.newAt (by simp),by exact bel_⟩
 case round=>
  obtain⟨j,Bj,rfl,A,c,ho,hA,hK,hR,hO,Hb⟩:=hrel;have gx:=hO.lt;obtain⟨a_0,a_1⟩:=hA.c2
  (have kk:=hK.cell 0);simp only[abd,aag] at kk
  obtain⟨o_0,o_1,o_f0,o_f1⟩:=hO.b2;have hG:=z0N ns k j
  by_cases Hf:j<ns.length
  ·obtain⟨b,off,rfl,hb,Gj⟩:=Hl o_
   obtain⟨k0,k1⟩:=Gj j Hf;have q0:=(Hb.cell (p:=⟨b,off+j*2,none⟩) hb).trans k0;have q1:=(Hb.cell (p:=⟨b,off+j*2+1,none⟩) hb).trans k1;have ct:(0:Int)<=(j:Int):=o_
   have Cq:(j:Int)<(ns.length:Int):=o_
   have p1:w.heap.size+1<wr.heap.size:=o_
   clear k0 k1 Gj Hl
   by_cases FH:(j:Int)=k
   ·have HS:Hid (nwo ns k (j+1)=nwo ns k j):=h_ (by simp[nwo,FH])
    have e1:((j:Int) != k)=false:=by simp[FH]
    clear FH;have HB:Hid (Below w.heap.size w (wr.alloc (.cells #[.int .i64 (ndI ns j).1,.int .i64 (ndI ns j).2] 106))):=h_ bel_;go_wp2;go_roundw
    case rel=>exact⟨j+1,by omega,by go_num,A,c,by rw[HS.out];exact ho.alloc _,hA.alloc _,hK.alloc _,hR.alloc _,by rw[HS.out];exact hO.alloc _,HB.out⟩
    case measure=>simp[intOf];omega
   ·have HS:Hid (nwo ns k (j+1)=nwo ns k j++[((ndI ns j).1,(ndI ns j).2)]):=h_ (by simp[nwo,FH])
    have e1:((j:Int) != k)=true:=by simp[FH]
    clear FH;generalize nwo ns k j=G at*;generalize (ndI ns j).1=X at*;generalize (ndI ns j).2=Y at*;have Hq:∀b,(Value.slice A G.length c).ownBlock =some b->w.heap.size+1+1+1+1<=b/\b<wr.heap.size:=fun b hb=>ho.lt b hb
    go_wp2_with (at_builtin;refine zj rfl _ _ _ rfl (w.heap.size+1+1+1+1) 106 i0 Tryz.underlying24 hi iz0 iz1 iz2 (.slice A G.length c) _ G [(X,Y)] rfl rfl ((ho.alloc _).alloc _) (j6 (by simp) rfl rfl rfl (by simp[maxLen])) (by simp;omega) (by simp;omega) ?_)
    intro A3 c3 w3 Hm gn _;have cj:=((hA.alloc (.cells #[.int .i64 X,.int .i64 Y] 106)).alloc _).grownR gn (fun b hb=>by have:=(Hq b hb).1;omega);have Np:=((hK.alloc (.cells #[.int .i64 X,.int .i64 Y] 106)).alloc _).grownR gn (fun b hb=>by have:=(Hq b hb).1;omega);have gZ:=((hR.alloc (.cells #[.int .i64 X,.int .i64 Y] 106)).alloc _).grownR gn (fun b hb=>by have:=(Hq b hb).1;omega);have GH:=((hO.alloc (.cells #[.int .i64 X,.int .i64 Y] 106)).alloc _).grownR gn (fun b hb=>by have:=(Hq b hb).1;omega);have gq:Below w.heap.size w w3:=((Hb.alloc o_ _).alloc sz_ _).grown gn sz_ (fun b hb=>by have:=(Hq b hb).1;omega);clear ho hA hK hR hO Hb gn a_0 a_1 kk o_0 o_1 o_f0 o_f1 q0 q1;obtain⟨o_0,o_1,o_f0,o_f1⟩:=GH.b2;have cY:Hid (OwnP 106 (w.heap.size+1+1+1+1) (w3.setCell ⟨w.heap.size+1+1+1,0,none⟩ (.slice A3 (G.length+1) c3)) (.slice A3 (G++[(X,Y)]).length c3) (G++[(X,Y)])):=h_ (OwnP.setLow (by simpa using Hm) (show w.heap.size+1+1+1<w.heap.size+1+1+1+1 by omega) _);have HA4:=h_ (cj.far (p:=⟨w.heap.size+1+1+1,0,none⟩) (show ¬w.heap.size=w.heap.size+1+1+1 by omega) (.slice A3 (G.length+1) c3));have HK4:=h_ (Np.far (p:=⟨w.heap.size+1+1+1,0,none⟩) (show ¬w.heap.size+1=w.heap.size+1+1+1 by omega) (.slice A3 (G.length+1) c3));have Mg:=h_ (gZ.far (p:=⟨w.heap.size+1+1+1,0,none⟩) (show ¬w.heap.size+1+1=w.heap.size+1+1+1 by omega) (.slice A3 (G.length+1) c3))
    have Cl:Hid (Blk (w3.setCell ⟨w.heap.size+1+1+1,0,none⟩ (.slice A3 (G.length+1) c3)) (w.heap.size+1+1+1) 27 #[.slice A3 (G++[(X,Y)]).length c3,.slice none 0 0]):=h_ (by
     rw[show(G++[(X,Y)]).length =G.length+1 by simp];exact GH.set_ 0 _)
    have BQ:=h_ (gq.setCell (p:=⟨w.heap.size+1+1+1,0,none⟩) (show w.heap.size<=w.heap.size+1+1+1 by omega) (.slice A3 (G.length+1) c3));clear Hm cj Np gZ GH gq;go_wp2;go_roundw
    case rel=>exact⟨j+1,by omega,by go_num,A3,c3,by rw[HS.out];exact cY.out,HA4.out,HK4.out,Mg.out,by rw[HS.out];exact Cl.out,BQ.out⟩
    case measure=>simp[intOf];omega
  ·have GP:j=ns.length:=o_
   subst GP;generalize nwo ns k ns.length=NN at*;have Mb:=ho;have hA0:=hA;have hK0:=hK;have Fv:=hR;have CZ:=hO;have fa:=Hb;clear ho hA hK hR hO Hb Hl hG;go_wp2
   go_loopw [33] (fun i wr=>∃j:Nat,j<=ls.length/\i= .int .i64 j/\∃A' c',OwnP 108 (w.heap.size+1+1+1+1) wr (.slice A' (lwo ls k j).length c') (lwo ls k j)/\OwnP 106 (w.heap.size+1+1+1+1) wr (.slice A NN.length c) NN/\
     (∀b,(Value.slice A NN.length c).ownBlock =some b->(Value.slice A' (lwo ls k j).length c').ownBlock =some b->False)/\
     Blk wr w.heap.size 27 #[.slice An ns.length cn,.slice Al ls.length cl]/\Blk wr (w.heap.size+1) 3 #[.int .i64 k]/\Blk wr (w.heap.size+1+1) 27 #[.slice none 0 0,.slice none 0 0]/\
     Blk wr (w.heap.size+1+1+1) 27 #[.slice A NN.length c,.slice A' (lwo ls k j).length c']/\Below w.heap.size w wr) (fun i _=>ls.length -(intOf i).toNat)
   case atStart=>exact⟨0,aab _,rfl,none,0,OwnP.nil _ _ _,Mb,(by intro b h1 h2;cases h2),hA0,hK0,Fv,CZ,fa⟩
   case round=>
    obtain⟨j,Bj,rfl,A',c',ho,cU,bz,hA,hK,hR,hO,Hb⟩:=hrel;clear Mb hA0 hK0 Fv CZ fa a_0 a_1 kk o_0 o_1 o_f0 o_f1;have gx:=hO.lt;obtain⟨a_0,a_1⟩:=hA.c2
    (have kk:=hK.cell 0);simp only[abd,aag] at kk
    obtain⟨o_0,o_1,o_f0,o_f1⟩:=hO.b2;have hG:=z4q ls k j
    by_cases Hf:j<ls.length
    ·obtain⟨b,off,rfl,hb,Gj⟩:=H9 o_
     obtain⟨k0,k1⟩:=Gj j Hf;obtain⟨b1,b2⟩:=fE j Hf;have q0:=(Hb.cell (p:=⟨b,off+j*2,none⟩) hb).trans k0;have q1:=(Hb.cell (p:=⟨b,off+j*2+1,none⟩) hb).trans k1;have ct:(0:Int)<=(j:Int):=o_
     have Cq:(j:Int)<(ls.length:Int):=o_
     have p1:w.heap.size+1<wr.heap.size:=o_
     clear k0 k1 Gj H9;have HS:Hid (lwo ls k (j+1)=if (ndI ls j).1≠k/\(ndI ls j).2≠k then lwo ls k j++[(dnI k (ndI ls j).1,dnI k (ndI ls j).2)] else lwo ls k j):=h_ rfl;generalize lwo ls k j=G at*;generalize (ndI ls j).1=X at*;generalize (ndI ls j).2=Y at*
     by_cases hx:X=k
     ·have GW:Hid (lwo ls k (j+1)=G):=h_ (by rw[HS.out,aaq (fun h=>h.1 hx)])
      have e1:(X != k)=false:=by simp[hx]
      clear hx HS;have HB:Hid (Below w.heap.size w (wr.alloc (.cells #[.int .i64 X,.int .i64 Y] 108))):=h_ bel_;go_wp2;go_roundw
      case rel=>exact⟨j+1,by omega,by go_num,A',c',by rw[GW.out];exact ho.alloc _,cU.alloc _,by rw[GW.out];exact bz,hA.alloc _,hK.alloc _,hR.alloc _,by rw[GW.out];exact hO.alloc _,HB.out⟩
      case measure=>simp[intOf];omega
     ·have e1:(X != k)=true:=by simp[hx]
      by_cases hy:Y=k
      ·have GW:Hid (lwo ls k (j+1)=G):=h_ (by rw[HS.out,aaq (fun h=>h.2 hy)])
       have e2:(Y != k)=false:=by simp[hy]
       clear hx hy HS;have HB:Hid (Below w.heap.size w (wr.alloc (.cells #[.int .i64 X,.int .i64 Y] 108))):=h_ bel_;go_wp2;go_roundw
       case rel=>exact⟨j+1,by omega,by go_num,A',c',by rw[GW.out];exact ho.alloc _,cU.alloc _,by rw[GW.out];exact bz,hA.alloc _,hK.alloc _,hR.alloc _,by rw[GW.out];exact hO.alloc _,HB.out⟩
       case measure=>simp[intOf];omega
      ·have GW:Hid (lwo ls k (j+1)=G++[(dnI k X,dnI k Y)]):=h_ (by rw[HS.out,aao ⟨hx,hy⟩])
       have e2:(Y != k)=true:=by simp[hy]
       clear hx hy HS
       go_wp2_with fail
       have Hq:∀b,(Value.slice A' G.length c').ownBlock =some b->w.heap.size+1+1+1+1<=b/\b<wr.heap.size:=fun b hb=>ho.lt b hb
       have HKC:=h_ (fun (u:World) (h:u.cell? ⟨w.heap.size+1,0,none⟩=some (.int .i64 k))=>z1G X k (w.heap.size+1) u h b1);have HKD:=h_ (fun (u:World) (h:u.cell? ⟨w.heap.size+1,0,none⟩=some (.int .i64 k))=>z1G Y k (w.heap.size+1) u h b2);have HO':=h_ ho;have HKB:=h_ hK;have HOB:=h_ hO;generalize hdx:dnI k X=DX at*;generalize hdy:dnI k Y=DY at*;clear ho hK hO hdx hdy;refine vE (n:=14) (S:=fun w'=>w'.cell? ⟨wr.heap.size,0,none⟩=some (.int .i64 X)/\w'.cell? ⟨wr.heap.size,1,none⟩=some (.int .i64 Y)/\w'.cell? ⟨w.heap.size+1,0,none⟩=some (.int .i64 k)/\w'.cell? ⟨w.heap.size+1+1+1,1,none⟩=some (.slice A' G.length c')) k_ ⟨by simp,by simp,((HKB.out.alloc _).drew).cell 0,((HOB.out.alloc _).drew).cell 1⟩ (fun hS=>?_)
       (refine zw (i:=0) (v:=?_) rfl rfl k_ k_ k_ k_ (fun _ _ _ h=>h) (Or.inl ⟨by rfl,?_⟩) (by assumption) ?_);rotate_left;(focus (intro w' gh;(try dsimp only at gh);go_simp;(try with_reducible rfl)));(try simp only[Act.put,abi,aal,aap])
       (refine zw (i:=1) (v:=?_) rfl rfl k_ k_ k_ k_ (fun _ _ _ h=>h) (Or.inl ⟨by rfl,?_⟩) (by assumption) ?_);rotate_left;(focus (intro w' gh;(try dsimp only at gh);go_simp;(try with_reducible rfl)));(try simp only[Act.put,abi,aal,aap])
       (refine zw (i:=2) (v:=?_) rfl rfl k_ k_ k_ k_ (fun _ _ _ h=>h) (Or.inl ⟨by rfl,?_⟩) (by assumption) ?_);rotate_left;(focus (intro w' gh;(try dsimp only at gh);go_simp;(try with_reducible rfl)));(try simp only[Act.put,abi,aal,aap])
       (refine zw (i:=3) (v:=?_) rfl rfl k_ k_ k_ k_ (fun _ _ _ h=>h) (Or.inl ⟨by rfl,?_⟩) (by assumption) ?_);rotate_left;(focus (intro w' gh;(try dsimp only at gh);go_simp;(try with_reducible rfl)));(try simp only[Act.put,abi,aal,aap])
       (refine zw (i:=4) (v:=?_) rfl rfl k_ k_ k_ k_ (fun _ _ _ h=>h) (Or.inl ⟨by rfl,?_⟩) (by assumption) ?_);rotate_left;(focus (intro w' gh;(try dsimp only at gh);go_simp;(try with_reducible rfl)));(try simp only[Act.put,abi,aal,aap])
       (refine zw (i:=6) (v:=?_) rfl rfl k_ k_ k_ k_ (fun _ _ _ h=>h) (Or.inl ⟨by rfl,?_⟩) (by assumption) ?_);rotate_left;(focus (intro w' gh;(try dsimp only at gh);go_simp;(try with_reducible rfl)));(try simp only[Act.put,abi,aal,aap])
       (refine zw (i:=7) (v:=?_) rfl rfl k_ k_ k_ k_ (fun _ _ _ h=>h) (Or.inl ⟨by rfl,?_⟩) (by assumption) ?_);rotate_left;(focus (intro w' gh;(try dsimp only at gh);go_simp;(try with_reducible rfl)));(try simp only[Act.put,abi,aal,aap])
       (refine zw (i:=8) (v:=?_) rfl rfl k_ k_ k_ k_ (fun _ _ _ h=>h) (Or.inl ⟨by rfl,?_⟩) (by assumption) ?_);rotate_left;(focus (intro w' gh;(try dsimp only at gh);go_simp;(try with_reducible rfl)));(try simp only[Act.put,abi,aal,aap])
       (refine qM (i:=5) rfl k_ (fun K hK=>?_));(rw[aao (by rfl)])
       go_simp
       go_at_call 251
       refine(HKC.out _ hS.2.2.1).mono ?_
       rintro e w5 ⟨rfl,rfl⟩
       go_wp2_with fail
       refine hK _ _ (fun _=>hS) (fun _=>?_)
       clear hK K
       (try simp only[Act.put,abi,aal,aap])
       (refine qM (i:=9) rfl k_ (fun K hK=>?_));(rw[aao (by rfl)])
       go_simp
       go_at_call 251
       refine(HKD.out _ hS.2.2.1).mono ?_
       rintro e w5 ⟨rfl,rfl⟩
       go_wp2_with fail
       refine hK _ _ (fun _=>hS) (fun _=>?_)
       clear hK K
       (try simp only[Act.put,abi,aal,aap])
       (refine zw (i:=10) (v:=?_) rfl rfl k_ k_ k_ k_ (fun _ _ _ h=>h) (Or.inl ⟨by rfl,?_⟩) (by assumption) ?_);rotate_left;(focus (intro w' gh;(try dsimp only at gh);go_simp;(try with_reducible rfl)));(try simp only[Act.put,abi,aal,aap])
       (refine qM (i:=11) rfl k_ (fun K hK=>?_));(rw[aao (by rfl)])
       go_simp;have HLB:=h_ (Blk.newAt (w:=wr) (g:=wr.heap.size) (t:=108) (cs:= #[.int .i64 X,.int .i64 Y]) rfl);refine hK _ _ (fun _=>⟨(HLB.out.alloc _).cell 0,(HLB.out.alloc _).cell 1,((HKB.out.alloc _).alloc _).cell 0,((HOB.out.alloc _).alloc _).cell 1⟩) (fun gp=>?_)
       clear hK K hS gp
       (try simp only[Act.put,abi,aal,aap])
       (refine qM (i:=12) rfl k_ (fun K hK=>?_))
       refine zk rfl _ _ _ rfl (w.heap.size+1+1+1+1) 108 j0 Tryz.underlying25 hj jz0 jz1 jz2 (.slice A' G.length c') _ G [(DX,DY)] rfl rfl (((HO'.out.alloc _).alloc _).drew) (z0J (by simp) rfl rfl rfl (by simp[maxLen])) (by simp;omega) (by simp;omega) ?_
       intro A3 c3 w3 Hm gn GT;have RH:=((HLB.out.alloc (.cells #[.int .i64 DX,.int .i64 DY] 108)).drew).grownR gn (fun b hb=>by have:=(Hq b hb).2;omega);have cj:=(((hA.alloc (.cells #[.int .i64 X,.int .i64 Y] 108)).alloc (.cells #[.int .i64 DX,.int .i64 DY] 108)).drew).grownR gn (fun b hb=>by have:=(Hq b hb).1;omega);have Np:=(((HKB.out.alloc (.cells #[.int .i64 X,.int .i64 Y] 108)).alloc (.cells #[.int .i64 DX,.int .i64 DY] 108)).drew).grownR gn (fun b hb=>by have:=(Hq b hb).1;omega);have gZ:=(((hR.alloc (.cells #[.int .i64 X,.int .i64 Y] 108)).alloc (.cells #[.int .i64 DX,.int .i64 DY] 108)).drew).grownR gn (fun b hb=>by have:=(Hq b hb).1;omega);have GH:=(((HOB.out.alloc (.cells #[.int .i64 X,.int .i64 Y] 108)).alloc (.cells #[.int .i64 DX,.int .i64 DY] 108)).drew).grownR gn (fun b hb=>by have:=(Hq b hb).1;omega);have gq:Below w.heap.size w w3:=(((Hb.alloc o_ _).alloc sz_ _).drew).grown gn sz_ (fun b hb=>by have:=(Hq b hb).1;omega);have mH:=(((cU.alloc (.cells #[.int .i64 X,.int .i64 Y] 108)).alloc (.cells #[.int .i64 DX,.int .i64 DY] 108)).drew).apart gn (fun b h1 h2=>bz b h1 h2)
       have wk:∀b,(Value.slice A NN.length c).ownBlock =some b->(Value.slice A3 (G++[(DX,DY)]).length c3).ownBlock =some b->False:=fun b h1 h2=>by
        have h3:=(cU.lt b h1).2
        rcases GT with h|h
        ·rw[h] at h2;exact bz b h1 h2
        ·rw[h] at h2;cases h2;simp at h3;omega
       clear GT gn;refine hK _ _ (fun _=>⟨RH.cell 0,RH.cell 1,Np.cell 0,GH.cell 1⟩) (fun gp=>?_)
       have FC:=gp (by decide);clear hK K gp
       (try simp only[Act.put,abi,aal,aap])
       (refine zw (i:=13) (v:=?_) rfl rfl k_ k_ k_ k_ (fun _ _ _ h=>h) (Or.inl ⟨by rfl,?_⟩) (by assumption) ?_);rotate_left;(focus (intro w' gh;(try dsimp only at gh);go_simp;(try with_reducible rfl)));(try simp only[Act.put,abi,aal,aap])
       clear a_0 a_1 kk o_0 o_1 o_f0 o_f1 q0 q1;obtain⟨o_0,o_1,o_f0,o_f1⟩:=GH.b2;have cY:Hid (OwnP 108 (w.heap.size+1+1+1+1) (w3.setCell ⟨w.heap.size+1+1+1,1,none⟩ (.slice A3 (G.length+1) c3)) (.slice A3 (G++[(DX,DY)]).length c3) (G++[(DX,DY)])):=h_ (OwnP.setLow (by simpa using Hm) (show w.heap.size+1+1+1<w.heap.size+1+1+1+1 by omega) _);have HN4:Hid (OwnP 106 (w.heap.size+1+1+1+1) (w3.setCell ⟨w.heap.size+1+1+1,1,none⟩ (.slice A3 (G.length+1) c3)) (.slice A NN.length c) NN):=h_ (OwnP.setLow mH (show w.heap.size+1+1+1<w.heap.size+1+1+1+1 by omega) _);have HA4:=h_ (cj.far (p:=⟨w.heap.size+1+1+1,1,none⟩) (show ¬w.heap.size=w.heap.size+1+1+1 by omega) (.slice A3 (G.length+1) c3));have HK4:=h_ (Np.far (p:=⟨w.heap.size+1+1+1,1,none⟩) (show ¬w.heap.size+1=w.heap.size+1+1+1 by omega) (.slice A3 (G.length+1) c3));have Mg:=h_ (gZ.far (p:=⟨w.heap.size+1+1+1,1,none⟩) (show ¬w.heap.size+1+1=w.heap.size+1+1+1 by omega) (.slice A3 (G.length+1) c3))
       have Cl:Hid (Blk (w3.setCell ⟨w.heap.size+1+1+1,1,none⟩ (.slice A3 (G.length+1) c3)) (w.heap.size+1+1+1) 27 #[.slice A NN.length c,.slice A3 (G++[(DX,DY)]).length c3]):=h_ (by
        rw[show(G++[(DX,DY)]).length =G.length+1 by simp];exact GH.set_ 1 _)
       have BQ:=h_ (gq.setCell (p:=⟨w.heap.size+1+1+1,1,none⟩) (show w.heap.size<=w.heap.size+1+1+1 by omega) (.slice A3 (G.length+1) c3));have RJ:=h_ wk;clear Hm cj Np gZ GH gq RH mH wk bz hA hR Hb cU
       (refine qM (i:=14) rfl k_ (fun K hK=>?_));(rw[aao (by rfl)])
       go_simp;refine hK _ _ (fun h=>absurd rfl h) (fun _=>?_)
       clear hK K FC
       (try simp only[Act.put,abi,aal,aap])
       refine kX k_ ?_ _
       go_wp2;go_roundw
       case rel=>exact⟨j+1,by omega,by go_num,A3,c3,by rw[GW.out];exact cY.out,HN4.out,by rw[GW.out];exact RJ.out,HA4.out,HK4.out,Mg.out,by rw[GW.out];exact Cl.out,BQ.out⟩
       case measure=>simp[intOf];omega
    ·have GP:j=ls.length:=o_
     subst GP;have cY:=h_ ho;have HN4:=h_ cU;have RJ:=h_ bz;have HB:=h_ Hb;generalize lwo ls k ls.length=LL at*;clear ho cU bz Hb H9 hG hn hl;obtain⟨r_0,r_1,r_f0,r_f1⟩:=hR.b2;have Ht:w.heap.size<=w.heap.size+1+1:=o_
     go_wp2;exact bodyPost_ret (v:= .agg #[.slice A NN.length c,.slice A' LL.length c']) (by simp[results,Tryz.results219,go_sem, *]) rfl ⟨_,_,_,_,rfl,⟨((HN4.out.setLow (p:=⟨w.heap.size+1+1,0,none⟩) sz_ _).setLow (p:=⟨w.heap.size+1+1,1,none⟩) sz_ _).mono o_,((cY.out.setLow (p:=⟨w.heap.size+1+1,0,none⟩) sz_ _).setLow (p:=⟨w.heap.size+1+1,1,none⟩) sz_ _).mono o_,RJ.out⟩,(HB.out.setCell (by simp;omega) _).setCell (by simp;omega) _⟩
attribute [local go_sem ↓] zr zt zR zQ
noncomputable def joinX (ls:List Pr) (k:Int) (p q:Nat):Pr:=(mn2 (othI (ndI ls p) k) (othI (ndI ls q) k),mx2 (othI (ndI ls p) k) (othI (ndI ls q) k))
noncomputable def Xm (ls:List Pr) (k:Int):List Pr:=match atN ls k ls.length with
 | [p,q]=>(ls.set p (joinX ls k p q)).take q++(ls.set p (joinX ls k p q)).drop (q+1)
 |_=>ls
noncomputable def xe (ns:List Pr) (k:Int):List Pr:=nwo ns k ns.length
noncomputable def xv (ls:List Pr) (k:Int):List Pr:=lwo (Xm ls k) k (Xm ls k).length
noncomputable def z9C (ns ls:List Pr) (k:Int):Bool:=zT ns ls k&&winB (xe ns k) (xv ls k)
noncomputable def qo (ns ls:List Pr) (k:Int):List Pr:=if z9C ns ls k then xe ns k else ns
noncomputable def qp (ns ls:List Pr) (k:Int):List Pr:=if z9C ns ls k then xv ls k else ls
theorem z3q (w:World) (p p':Addr) (u u':Value) (h:p'.block=p.block):w.grownBy ((w.setCell p u).setCell p' u') (some p.block):=
 ⟨rfl,rfl,rfl,by simp[World.setCell],fun i hi gd=>(Below.heap_setCell _ p' u' i (fun e=>gd (by rw[e,h]))).trans (Below.heap_setCell w p u i (fun e=>gd (by rw[e])))⟩
theorem QO (vn vl:Value) (ns ls:List Pr) (k:Int) (b:Bool) (w:World) (hn:RP w vn ns) (hl:RP w vl ls) (hb:zT ns ls k=b):
  CB_ 216 #[.agg #[vn,vl],.int .i64 k] w (.bool b):=by
 subst hb;exact zbn vn vl ns ls k w hn hl
theorem z6C (vn vl:Value) (ns ls:List Pr) (k:Int) (w:World) (hn:RP w vn ns) (hl:RP w vl ls) (h1:ns.length<=1048576) (h2:ls.length<=1048576) (hw:zT ns ls k=false):
  Calls Tryz.prog 163 #[.agg #[vn,vl],.int .i64 k] w (zG ns ls false w):=by
 go_enter Tryz.func163,Tryz.ntmps163
 go_wp2_with fail
 refine(qn _ _ ns ls _ (hn.below bel_) (hl.below bel_) h1 h2).mono ?_
 rintro e w1 ⟨An1,cn1,Al1,cl1,rfl,Hi,h9⟩;have Ht:=h9.size;simp at Ht
 have H7:OwnW (w.heap.size+1+1) w1 (.slice An1 ns.length cn1) (.slice Al1 ls.length cl1) ns ls:=by simpa using Hi
 have GM:Blk w1 w.heap.size 27 #[vn,vl]:=Blk.below ((Blk.newAt rfl).alloc _) h9 sz_;have Hx:Blk w1 (w.heap.size+1) 27 #[.slice none 0 0,.slice none 0 0]:=Blk.below (Blk.newAt (by simp)) h9 sz_;have h8:Below w.heap.size w w1:=bel_
 have n1:w.heap.size<w1.heap.size:=o_
 have n2:w.heap.size+1<w1.heap.size:=o_
 obtain⟨a_0,a_1⟩:=GM.c2;have hbs:Below w1.heap.size w1 (w1.alloc (.cells #[.slice An1 ns.length cn1,.slice Al1 ls.length cl1] 27)):=bel_
 have Gl:Below w.heap.size w (w1.alloc (.cells #[.slice An1 ns.length cn1,.slice Al1 ls.length cl1] 27)):=bel_
 go_wp2_with fail
 refine(QO _ _ ns ls _ _ _ (hn.below Gl) (hl.below Gl) hw).mono ?_
 rintro e w2 ⟨rfl,Hd⟩;have gu:Below w1.heap.size w1 w2:=hbs.trans (Hd.mono hbs.size);have fk:Blk w2 w1.heap.size 27 #[.slice An1 ns.length cn1,.slice Al1 ls.length cl1]:=Blk.below (Blk.newAt rfl) Hd sz_;have gg:=Hx.below gu n2;have Hk:=H7.kept gu;have Ha:Below w.heap.size w w2:=h8.trans (gu.mono h8.size);obtain⟨s_0,s_1,s_f0,s_f1⟩:=fk.b2;obtain⟨r_0,r_1,r_f0,r_f1⟩:=gg.b2;have hO:=h_ (((Hk.setLow (p:=⟨w.heap.size+1,0,none⟩) sz_ (.slice An1 ns.length cn1)).setLow (p:=⟨w.heap.size+1,1,none⟩) sz_ (.slice Al1 ls.length cl1)).mono (show w.heap.size<=_ by omega));have HB:=h_ ((Ha.setCell (p:=⟨w.heap.size+1,0,none⟩) sz_ (.slice An1 ns.length cn1)).setCell (p:=⟨w.heap.size+1,1,none⟩) sz_ (.slice Al1 ls.length cl1));generalize w1.heap.size=B1 at*;go_wp2;exact bodyPost_ret (v:= .tuple #[.agg #[.slice An1 ns.length cn1,.slice Al1 ls.length cl1],.bool false]) (by simp[results,Tryz.results163,go_sem,r_0,r_1,s_0,s_1]) rfl ⟨_,_,_,_,rfl,hO.out,HB.out⟩
theorem z4E (vn vl:Value) (ns ls:List Pr) (m p q t u:Nat) (w:World) (hn:RP w vn ns) (hl:RP w vl ls) (h1:ns.length<=1048576) (h2:ls.length<=1048576) (hw:zT ns ls m=true) (hk:hasN ns ls m=true)
  (eG:atN ls m ls.length=[p,q]) (hp:p<ls.length) (hq:q<ls.length) (eE:yO ls m (atN ls m ls.length)=[(t:Int),(u:Int)])
  (fE:∀j:Nat,j<((ls.set p (mn2 (t:Int) u,mx2 (t:Int) u)).take q++(ls.set p (mn2 (t:Int) u,mx2 (t:Int) u)).drop (q+1)).length ->(-1000000<=(ndI ((ls.set p (mn2 (t:Int) u,mx2 (t:Int) u)).take q++(ls.set p (mn2 (t:Int) u,mx2 (t:Int) u)).drop (q+1)) j).1/\(ndI ((ls.set p (mn2 (t:Int) u,mx2 (t:Int) u)).take q++(ls.set p (mn2 (t:Int) u,mx2 (t:Int) u)).drop (q+1)) j).1<=1000000)/\(-1000000<=(ndI ((ls.set p (mn2 (t:Int) u,mx2 (t:Int) u)).take q++(ls.set p (mn2 (t:Int) u,mx2 (t:Int) u)).drop (q+1)) j).2/\(ndI ((ls.set p (mn2 (t:Int) u,mx2 (t:Int) u)).take q++(ls.set p (mn2 (t:Int) u,mx2 (t:Int) u)).drop (q+1)) j).2<=1000000)):
  Calls Tryz.prog 163 #[.agg #[vn,vl],.int .i64 m] w (fun e w'=>zG (qo ns ls m) (qp ns ls m) (z9C ns ls m) w e w'):=by
 obtain⟨j0,hj,jz0,jz1,jz2⟩:=info_parts jb;have Cm:=h_ eE;have Fg:=h_ eG;clear eE eG
 go_enter Tryz.func163,Tryz.ntmps163
 go_wp2_with fail
 refine(qn _ _ ns ls _ (hn.below bel_) (hl.below bel_) h1 h2).mono ?_
 rintro e w1 ⟨An1,cn1,Al1,cl1,rfl,Hi,h9⟩;have Ht:=h9.size;simp at Ht
 have H7:OwnW (w.heap.size+1+1) w1 (.slice An1 ns.length cn1) (.slice Al1 ls.length cl1) ns ls:=by simpa using Hi
 have Hp:=H7.lt;have GM:Blk w1 w.heap.size 27 #[vn,vl]:=Blk.below ((Blk.newAt rfl).alloc _) h9 sz_;have Hx:Blk w1 (w.heap.size+1) 27 #[.slice none 0 0,.slice none 0 0]:=Blk.below (Blk.newAt (by simp)) h9 sz_;have h8:Below w.heap.size w w1:=bel_
 clear h9 Hi;have n1:w.heap.size<w1.heap.size:=o_
 have n2:w.heap.size+1<w1.heap.size:=o_
 obtain⟨a_0,a_1⟩:=GM.c2;have hbs:Below w1.heap.size w1 (w1.alloc (.cells #[.slice An1 ns.length cn1,.slice Al1 ls.length cl1] 27)):=bel_
 have Gl:Below w.heap.size w (w1.alloc (.cells #[.slice An1 ns.length cn1,.slice Al1 ls.length cl1] 27)):=bel_
 go_wp2_with fail
 refine(QO _ _ ns ls _ _ _ (hn.below Gl) (hl.below Gl) hw).mono ?_
 rintro e w2 ⟨rfl,Hd⟩;have Gh:=Hd.size;(try simp at Gh);(try have gI:=p0_ w w2);(try have gJ:=p1_ w w2);(try have GS:=p2_ w w2)
 have gu:Below w1.heap.size w1 w2:=hbs.trans (Hd.mono hbs.size);have fk:Blk w2 w1.heap.size 27 #[.slice An1 ns.length cn1,.slice Al1 ls.length cl1]:=Blk.below (Blk.newAt rfl) Hd sz_;have gg:=Hx.below gu n2;have Ft:=GM.below gu n1;have Hk:=H7.kept gu;have Ha:Below w.heap.size w w2:=h8.trans (gu.mono h8.size);clear Hd hbs Gl gu GM Hx H7 h8 a_0 a_1;have n1:w.heap.size<w2.heap.size:=Ft.lt;have n3:w1.heap.size<w2.heap.size:=fk.lt;obtain⟨a_0,a_1⟩:=Ft.c2
 go_wp2_with fail
 refine(Xf _ _ ns ls _ _ (hn.below Ha) (hl.below Ha) hk).mono ?_
 rw[Cm.out];rintro e w3 ⟨v3,rfl,Hm,He⟩;have G5:=He.size;have cj:=Ft.below He n1;have gZ:=gg.below He gg.lt;have FC:=fk.below He n3;have wm:=Hk.kept He;have Hc:=Ha.trans (He.mono Ha.size);obtain⟨A3,c3,e3,Gy,_,fR⟩:=Hm.reads.form;subst e3;obtain⟨b3,o3,rfl,wn,cF⟩:=fR (by simp);have x0:=cF 0 (by simp);have x1:=cF 1 (by simp);simp only[List.getD_cons_zero,List.getD_cons_succ,aaf,aaU,List.length_nil,aaF] at x0 x1 Gy
 clear fR cF He Ft gg fk Hk Ha a_0 a_1 Hm;obtain⟨a_0,a_1⟩:=cj.c2;have n1:w.heap.size<w3.heap.size:=cj.lt
 go_wp2_with fail
 refine(kC _ _ ns ls _ _ (hn.below Hc) (hl.below Hc) hk).mono ?_
 rw[Fg.out];rintro e w4 ⟨v4,rfl,gH,Hw⟩;have bv:=Hw.size;have mt:=cj.below Hw n1;have fF:=gZ.below Hw gZ.lt;have Bp:=FC.below Hw FC.lt;have wo:=wm.kept Hw;have Hn:=Hc.trans (Hw.mono Hc.size);have x0':=(Hw.cell (p:=⟨b3,o3,none⟩) wn).trans x0;have x1':=(Hw.cell (p:=⟨b3,o3+1,none⟩) wn).trans x1;obtain⟨A4,c4,e4,FG,_,Gf⟩:=gH.reads.form;subst e4;obtain⟨b4,o4,rfl,MD,fm⟩:=Gf (by simp[natI]);have y0:=fm 0 (by simp[natI]);have y1:=fm 1 (by simp[natI]);simp only[natI,aaS,aaT,List.getD_cons_zero,List.getD_cons_succ,aaf,aaU,List.length_nil,aaF] at y0 y1 FG
 clear Gf fm Hw cj gZ FC wm Hc a_0 a_1 gH x0 x1;have hb3'':b3<w4.heap.size:=o_
 obtain⟨a_0,a_1⟩:=mt.c2;have n1:w.heap.size<w4.heap.size:=mt.lt
 go_wp2_with fail
 rw[show(natI [p,q]).length =2 from rfl];refine(qn _ _ ns ls _ (hn.below Hn) (hl.below Hn) h1 h2).mono ?_
 rintro e w5 ⟨An5,cn5,Al5,cl5,rfl,fG,H0⟩;have UW:=H0.size;have cD:=mt.below H0 n1;have fL:=fF.below H0 fF.lt;have mF:=Bp.below H0 Bp.lt;have wu:=wo.kept H0;have Hv:=Hn.trans (H0.mono Hn.size);have x0:=(H0.cell (p:=⟨b3,o3,none⟩) hb3'').trans x0';have x1:=(H0.cell (p:=⟨b3,o3+1,none⟩) hb3'').trans x1';have y0':=(H0.cell (p:=⟨b4,o4,none⟩) MD).trans y0;have y1':=(H0.cell (p:=⟨b4,o4+1,none⟩) MD).trans y1
 rcases FB:fG.2.1.2 with ⟨_,h0⟩|⟨g,cap,cur,e1,Ce,hh,CC,Bh,fN⟩
 ·omega
 cases e1
 clear FB hh fN cur Bh;have CM:=fG.lt;clear H0 mt fF Bp wo Hn a_0 a_1 x0' x1' y0 y1;have n2:w.heap.size+1<w5.heap.size:=fL.lt;have n3:w1.heap.size<w5.heap.size:=mF.lt;have hb3''':b3<w5.heap.size:=o_
 have hb4''':b4<w5.heap.size:=o_
 obtain⟨UZ,hgw5⟩:=CM g (.inr rfl);have g1:¬b3=g:=o_
 have g2:¬b4=g:=o_
 have g3:¬w5.heap.size=g:=o_
 have g4:¬g=w5.heap.size:=o_
 have c1:(0:Int)<=(p:Int):=o_
 have c2:(p:Int)<(ls.length:Int):=o_
 go_wp2_with fail
 obtain⟨w6,F4⟩:∃w6,w6=w5.alloc (.cells #[.slice An5 ns.length cn5,.slice (some ⟨g,0,none⟩) ls.length cl5] 27):=⟨_,rfl⟩;have Ma:w6.heap.size=w5.heap.size+1:=by rw[F4];simp
 have Mu:Blk w6 _ _ _:=F4▸cD.alloc _;have fW:Blk w6 _ _ _:=F4▸fL.alloc _;have ro:Blk w6 _ _ _:=F4▸mF.alloc _;have Cy:Blk w6 w5.heap.size 27 #[.slice An5 ns.length cn5,.slice (some ⟨g,0,none⟩) ls.length cl5]:=F4▸Blk.newAt rfl;have wv:=F4▸wu.alloc (.cells #[.slice An5 ns.length cn5,.slice (some ⟨g,0,none⟩) ls.length cl5] 27);have G2:=F4▸fG.alloc (.cells #[.slice An5 ns.length cn5,.slice (some ⟨g,0,none⟩) ls.length cl5] 27);have mN:Below w5.heap.size w5 w6:=by rw[F4];exact bel_
 have gQ:=Hv.trans (mN.mono Hv.size);have x0':=(mN.cell (p:=⟨b3,o3,none⟩) hb3''').trans x0;have x1':=(mN.cell (p:=⟨b3,o3+1,none⟩) hb3''').trans x1;have y0:=(mN.cell (p:=⟨b4,o4,none⟩) hb4''').trans y0';have y1:=(mN.cell (p:=⟨b4,o4+1,none⟩) hb4''').trans y1';rw[<-F4];clear F4 mN cD fL mF wu fG Hv x0 x1 y0' y1';obtain⟨d0,d1⟩:=G2.2.1.cell hp;have d2:=G2.2.1.frz (p*2);have d3:=G2.2.1.frz (p*2+1);obtain⟨o_0,o_1,o_f0,o_f1⟩:=Cy.b2
 go_still_tail 21,k_
 change wpList _ _ _ _ _ w6.drew
 have HD:=h_ (G2.2.1.drew.set_ hp (mn2 (t:Int) u) (mx2 (t:Int) u));obtain⟨w7,bM⟩:∃w7,w7=((w6.setCell ⟨g,p*2,none⟩ (.int .i64 (mn2 (t:Int) u))).setCell ⟨g,p*2+1,none⟩ (.int .i64 (mx2 (t:Int) u))).drew :=⟨_,rfl⟩;have hz7:w7.heap.size=w6.heap.size:=by rw[bM];simp
 have ck:w6.drew.grownBy w7 (some g):=bM▸(show w6.drew.grownBy (((w6.setCell ⟨g,p*2,none⟩ (.int .i64 (mn2 (t:Int) u))).setCell ⟨g,p*2+1,none⟩ (.int .i64 (mx2 (t:Int) u))).drew) (some g) from z3q w6.drew ⟨g,p*2,none⟩ ⟨g,p*2+1,none⟩ _ _ rfl);have Mw:=Mu.drew.grownR ck (fun b hb=>by cases hb;omega);have Ch:=fW.drew.grownR ck (fun b hb=>by cases hb;omega);have Nz:=ro.drew.grownR ck (fun b hb=>by cases hb;omega);have C8:=Cy.drew.grownR ck (fun b hb=>by cases hb;omega);have MF:=OwnW.apart (w:=w6.drew) wv ck (fun b hb e=>by cases e;have:=(Hp _ hb).2;omega);have MG:=OwnP.apart (w:=w6.drew) G2.1 ck (fun b hb e=>by cases e;exact G2.2.2 _ hb rfl);have NA:=G2.2.2;have wy:∀b,(Value.slice An5 ns.length cn5).ownBlock =some b->b=w5.heap.size->False:=fun b hb e=>by have:=(CM b (.inl hb)).2;omega
 have MH:OwnP 108 w4.heap.size w7 (.slice (some ⟨g,0,none⟩) ls.length cl5) (ls.set p (mn2 (t:Int) u,mx2 (t:Int) u)):=bM▸(show OwnP 108 w4.heap.size (((w6.setCell ⟨g,p*2,none⟩ (.int .i64 (mn2 (t:Int) u))).setCell ⟨g,p*2+1,none⟩ (.int .i64 (mx2 (t:Int) u))).drew) _ _ from HD.out);have Gt:Below w.heap.size w w7:=(Below.drew gQ).grown ck (by have:=gQ.size;simpa using this) (fun b e=>by cases e;omega);have y1':=World.grownBy.cell ck (a:=⟨b4,o4+1,none⟩) (show w6.drew.cell? _=_ from y1) (fun e=>g2 (by cases e;rfl));have HW7:=h_ bM;clear bM HD ck Mu fW ro Cy G2 wv gQ x0' x1' y0 y1 o_0 o_1 o_f0 o_f1
 go_upto_region 8 with (fail)
 rw[<-HW7.out];clear HW7;obtain⟨o_0,o_1,o_f0,o_f1⟩:=C8.b2
 have HE:Hid (joinX ls m p q=(mn2 (t:Int) u,mx2 (t:Int) u)):=h_ (by
  have:=Cm.out;rw[Fg.out] at this;simp[yO] at this
  simp[joinX,this.1,this.2])
 have nH:(ls.set p (mn2 (t:Int) u,mx2 (t:Int) u)).length =ls.length:=by simp
 obtain⟨L1,rZ⟩:∃L1,L1=ls.set p (mn2 (t:Int) u,mx2 (t:Int) u):=⟨_,rfl⟩;rw[<-rZ] at nH MH;have wz:=h_ rZ;clear rZ;have nE:q<L1.length:=o_
 have mx:Hid ((L1.take q++L1.drop (q+1)).length =ls.length -1):=h_ (by simp;omega)
 go_cut [9] (fun s9 wx=>s9= .pointer (some ⟨w5.heap.size,0,none⟩)/\Blk wx w.heap.size 27 #[vn,vl]/\Blk wx (w.heap.size+1) 27 #[.slice none 0 0,.slice none 0 0]/\
   Blk wx w1.heap.size 27 #[.slice An1 ns.length cn1,.slice Al1 ls.length cl1]/\Blk wx w5.heap.size 27 #[.slice An5 ns.length cn5,.slice (some ⟨g,0,none⟩) (ls.length -1) cl5]/\
   OwnW (w.heap.size+1+1) wx (.slice An1 ns.length cn1) (.slice Al1 ls.length cl1) ns ls/\OwnW w4.heap.size wx (.slice An5 ns.length cn5) (.slice (some ⟨g,0,none⟩) (ls.length -1) cl5) ns (L1.take q++L1.drop (q+1))/\
   Below w.heap.size w wx/\w6.heap.size<=wx.heap.size)
 case first=>
  have c1:(q:Int)<=((cl5:Nat):Int):=o_
  have c2:(0:Int)<=(q:Int):=o_
  have c3:(q:Int)+1<=(ls.length:Int):=o_
  have c4:(ls.length:Int)<=((cl5:Nat):Int):=o_
  have BJ:IntKind.i64.wrap ((q:Int)+1)=(q:Int)+1:=aaP _ o_;have c5:(0:Int)<=(q:Int)+1:=o_
  have c6:((q:Int)+1).toNat =q+1:=o_
  by_cases G8:cl5=q+1
  ·subst G8
   have c1':(q:Int)<=(q:Int)+1:=o_
   go_still_tail 13,k_
   have bN:OwnP 108 w4.heap.size w7.drew (.slice (some ⟨g,0,none⟩) L1.length (q+1)) L1:=by rw[nH];exact MH.drew
   have Rn:=h_ bN;clear MH bN
   go_wp2_with (at_builtin;refine jH (c2:=0) rfl _ _ _ rfl w4.heap.size 108 j0 Tryz.underlying25 hj jz1 g (q+1) L1 q rfl (by rw[aao rfl,nH];rw[show ls.length -(q+1)=0 by omega];rfl) Rn.out nE ?_)
   intro w8 hcut G7;have wC:=C8.drew.grownR G7 (fun b hb=>by cases hb;omega);have wD:=(Mw.drew.grownR G7 (fun b hb=>by cases hb;omega)).far (p:=⟨w5.heap.size,1,none⟩) (show ¬w.heap.size=w5.heap.size by omega) (.slice (some ⟨g,0,none⟩) (ls.length -1) (q+1));have Mv:=(Ch.drew.grownR G7 (fun b hb=>by cases hb;omega)).far (p:=⟨w5.heap.size,1,none⟩) (show ¬w.heap.size+1=w5.heap.size by omega) (.slice (some ⟨g,0,none⟩) (ls.length -1) (q+1));have wF:=(Nz.drew.grownR G7 (fun b hb=>by cases hb;omega)).far (p:=⟨w5.heap.size,1,none⟩) (show ¬w1.heap.size=w5.heap.size by omega) (.slice (some ⟨g,0,none⟩) (ls.length -1) (q+1));have MI:=(OwnW.apart (w:=w7.drew) MF G7 (fun b hb e=>by cases e;have:=(Hp _ hb).2;omega)).setFar (p:=⟨w5.heap.size,1,none⟩) (fun h=>by have:=(Hp _ h).2;simp at this;omega) (.slice (some ⟨g,0,none⟩) (ls.length -1) (q+1));have MJ:=OwnP.apart (w:=w7.drew) MG G7 (fun b hb e=>by cases e;exact NA _ hb rfl);have MK:OwnW w4.heap.size w8 (.slice An5 ns.length cn5) (.slice (some ⟨g,0,none⟩) (ls.length -1) (q+1)) ns (L1.take q++L1.drop (q+1)):=⟨MJ,hcut,fun b hb Hd=>NA b hb Hd⟩
   have ML:=MK.setFar (p:=⟨w5.heap.size,1,none⟩) (by
    rintro(h|h)
    ·exact wy _ h rfl
    ·cases h;exact g3 rfl) (.slice (some ⟨g,0,none⟩) (ls.length -1) (q+1))
   have hz8:=G7.size;have BH:Below w.heap.size w w8:=(Below.drew Gt).grown G7 (by have:=Gt.size;simpa using this) (fun b e=>by cases e;omega);have cm:=BH.setCell (p:=⟨w5.heap.size,1,none⟩) (show w.heap.size<=w5.heap.size by omega) (.slice (some ⟨g,0,none⟩) (ls.length -1) (q+1));have NB:Blk (w8.setCell ⟨w5.heap.size,1,none⟩ (.slice (some ⟨g,0,none⟩) (ls.length -1) (q+1))) w5.heap.size 27 #[.slice An5 ns.length cn5,.slice (some ⟨g,0,none⟩) (ls.length -1) (q+1)]:=wC.set_ 1 _;have HZ:=h_ (show w6.heap.size<=(w8.setCell ⟨w5.heap.size,1,none⟩ (.slice (some ⟨g,0,none⟩) (ls.length -1) (q+1))).heap.size by simp at hz8⊢;omega);have RK:=h_ (And.intro wD (And.intro Mv (And.intro wF (And.intro NB (And.intro MI (And.intro ML cm))))));clear wD Mv wF NB MI MK ML BH cm MJ hcut Mw Ch Nz C8 MF MG Gt o_0 o_1 o_f0 o_f1 y1' G7;obtain⟨o_0,o_1,o_f0,o_f1⟩:=wC.b2;go_wp2;go_meet
   obtain⟨f1,f2,f3,f4,f5,f6,f7⟩:=RK.out;exact⟨rfl,f1,f2,f3,f4,f5,f6,f7,HZ.out⟩
  ·go_still_tail 13,k_
   have bN:OwnP 108 w4.heap.size w7.drew (.slice (some ⟨g,0,none⟩) L1.length cl5) L1:=by rw[nH];exact MH.drew
   have Rn:=h_ bN;clear MH bN
   go_wp2_with (at_builtin;refine jH (c2:=cl5 -(q+1)) rfl _ _ _ rfl w4.heap.size 108 j0 Tryz.underlying25 hj jz1 g (cl5) L1 q rfl (by rw[aaq G8,nH];rfl) Rn.out nE ?_)
   intro w8 hcut G7;have wC:=C8.drew.grownR G7 (fun b hb=>by cases hb;omega);have wD:=(Mw.drew.grownR G7 (fun b hb=>by cases hb;omega)).far (p:=⟨w5.heap.size,1,none⟩) (show ¬w.heap.size=w5.heap.size by omega) (.slice (some ⟨g,0,none⟩) (ls.length -1) (cl5));have Mv:=(Ch.drew.grownR G7 (fun b hb=>by cases hb;omega)).far (p:=⟨w5.heap.size,1,none⟩) (show ¬w.heap.size+1=w5.heap.size by omega) (.slice (some ⟨g,0,none⟩) (ls.length -1) (cl5));have wF:=(Nz.drew.grownR G7 (fun b hb=>by cases hb;omega)).far (p:=⟨w5.heap.size,1,none⟩) (show ¬w1.heap.size=w5.heap.size by omega) (.slice (some ⟨g,0,none⟩) (ls.length -1) (cl5));have MI:=(OwnW.apart (w:=w7.drew) MF G7 (fun b hb e=>by cases e;have:=(Hp _ hb).2;omega)).setFar (p:=⟨w5.heap.size,1,none⟩) (fun h=>by have:=(Hp _ h).2;simp at this;omega) (.slice (some ⟨g,0,none⟩) (ls.length -1) (cl5));have MJ:=OwnP.apart (w:=w7.drew) MG G7 (fun b hb e=>by cases e;exact NA _ hb rfl);have MK:OwnW w4.heap.size w8 (.slice An5 ns.length cn5) (.slice (some ⟨g,0,none⟩) (ls.length -1) (cl5)) ns (L1.take q++L1.drop (q+1)):=⟨MJ,hcut,fun b hb Hd=>NA b hb Hd⟩
   have ML:=MK.setFar (p:=⟨w5.heap.size,1,none⟩) (by
    rintro(h|h)
    ·exact wy _ h rfl
    ·cases h;exact g3 rfl) (.slice (some ⟨g,0,none⟩) (ls.length -1) (cl5))
   have hz8:=G7.size;have BH:Below w.heap.size w w8:=(Below.drew Gt).grown G7 (by have:=Gt.size;simpa using this) (fun b e=>by cases e;omega);have cm:=BH.setCell (p:=⟨w5.heap.size,1,none⟩) (show w.heap.size<=w5.heap.size by omega) (.slice (some ⟨g,0,none⟩) (ls.length -1) (cl5));have NB:Blk (w8.setCell ⟨w5.heap.size,1,none⟩ (.slice (some ⟨g,0,none⟩) (ls.length -1) (cl5))) w5.heap.size 27 #[.slice An5 ns.length cn5,.slice (some ⟨g,0,none⟩) (ls.length -1) (cl5)]:=wC.set_ 1 _;have HZ:=h_ (show w6.heap.size<=(w8.setCell ⟨w5.heap.size,1,none⟩ (.slice (some ⟨g,0,none⟩) (ls.length -1) (cl5))).heap.size by simp at hz8⊢;omega);have RK:=h_ (And.intro wD (And.intro Mv (And.intro wF (And.intro NB (And.intro MI (And.intro ML cm))))));clear wD Mv wF NB MI MK ML BH cm MJ hcut Mw Ch Nz C8 MF MG Gt o_0 o_1 o_f0 o_f1 y1' G7;obtain⟨o_0,o_1,o_f0,o_f1⟩:=wC.b2;go_wp2;go_meet
   obtain⟨f1,f2,f3,f4,f5,f6,f7⟩:=RK.out;exact⟨rfl,f1,f2,f3,f4,f5,f6,f7,HZ.out⟩
 case rest=>
  obtain⟨rfl,hA,hR,hS,hO,UB,nV,H8,YO⟩:=hcut;obtain⟨w8,rz⟩:∃w8:World,w8=wc:=⟨_,rfl⟩;subst rz;clear Mw Ch Nz C8 MF MG Gt o_0 o_1 o_f0 o_f1 y1';have n2:w.heap.size+1<w8.heap.size:=hR.lt;have n3:w1.heap.size<w8.heap.size:=hS.lt;have n5:w5.heap.size<w8.heap.size:=hO.lt
  have HM:Xm ls m=L1.take q++L1.drop (q+1):=by
   unfold Xm;rw[Fg.out,wz.out];simp only[HE.out]
  have cZ:Hid (xv ls m=lwo (L1.take q++L1.drop (q+1)) m (L1.take q++L1.drop (q+1)).length):=h_ (by unfold xv;rw[HM]);clear HM;rw[<-wz.out] at fE;obtain⟨L2,wG⟩:∃L2,L2=L1.take q++L1.drop (q+1):=⟨_,rfl⟩;rw[<-wG] at fE cZ nV mx;clear wG;have rm:L2.length<=1048576:=by have:=mx.out;omega
  obtain⟨bw,BR⟩:∃b,winB (xe ns m) (xv ls m)=b:=⟨_,rfl⟩;have fH:=h_ BR;have hC:winB (nwo ns m ns.length) (lwo L2 m L2.length)=bw:=by rw[<-cZ.out];exact BR
  clear BR;obtain⟨o_0,o_1,o_f0,o_f1⟩:=hO.b2
  go_wp2_with fail
  refine(z0Z _ _ ns L2 _ _ nV.1.reads nV.2.1.reads h1 rm fE).mono ?_
  rintro e w9 ⟨An9,cn9,Al9,cl9,rfl,ho9,cm⟩;have Bu:=hR.below cm n2;have hS9:=hS.below cm n3;have NB:=hO.below cm n5;have wH:=UB.kept cm;have bO:=H8.trans (cm.mono H8.size);clear cm hA hR hS hO UB nV H8 o_0 o_1 o_f0 o_f1 fE;obtain⟨N9,HN9⟩:∃N9,N9=nwo ns m ns.length:=⟨_,rfl⟩;obtain⟨L9,HL9⟩:∃L9,L9=lwo L2 m L2.length:=⟨_,rfl⟩;rw[<-HN9,<-HL9] at ho9 hC⊢;have HN9':=h_ HN9;have HL9':=h_ HL9;clear HN9 HL9;have e1:¬w.heap.size+1=w5.heap.size:=o_
  have e2:¬w1.heap.size=w5.heap.size:=o_
  have BS:=(Bu.far (p:=⟨w5.heap.size,0,none⟩) e1 (.slice An9 N9.length cn9)).far (p:=⟨w5.heap.size,1,none⟩) e1 (.slice Al9 L9.length cl9);have RL:=(hS9.far (p:=⟨w5.heap.size,0,none⟩) e2 (.slice An9 N9.length cn9)).far (p:=⟨w5.heap.size,1,none⟩) e2 (.slice Al9 L9.length cl9);have RM:Blk ((w9.setCell ⟨w5.heap.size,0,none⟩ (.slice An9 N9.length cn9)).setCell ⟨w5.heap.size,1,none⟩ (.slice Al9 L9.length cl9)) w5.heap.size 27 #[.slice An9 N9.length cn9,.slice Al9 L9.length cl9]:=(NB.set_ 0 _).set_ 1 _;have BT:=(ho9.setLow (p:=⟨w5.heap.size,0,none⟩) n5 (.slice An9 N9.length cn9)).setLow (p:=⟨w5.heap.size,1,none⟩) n5 (.slice Al9 L9.length cl9);have rA:=(wH.setFar (p:=⟨w5.heap.size,0,none⟩) (fun h=>by have:=(Hp _ h).2;simp at this;omega) (.slice An9 N9.length cn9)).setFar (p:=⟨w5.heap.size,1,none⟩) (fun h=>by have:=(Hp _ h).2;simp at this;omega) (.slice Al9 L9.length cl9);have Cz:=(bO.setCell (p:=⟨w5.heap.size,0,none⟩) (show w.heap.size<=w5.heap.size by omega) (.slice An9 N9.length cn9)).setCell (p:=⟨w5.heap.size,1,none⟩) (show w.heap.size<=w5.heap.size by omega) (.slice Al9 L9.length cl9);obtain⟨o_0,o_1,o_f0,o_f1⟩:=NB.b2;clear Bu hS9 NB wH bO ho9
  go_wp2_with fail
  refine(qa _ _ N9 L9 bw _ BT.1.reads BT.2.1.reads hC).mono ?_
  rintro e w11 ⟨rfl,BU⟩;have RO:=BS.below BU BS.lt;have RQ:=RL.below BU RL.lt;have RU:=RM.below BU RM.lt;have MM:=rA.kept BU;have RV:=BT.kept BU;have my:=Cz.trans (BU.mono Cz.size);clear BS RL RM rA BT Cz BU o_0 o_1 o_f0 o_f1;obtain⟨r_0,r_1,r_f0,r_f1⟩:=RO.b2;obtain⟨s_0,s_1,s_f0,s_f1⟩:=RQ.b2;obtain⟨o_0,o_1,o_f0,o_f1⟩:=RU.b2
  cases bw
  ·have EB:z9C ns ls m=false:=by unfold z9C;rw[fH.out,Bool.and_false]
   have EN:qo ns ls m=ns:=by unfold qo;rw[EB];rfl
   have EL:qp ns ls m=ls:=by unfold qp;rw[EB];rfl
   have cG:=h_ (((MM.setLow (p:=⟨w.heap.size+1,0,none⟩) (show w.heap.size+1<w.heap.size+1+1 by omega) (.slice An1 ns.length cn1)).setLow (p:=⟨w.heap.size+1,1,none⟩) (show w.heap.size+1<w.heap.size+1+1 by omega) (.slice Al1 ls.length cl1)).mono (show w.heap.size<=_ by omega));have HB:=h_ ((my.setCell (p:=⟨w.heap.size+1,0,none⟩) sz_ (.slice An1 ns.length cn1)).setCell (p:=⟨w.heap.size+1,1,none⟩) sz_ (.slice Al1 ls.length cl1));clear MM RV my RO RQ RU;generalize w1.heap.size=B1 at*;generalize w5.heap.size=B5 at*;go_wp2;exact bodyPost_ret (v:= .tuple #[.agg #[.slice An1 ns.length cn1,.slice Al1 ls.length cl1],.bool false]) (by simp[results,Tryz.results163,go_sem,r_0,r_1,s_0,s_1]) rfl (by show zG (qo ns ls m) (qp ns ls m) (z9C ns ls m) w _ _;rw[EB,EN,EL];exact zG.mk rfl rfl rfl cG.out HB.out)
  ·have EB:z9C ns ls m=true:=by unfold z9C;rw[fH.out,hw];rfl
   have EN:qo ns ls m=N9:=by unfold qo;rw[EB,HN9'.out];rfl
   have EL:qp ns ls m=L9:=by unfold qp;rw[EB,HL9'.out,<-cZ.out];rfl
   have cG:=h_ (((RV.setLow (p:=⟨w.heap.size+1,0,none⟩) (show w.heap.size+1<w8.heap.size by omega) (.slice An9 N9.length cn9)).setLow (p:=⟨w.heap.size+1,1,none⟩) (show w.heap.size+1<w8.heap.size by omega) (.slice Al9 L9.length cl9)).mono (show w.heap.size<=_ by omega));have HB:=h_ ((my.setCell (p:=⟨w.heap.size+1,0,none⟩) sz_ (.slice An9 N9.length cn9)).setCell (p:=⟨w.heap.size+1,1,none⟩) sz_ (.slice Al9 L9.length cl9));clear MM RV my RO RQ RU;generalize w1.heap.size=B1 at*;generalize w5.heap.size=B5 at*;go_wp2;exact bodyPost_ret (v:= .tuple #[.agg #[.slice An9 N9.length cn9,.slice Al9 L9.length cl9],.bool true]) (by simp[results,Tryz.results163,go_sem,r_0,r_1,o_0,o_1]) rfl (by show zG (qo ns ls m) (qp ns ls m) (z9C ns ls m) w _ _;rw[EB,EN,EL];exact zG.mk rfl rfl rfl cG.out HB.out)
end Go.Proofs.YtnjcpljhmhdhkaaGreat
