/- part 38 -/
import Derived.Test.YtnjcpljhmhdhkaaGreatEPk32
import Derived.Test.YtnjcpljhmhdhkaaGreatEPk37
import Derived.Deep.RegionHeld3
set_option linter.unusedSimpArgs false
set_option linter.unusedVariables false
set_option maxRecDepth 100000
set_option maxHeartbeats 16000000
namespace Go.Proofs.YtnjcpljhmhdhkaaGreat
open Go.RowKit
attribute [local go_sem ↓] zr zt zR zQ
theorem z1u {k:Int} (h0:0<=k) (h1:k<4):ze (Qc k) (Qi k)=true:=by
 have hs:=z1s k;unfold ze;rw[hs,aaR];have hk:k=0∨k=1∨k=2∨k=3:=o_
 rcases hk with rfl|rfl|rfl|rfl<;>decide+kernel
def z7c (Pw:List Pr->List Pr->Prop) (W0:World) (v:Value) (g:Nat) (w:World) (e:Ending) (w':World):Prop:=
 ∃ns ls An cn Al cl,e= .returned (.agg #[.slice An ns.length cn,.slice Al ls.length cl])/\Pw ns ls/\OwnW (w.heap.size+1) w' (.slice An ns.length cn) (.slice Al ls.length cl) ns ls/\zx W0 v g w'/\w.grownBy w' (some g)
theorem VQ (W0:World) (v:Value) (zs:List Int) (g:Nat) (w:World) (h:RB W0 v zs) (hle:zs.length<=1048576) (hc:zx W0 v g w):
  Calls Tryz.prog 258 #[.pointer (some ⟨g,0,none⟩)] w (z7c (fun ns ls=>ze ns ls=true) W0 v g w):=by
 have hgl:=hc.lt;have HC:=h_ hc;have Gq:=h_ h;clear h hc
 go_enter Tryz.func258,Tryz.ntmps258
 go_wp2
 go_loopw [3] (fun i wr=>∃k:Nat,k<=4/\i= .int .i64 k/\Blk wr w.heap.size 27 #[.slice none 0 0,.slice none 0 0]/\zx W0 v g wr/\w.grownBy wr (some g)) (fun i _=>4 -(intOf i).toNat)
 case atStart=>exact⟨0,by omega,rfl,Blk.newAt rfl,HC.out.alloc _,jf (World.grownBy.refl w (some g)) _⟩
 case round=>
  obtain⟨k,hk,rfl,hR,FN,G7⟩:=hrel;have Gw:=hR.lt
  by_cases Hf:k<4
  ·go_wp2_with fail
   refine(Vi W0 v zs g _ Gq.out hle FN).mono ?_
   rintro e w1 ⟨ns,ls,An,cn,Al,cl,rfl,Hh,Hi,gc,gD⟩;have Hx:=hR.grown gD o_;have bm:=zb G7 gD;obtain⟨w2,gR⟩:∃u,u=w1.alloc (.cells #[.slice An ns.length cn,.slice Al ls.length cl] 27):=⟨_,rfl⟩;have CJ:Blk w2 w1.heap.size 27 #[.slice An ns.length cn,.slice Al ls.length cl]:=gR▸Blk.newAt rfl;have Hk:=h_ (show OwnW (w.heap.size+1) w2 (.slice An ns.length cn) (.slice Al ls.length cl) ns ls from gR▸(Hi.mono (show w.heap.size+1<=_ by omega)).alloc _);have gg:Blk w2 w.heap.size 27 #[.slice none 0 0,.slice none 0 0]:=gR▸Hx.alloc _;have gE:zx W0 v g w2:=gR▸gc.alloc _;have Mn:w.grownBy w2 (some g):=gR▸jf bm _
   go_upto_region 5 with (fail)
   rw[<-gR];clear gR Hx bm gc gD Hi hR FN G7;generalize w1.heap.size=T at*;obtain⟨t_0,t_1⟩:=CJ.c2;obtain⟨bw,H8⟩:∃bw,ze ns ls=bw:=⟨_,rfl⟩;have fH:=h_ H8
   go_wp2_with fail
   refine(qR _ _ ns ls bw _ Hk.out.1.reads Hk.out.2.1.reads H8).mono ?_
   rintro e w3 ⟨rfl,He⟩;have bj:=CJ.below He CJ.lt;have gZ:=gg.below He gg.lt;have Gy:=gE.below He;have UR:=zX Mn He;have Hm:=h_ (Hk.out.kept He);clear He CJ gg gE Mn Hk t_0 t_1 H8;have hRl3:=gZ.lt
   cases bw
   ·go_wp2
    go_roundw
    case rel=>exact⟨k+1,by omega,by go_num,gZ,Gy,UR⟩
    case measure=>simp[intOf];omega
   ·obtain⟨t_0,t_1⟩:=bj.c2
    obtain⟨r_0,r_1,r_f0,r_f1⟩:=gZ.b2;have HO:=h_ ((Hm.out.setLow (p:=⟨w.heap.size,0,none⟩) (show w.heap.size<w.heap.size+1 by omega) (.slice An ns.length cn)).setLow (p:=⟨w.heap.size,1,none⟩) (show w.heap.size<w.heap.size+1 by omega) (.slice Al ls.length cl));have Fo:=h_ ((Gy.far (p:=⟨w.heap.size,0,none⟩) (show g<w.heap.size by omega) (.slice An ns.length cn)).far (p:=⟨w.heap.size,1,none⟩) (show g<w.heap.size by omega) (.slice Al ls.length cl));have Uk:=h_ (zy (p:=⟨w.heap.size,1,none⟩) (zy (p:=⟨w.heap.size,0,none⟩) UR (show w.heap.size<=w.heap.size by omega) (.slice An ns.length cn)) (show w.heap.size<=w.heap.size by omega) (.slice Al ls.length cl));clear bj gZ Gy UR Hm;go_wp2;exact bodyPost_ret (v:= .agg #[.slice An ns.length cn,.slice Al ls.length cl]) (by simp[results,Tryz.results258,go_sem,r_0,r_1,hRl3]) rfl ⟨ns,ls,An,cn,Al,cl,rfl,fH.out,HO.out,Fo.out,Uk.out⟩
  ·have gi:k=4:=o_
   subst gi
   go_wp2_with fail
   refine(zp W0 v zs g 4 _ Gq.out hle o_ FN).mono ?_
   rintro e w1 ⟨x,rfl,x0,x1,gc,gD⟩;have Hx:=hR.grown gD o_;have bm:=zb G7 gD;clear hR FN G7 gD
   go_wp2_with fail
   refine(JG x _).mono ?_
   rintro e w2 ⟨An,cn,Al,cl,rfl,Hk,Hd⟩;have fH:=h_ (z1u x0 x1);have gg:=Hx.below Hd Hx.lt;have gE:=gc.below Hd;have Mn:=zX bm Hd;have Hu:w.heap.size+1<=w1.heap.size:=Hx.lt;have Hm:=Hk.mono Hu;clear Hx gc bm Hd Hk;generalize Qc x=ns at*;generalize Qi x=ls at*;have hRl2:=gg.lt;obtain⟨r_0,r_1,r_f0,r_f1⟩:=gg.b2;have HO:=h_ ((Hm.setLow (p:=⟨w.heap.size,0,none⟩) (show w.heap.size<w.heap.size+1 by omega) (.slice An ns.length cn)).setLow (p:=⟨w.heap.size,1,none⟩) (show w.heap.size<w.heap.size+1 by omega) (.slice Al ls.length cl));have Fo:=h_ ((gE.far (p:=⟨w.heap.size,0,none⟩) (show g<w.heap.size by omega) (.slice An ns.length cn)).far (p:=⟨w.heap.size,1,none⟩) (show g<w.heap.size by omega) (.slice Al ls.length cl));have Uk:=h_ (zy (p:=⟨w.heap.size,1,none⟩) (zy (p:=⟨w.heap.size,0,none⟩) Mn (show w.heap.size<=w.heap.size by omega) (.slice An ns.length cn)) (show w.heap.size<=w.heap.size by omega) (.slice Al ls.length cl));clear gg gE Mn Hm;go_wp2;exact bodyPost_ret (v:= .agg #[.slice An ns.length cn,.slice Al ls.length cl]) (by simp[results,Tryz.results258,go_sem,r_0,r_1,hRl2]) rfl ⟨ns,ls,An,cn,Al,cl,rfl,fH.out,HO.out,Fo.out,Uk.out⟩
attribute [local go_sem ↓] zr zt zR zQ
theorem zbq (W0:World) (v:Value) (zs:List Int) (g:Nat) (w:World) (h:RB W0 v zs) (hle:zs.length<=1048576) (hc:zx W0 v g w):
  Calls Tryz.prog 238 #[.pointer (some ⟨g,0,none⟩)] w (z7c (fun ns ls=>zC ns ls/\0<ls.length) W0 v g w):=by
 have hgl:=hc.lt;have HC:=h_ hc;have Gq:=h_ h;clear h hc
 go_enter Tryz.func238,Tryz.ntmps238
 go_wp2_with fail
 refine(VQ W0 v zs g _ Gq.out hle (HC.out.alloc _)).mono ?_
 rintro e w1 ⟨ns,ls,An,cn,Al,cl,rfl,B7,Hi,gc,gD⟩;obtain⟨Hh,Md⟩:=zM B7;have Ht:=gD.size;simp at Ht
 have Hx:Blk w1 w.heap.size 27 #[.slice none 0 0,.slice none 0 0]:=(Blk.new w _ _).grown gD o_;have bm:=zb (jf (World.grownBy.refl w (some g)) (.cells #[.slice none 0 0,.slice none 0 0] 27)) gD;have Hp:=Hi.lt
 have Gv:Hid (WSt W0 v g w w1.heap.size (w1.alloc (.cells #[.slice An ns.length cn,.slice Al ls.length cl] 27)) An cn Al cl ns ls):=h_
  ⟨Hh,(Hi.mono (by simp)).alloc _,Blk.newAt rfl,Hx.alloc _,fun b hb e=>by have:=(Hp b hb).2;omega,gc.alloc _,jf bm _,by omega,hgl⟩
 clear B7 Hh Hx bm gc gD Hi Hp
 go_wp2_with fail
 refine(zp W0 v zs g 4 _ Gq.out hle o_ Gv.out.cur).mono ?_
 rintro e w3 ⟨k,rfl,k0,k1,Gy,gn⟩;have F8:=Gv.out.drawn Gy gn;clear Gv Gy gn;obtain⟨X,hX⟩:∃X,X=w1.heap.size:=⟨_,rfl⟩;rw[<-hX] at F8⊢;clear hX;obtain⟨kn,rfl⟩:∃kn:Nat,k=(kn:Int):=⟨k.toNat,by omega⟩;go_wp2
 go_loopw [4] (fun i wr=>∃(kn:Nat) (An:Option Addr) (cn:Nat) (Al:Option Addr) (cl:Nat) (ns ls:List Pr),i= .int .i64 kn/\kn<=4/\0<ls.length/\WSt W0 v g w X wr An cn Al cl ns ls) (fun i _=>(intOf i).toNat)
 case atStart=>exact⟨kn,An,cn,Al,cl,ns,ls,rfl,by omega,Md,F8⟩
 case round=>
  clear F8 Md;obtain⟨kn,An,cn,Al,cl,ns,ls,rfl,hk4,Md,F8⟩:=hrel;have Gv:=h_ F8;clear F8
  by_cases uz:kn=0
  ·subst uz
   have hR:=Gv.out.res;have hT:=Gv.out.box;obtain⟨t_0,t_1⟩:=hT.c2;obtain⟨r_0,r_1,r_f0,r_f1⟩:=hR.b2;have Gw:=hR.lt;have HO:=h_ ((Gv.out.own.setLow (p:=⟨w.heap.size,0,none⟩) (show w.heap.size<w.heap.size+1 by omega) (.slice An ns.length cn)).setLow (p:=⟨w.heap.size,1,none⟩) (show w.heap.size<w.heap.size+1 by omega) (.slice Al ls.length cl));have Fo:=h_ ((Gv.out.cur.far (p:=⟨w.heap.size,0,none⟩) (show g<w.heap.size by omega) (.slice An ns.length cn)).far (p:=⟨w.heap.size,1,none⟩) (show g<w.heap.size by omega) (.slice Al ls.length cl));have Uk:=h_ (zy (p:=⟨w.heap.size,1,none⟩) (zy (p:=⟨w.heap.size,0,none⟩) Gv.out.gr (show w.heap.size<=w.heap.size by omega) (.slice An ns.length cn)) (show w.heap.size<=w.heap.size by omega) (.slice Al ls.length cl));have HP:Hid (zC ns ls/\0<ls.length):=h_ ⟨Gv.out.win,Md⟩;clear hR hT Gv Md;go_wp2;exact bodyPost_ret (v:= .agg #[.slice An ns.length cn,.slice Al ls.length cl]) (by simp[results,Tryz.results238,go_sem,r_0,r_1,Gw]) rfl ⟨ns,ls,An,cn,Al,cl,rfl,HP.out,HO.out,Fo.out,Uk.out⟩
  ·have YI:(0:Int)<(kn:Int):=o_
   have hT:=Gv.out.box;have ft:(0:Int)<(ls.length:Int):=o_
   obtain⟨t_0,t_1⟩:=hT.c2
   go_wp2_with fail
   refine(zp W0 v zs g (ls.length:Int) _ Gq.out hle ft Gv.out.cur).mono ?_
   rintro e w4 ⟨i,rfl,i0,i1,FG,Gc⟩;have Gg:=h_ (Gv.out.drawn FG Gc);clear Gv hT t_0 t_1 FG Gc;obtain⟨m,rfl⟩:∃m:Nat,i=(m:Int):=⟨i.toNat,by omega⟩;have Gz:m<ls.length:=o_
   go_upto_region 6 with (fail)
   refine jm (n:=9) (S:=fun w'=>w'.cell? ⟨X,0,none⟩=some (.slice An ns.length cn)/\w'.cell? ⟨X,1,none⟩=some (.slice Al ls.length cl)) k_ ⟨Gg.out.box.cell 0,Gg.out.box.cell 1⟩ (fun hS=>?_)
   refine tE_ 0 rfl rfl ?_;(try simp only[Act.put,abi,aal,aap])
   refine tE_ 1 rfl rfl ?_;(try simp only[Act.put,abi,aal,aap])
   refine tE_ 2 rfl rfl ?_;(try simp only[Act.put,abi,aal,aap])
   refine tE_ 3 rfl rfl ?_;(try simp only[Act.put,abi,aal,aap])
   (refine zL (i:=4) rfl k_ (fun K hK=>?_));(rw[aao (by rfl)])
   go_simp;have NR:=h_ Gg.out.drew;clear Gg
   go_at_call 260
   refine(z2b _ _ ns ls m _ NR.out.own.1.reads NR.out.own.2.1.reads NR.out.win Gz).mono ?_
   rintro e w5 ⟨⟨x,y,rfl⟩,H0⟩;have GI:=h_ (NR.out.below H0);clear NR H0
   go_wp2_with fail
   refine hK _ _ (fun _=>⟨GI.out.box.cell 0,GI.out.box.cell 1⟩) (fun gp=>?_)
   clear hK K hS gp
   (try simp only[Act.put,abi,aal,aap])
   (refine zL (i:=5) rfl k_ (fun K hK=>?_));(rw[aao (by rfl)])
   go_simp
   go_at_call 259
   refine(z35 _ _ ns ls m x y _ GI.out.own.1.reads GI.out.own.2.1.reads GI.out.win Gz).mono ?_
   rintro e w6 ⟨A6,c6,B6,d6,rfl,G2,gz⟩;have fh:=h_ (GI.out.below gz);have CN:X<w5.heap.size:=GI.out.box.lt;have F4:=z8p GI.out.win m x y;have hl6:=z6G ns ls m x y;generalize splN ns ls m x y=N6 at*;generalize splL ns ls m x y=L6 at*;generalize splB ns ls m x y=bb at*;have By:=h_ (fh.out.put F4 rfl rfl G2 CN);clear GI gz F4 G2
   go_wp2_with fail
   refine hK _ _ (fun _=>⟨fh.out.box.cell 0,fh.out.box.cell 1⟩) (fun gp=>?_)
   have FC:=gp k_;clear hK K gp
   (try simp only[Act.put,abi,aal,aap])
   refine tE_ 6 rfl rfl ?_;(try simp only[Act.put,abi,aal,aap])
   refine tE_ 7 rfl rfl ?_;(try simp only[Act.put,abi,aal,aap])
   refine tF_ 8 rfl ?_;(try simp only[Act.put,abi,aal,aap])
   have hT:=fh.out.box;obtain⟨t_0,t_1,t_f0,t_f1⟩:=hT.b2
   (refine zL (i:=9) rfl k_ (fun K hK=>?_));(rw[aao (by rfl)])
   go_simp;refine hK _ _ (fun h=>by cases h) (fun _=>?_)
   clear hK K FC hT fh
   (try simp only[Act.put,abi,aal,aap])
   refine yv k_ ?_ _
   clear t_0 t_1 t_f0 t_f1;obtain⟨kp,rfl⟩:∃kp,kn=kp+1:=⟨kn -1,by omega⟩;go_wp2;go_roundw
   case rel=>exact⟨kp,A6,c6,B6,d6,N6,L6,by go_num,by omega,by omega,By.out⟩
   case measure=>simp[intOf]
structure DSt (W0:World) (v:Value) (g:Nat) (w:World) (Z:Nat) (wr:World) (a b c d e:Value) (D:Dr) (fs:List SF):Prop where
 ok:okD D=true
 own:OwnD (w.heap.size+1) wr a b c d e D fs
 box:Blk wr Z 30 #[a,b,c,d,e]
 res:Blk wr w.heap.size 30 z5_
 ne:∀k,qJ a b c d e fs k->¬k=Z
 cur:zx W0 v g wr
 gr:w.grownBy wr (some g)
 hX:w.heap.size<Z
 hg:g<w.heap.size
section
variable {W0:World} {v:Value} {g:Nat} {w:World} {Z:Nat} {wr w':World} {a b c d e:Value} {D:Dr} {fs:List SF}
theorem OwnD.far {base:Nat} {row:Option Nat} (h:OwnD base wr a b c d e D fs) (hg:wr.grownBy w' row) (hr:∀k,row=some k->k<base):OwnD base w' a b c d e D fs:=
 h.turned (S:=fun k=>row=some k) (Turns.ofGrown hg (fun k hk=>hk)) (fun k hk e1=>by have:=(h.lt k hk).1;have:=hr k e1;omega)
theorem DSt.drawn (h:DSt W0 v g w Z wr a b c d e D fs) (hc:zx W0 v g w') (hg:wr.grownBy w' (some g)):DSt W0 v g w Z w' a b c d e D fs:=
 ⟨h.ok,h.own.far hg (fun k hk=>by cases hk;have:=h.hg;omega),h.box.grown hg (by have:=h.hg;have:=h.hX;omega),h.res.grown hg (by have:=h.hg;omega),h.ne,hc,zb h.gr hg,h.hX,h.hg⟩
theorem DSt.below (h:DSt W0 v g w Z wr a b c d e D fs) (hb:Below wr.heap.size wr w'):DSt W0 v g w Z w' a b c d e D fs:=
 ⟨h.ok,h.own.kept hb,h.box.below hb h.box.lt,h.res.below hb h.res.lt,h.ne,h.cur.below hb,zX h.gr hb,h.hX,h.hg⟩
theorem DSt.drew (h:DSt W0 v g w Z wr a b c d e D fs):DSt W0 v g w Z wr.drew a b c d e D fs:=h.below (Below.drew (aaj _ _))
theorem DSt.put (h:DSt W0 v g w Z wr a b c d e D fs) {a' b' c' d' e':Value} {D':Dr} {fs':List SF} {base:Nat} (gV:okD D'=true) (ho:OwnD base wr a' b' c' d' e' D' fs') (hb:Z<base):
  DSt W0 v g w Z (((((wr.setCell ⟨Z,0,none⟩ a').setCell ⟨Z,1,none⟩ b').setCell ⟨Z,2,none⟩ c').setCell ⟨Z,3,none⟩ d').setCell ⟨Z,4,none⟩ e') a' b' c' d' e' D' fs':=by
 have hX:=h.hX;have hg:=h.hg;have Hf:=ho.lt;have gd:∀k,qJ a' b' c' d' e' fs' k->¬k=Z:=fun k hk e1=>by have:=(Hf k hk).1;omega
 have FA:=ho.mono (show w.heap.size+1<=base by omega);have hz:¬qJ a' b' c' d' e' fs' Z:=fun k=>gd _ k rfl
 exact⟨gV,(((((FA.setFar (p:=⟨Z,0,none⟩) hz _).setFar (p:=⟨Z,1,none⟩) hz _).setFar (p:=⟨Z,2,none⟩) hz _).setFar (p:=⟨Z,3,none⟩) hz _).setFar (p:=⟨Z,4,none⟩) hz _),(((((h.box.set_ 0 _).set_ 1 _).set_ 2 _).set_ 3 _).set_ 4 _),(((((h.res.far (p:=⟨Z,0,none⟩) (show w.heap.size≠Z by omega) _).far (p:=⟨Z,1,none⟩) (show w.heap.size≠Z by omega) _).far (p:=⟨Z,2,none⟩) (show w.heap.size≠Z by omega) _).far (p:=⟨Z,3,none⟩) (show w.heap.size≠Z by omega) _).far (p:=⟨Z,4,none⟩) (show w.heap.size≠Z by omega) _),gd,(((((h.cur.far (p:=⟨Z,0,none⟩) (show g<Z by omega) _).far (p:=⟨Z,1,none⟩) (show g<Z by omega) _).far (p:=⟨Z,2,none⟩) (show g<Z by omega) _).far (p:=⟨Z,3,none⟩) (show g<Z by omega) _).far (p:=⟨Z,4,none⟩) (show g<Z by omega) _),(zy (p:=⟨Z,4,none⟩) (zy (p:=⟨Z,3,none⟩) (zy (p:=⟨Z,2,none⟩) (zy (p:=⟨Z,1,none⟩) (zy (p:=⟨Z,0,none⟩) h.gr (show w.heap.size<=Z by omega) _) (show w.heap.size<=Z by omega) _) (show w.heap.size<=Z by omega) _) (show w.heap.size<=Z by omega) _) (show w.heap.size<=Z by omega) _),hX,hg⟩
theorem DSt.fin (h:DSt W0 v g w Z wr a b c d e D fs) (u0 u1 u2 u3 u4:Value):
  OwnD (w.heap.size+1) (((((wr.setCell ⟨w.heap.size,0,none⟩ u0).setCell ⟨w.heap.size,1,none⟩ u1).setCell ⟨w.heap.size,2,none⟩ u2).setCell ⟨w.heap.size,3,none⟩ u3).setCell ⟨w.heap.size,4,none⟩ u4) a b c d e D fs/\zx W0 v g (((((wr.setCell ⟨w.heap.size,0,none⟩ u0).setCell ⟨w.heap.size,1,none⟩ u1).setCell ⟨w.heap.size,2,none⟩ u2).setCell ⟨w.heap.size,3,none⟩ u3).setCell ⟨w.heap.size,4,none⟩ u4)/\w.grownBy (((((wr.setCell ⟨w.heap.size,0,none⟩ u0).setCell ⟨w.heap.size,1,none⟩ u1).setCell ⟨w.heap.size,2,none⟩ u2).setCell ⟨w.heap.size,3,none⟩ u3).setCell ⟨w.heap.size,4,none⟩ u4) (some g):=by
 have hz:¬qJ a b c d e fs w.heap.size:=fun hk=>by have:=(h.own.lt _ hk).1;omega
 have hg:=h.hg;exact⟨(((((h.own.setFar (p:=⟨w.heap.size,0,none⟩) hz _).setFar (p:=⟨w.heap.size,1,none⟩) hz _).setFar (p:=⟨w.heap.size,2,none⟩) hz _).setFar (p:=⟨w.heap.size,3,none⟩) hz _).setFar (p:=⟨w.heap.size,4,none⟩) hz _),(((((h.cur.far (p:=⟨w.heap.size,0,none⟩) (show g<w.heap.size from hg) _).far (p:=⟨w.heap.size,1,none⟩) (show g<w.heap.size from hg) _).far (p:=⟨w.heap.size,2,none⟩) (show g<w.heap.size from hg) _).far (p:=⟨w.heap.size,3,none⟩) (show g<w.heap.size from hg) _).far (p:=⟨w.heap.size,4,none⟩) (show g<w.heap.size from hg) _),(zy (p:=⟨w.heap.size,4,none⟩) (zy (p:=⟨w.heap.size,3,none⟩) (zy (p:=⟨w.heap.size,2,none⟩) (zy (p:=⟨w.heap.size,1,none⟩) (zy (p:=⟨w.heap.size,0,none⟩) h.gr (show w.heap.size<=w.heap.size from aaa _) _) (show w.heap.size<=w.heap.size from aaa _) _) (show w.heap.size<=w.heap.size from aaa _) _) (show w.heap.size<=w.heap.size from aaa _) _) (show w.heap.size<=w.heap.size from aaa _) _)⟩
theorem DSt.start {base:Nat} {An:Option Addr} {cn:Nat} {Al:Option Addr} {cl:Nat} {Bn:Option Addr} {dn:Nat} {Bl:Option Addr} {dl:Nat} {ns ls:List Pr} (Hh:zC ns ls)
  (ho:OwnW (w.heap.size+1) wr (.slice An ns.length cn) (.slice Al ls.length cl) ns ls) (hc:OwnW base wr (.slice Bn ns.length dn) (.slice Bl ls.length dl) ns ls)
  (Hf:∀k,zi (.slice An ns.length cn) (.slice Al ls.length cl) k->k<base) (Hu:w.heap.size+1<=base)
  (hbox:Blk wr Z 30 #[.slice An ns.length cn,.slice Al ls.length cl,.slice Bn ns.length dn,.slice Bl ls.length dl,.slice none 0 0])
  (hR:Blk wr w.heap.size 30 z5_) (BW:∀k,zi (.slice An ns.length cn) (.slice Al ls.length cl) k->¬k=Z) (CT:∀k,zi (.slice Bn ns.length dn) (.slice Bl ls.length dl) k->¬k=Z)
  (FN:zx W0 v g wr) (G7:w.grownBy wr (some g)) (hX:w.heap.size<Z) (hg:g<w.heap.size):
  DSt W0 v g w Z wr (.slice An ns.length cn) (.slice Al ls.length cl) (.slice Bn ns.length dn) (.slice Bl ls.length dl) (.slice none 0 0) ⟨ns,ls,ns,ls,[]⟩ []:=by
 have hz:∀k,¬kR (.slice none 0 0) [] k:=by
  rintro k (h|⟨i,hi,_⟩)
  ·simp[Value.ownBlock] at h
  ·simp at hi
 refine⟨z46 Hh,⟨ho,hc.mono Hu,OwnT.nil _ _,rfl,fun k hk gG=>?_,fun k _ hk=>hz k hk,fun k _ hk=>hz k hk⟩,hbox,hR,fun k hk=>?_,FN,G7,hX,hg⟩
 ·first|(have h1:=Hf k gG;have h2:=(hc.lt k hk).1;omega)|(have h1:=Hf k hk;have h2:=(hc.lt k gG).1;omega)
 ·rcases hk with hk|hk|hk
  ·exact BW k hk
  ·exact CT k hk
  ·exact absurd hk (hz k)
end
def z9a (W0:World) (v:Value) (g:Nat) (w:World) (e:Ending) (w':World):Prop:=
 ∃(D:Dr) (fs:List SF) (A0:Option Addr) (c0:Nat) (A1:Option Addr) (c1:Nat) (A2:Option Addr) (c2:Nat) (A3:Option Addr) (c3:Nat) (A4:Option Addr) (c4:Nat),e= .returned (.agg #[.slice A0 D.fn.length c0,.slice A1 D.fl.length c1,.slice A2 D.nn.length c2,.slice A3 D.nl.length c3,.slice A4 D.ss.length c4])/\okD D=true/\D.ss.length<=5/\
  OwnD (w.heap.size+1) w' (.slice A0 D.fn.length c0) (.slice A1 D.fl.length c1) (.slice A2 D.nn.length c2) (.slice A3 D.nl.length c3) (.slice A4 D.ss.length c4) D fs/\zx W0 v g w'/\w.grownBy w' (some g)
theorem Vl (W0:World) (v:Value) (zs:List Int) (g:Nat) (w:World) (h:RB W0 v zs) (hle:zs.length<=1048576) (hc:zx W0 v g w):
  Calls Tryz.prog 184 #[.pointer (some ⟨g,0,none⟩)] w (z9a W0 v g w):=by
 have hgl:=hc.lt;have HC:=h_ hc;have Gq:=h_ h;clear h hc
 go_enter Tryz.func184,Tryz.ntmps184
 go_wp2_with fail
 refine(zbq W0 v zs g _ Gq.out hle (HC.out.alloc _)).mono ?_
 rintro e w1 ⟨ns,ls,An,cn,Al,cl,rfl,⟨Hh,Md⟩,Hi,gc,gD⟩;have Ht:=gD.size;simp at Ht
 have Hx:Blk w1 w.heap.size 30 z5_:=(Blk.new w _ _).grown gD o_;have bm:=zb (jf (World.grownBy.refl w (some g)) (.cells z5_ 30)) gD;have H7:OwnW (w.heap.size+1) w1 (.slice An ns.length cn) (.slice Al ls.length cl) ns ls:=Hi.mono (by simp);have f8:=Hh.2.1;have WP:=Hh.2.2.1;have HW:=h_ Hh;obtain⟨w2,gR⟩:∃u,u=w1.alloc (.cells #[.slice An ns.length cn,.slice Al ls.length cl] 27):=⟨_,rfl⟩;have CJ:Blk w2 w1.heap.size 27 #[.slice An ns.length cn,.slice Al ls.length cl]:=gR▸Blk.newAt rfl;have Hk:=h_ (show OwnW (w.heap.size+1) w2 (.slice An ns.length cn) (.slice Al ls.length cl) ns ls from gR▸H7.alloc _);have gg:Blk w2 w.heap.size 30 z5_:=gR▸Hx.alloc _;have gE:zx W0 v g w2:=gR▸gc.alloc _;have Mn:w.grownBy w2 (some g):=gR▸jf bm _;have F6:w1.heap.size<w2.heap.size:=CJ.lt
 go_upto_region 2 with (fail)
 try rw[<-gR]
 clear gR Hx bm gc gD Hi H7 Hh;generalize w1.heap.size=T at*
 go_cut [4] (fun s4 wx=>∃(Z:Nat) (Bn:Option Addr) (dn:Nat) (Bl:Option Addr) (dl:Nat),s4= .pointer (some ⟨Z,0,none⟩)/\DSt W0 v g w Z wx (.slice An ns.length cn) (.slice Al ls.length cl) (.slice Bn ns.length dn) (.slice Bl ls.length dl) (.slice none 0 0) ⟨ns,ls,ns,ls,[]⟩ [])
 case first=>
  refine vE (n:=5) (S:=fun w'=>w'.cell? ⟨T,0,none⟩=some (.slice An ns.length cn)/\w'.cell? ⟨T,1,none⟩=some (.slice Al ls.length cl)) k_ ⟨CJ.cell 0,CJ.cell 1⟩ (fun hS=>?_)
  (refine zw (i:=0) (v:=?_) rfl rfl k_ k_ k_ k_ (fun _ _ _ h=>h) (Or.inl ⟨by rfl,?_⟩) (by assumption) ?_);rotate_left;(focus (intro w' gh;(try dsimp only at gh);go_simp;(try with_reducible rfl)));(try simp only[Act.put,abi,aal,aap])
  (refine zw (i:=1) (v:=?_) rfl rfl k_ k_ k_ k_ (fun _ _ _ h=>h) (Or.inl ⟨by rfl,?_⟩) (by assumption) ?_);rotate_left;(focus (intro w' gh;(try dsimp only at gh);go_simp;(try with_reducible rfl)));(try simp only[Act.put,abi,aal,aap])
  refine z8f (i:=2) (j:=4) rfl rfl k_ (fun K hK=>?_) (fun K hK=>?_)
  ·rw[aao (by rfl)]
   go_simp
   go_at_call 110
   refine(zU _ _ ns ls _ (OwnP.drew Hk.out.1).reads (OwnP.drew Hk.out.2.1).reads o_ o_).mono ?_
   rintro e w3 ⟨Bn,dn,Bl,dl,rfl,Hm,He⟩;have fE:Below w2.heap.size w2 w3:=((aaj w2.heap.size w2).drew).trans He;have bj:=CJ.below fE CJ.lt;have go:=Hm.lt;have GG:=fE.size
   go_wp2_with fail
   refine hK _ _ (fun _=>⟨bj.cell 0,bj.cell 1⟩) (fun gp=>?_)
   have fk:=gp (by decide);clear hK K hS gp
   (try simp only[Act.put,abi,aal,aap])
   (refine zw (i:=3) (v:=?_) rfl rfl k_ k_ k_ k_ (fun _ _ _ h=>h) (Or.inl ⟨by rfl,?_⟩) (by assumption) ?_);rotate_left;(focus (intro w' gh;(try dsimp only at gh);go_simp;(try with_reducible rfl)));(try simp only[Act.put,abi,aal,aap])
   (refine qM (i:=4) rfl k_ (fun K hK=>?_));(rw[aao (by rfl)])
   go_simp;refine hK _ _ (fun _=>⟨(bj.alloc _).cell 0,(bj.alloc _).cell 1⟩) (fun gp=>?_)
   clear hK K fk gp
   (try simp only[Act.put,abi,aal,aap])
   have mL:=Blk.newAt (w:=w3) (g:=w3.heap.size) (t:=30) (cs:= z5_) rfl;obtain⟨z_0,z_1,z_2,z_3,z_4,z_f0,z_f1,z_f2,z_f3,z_f4⟩:=mL.b5
   (refine qM (i:=5) rfl k_ (fun K hK=>?_));(rw[aao (by rfl)])
   go_simp;refine hK _ _ (fun h=>absurd rfl h) (fun _=>?_)
   clear hK K z_0 z_1 z_2 z_3 z_4 z_f0 z_f1 z_f2 z_f3 z_f4 mL
   (try simp only[Act.put,abi,aal,aap])
   refine kX k_ ?_ _
   go_wp2;go_meet
   simp at go
   exact⟨w3.heap.size,Bn,dn,Bl,dl,rfl,DSt.start (base:=w2.heap.size) HW.out ((Hk.out.kept fE).alloc _) (Hm.alloc _) (fun k hk=>(Hk.out.lt k hk).2) o_ (Blk.newAt rfl) ((gg.below fE gg.lt).alloc _)
    (fun k hk e=>by have:=(Hk.out.lt k hk).2;omega) (fun k hk e=>by have:=(go k hk).2;omega) ((gE.below fE).alloc _) (jf (zX Mn fE) _) o_ hgl⟩
  ·rw[aao (by rfl)]
   go_simp;have hBA:=(Blk.newAt (w:=w2) (g:=w2.heap.size) (t:=30) (cs:= z5_) rfl).drew;have rP:Below w2.heap.size w2 (w2.alloc (.cells z5_ 30)).drew :=((aaj _ _).alloc (aaa _) _).drew;obtain⟨wA,hwA⟩:∃u,u=(w2.alloc (.cells z5_ 30)).drew :=⟨_,rfl⟩;have hsA:wA.heap.size=w2.heap.size+1:=by rw[hwA];simp
   rw[<-hwA] at hBA rP⊢;clear hwA;have hTA:=CJ.below rP CJ.lt;have hoA:=Hk.out.kept rP;refine hK _ _ (fun _=>⟨hTA.cell 0,hTA.cell 1⟩) (fun gp=>?_)
   clear hK K hS gp
   (try simp only[Act.put,abi,aal,aap])
   (refine qM (i:=2) rfl k_ (fun K hK=>?_));(rw[aao (by rfl)])
   go_simp
   go_at_call 110
   refine(zU _ _ ns ls _ hoA.1.reads hoA.2.1.reads o_ o_).mono ?_
   rintro e w3 ⟨Bn,dn,Bl,dl,rfl,Hm,He⟩;have fE:Below w2.heap.size w2 w3:=rP.trans (He.mono rP.size);have bj:=CJ.below fE CJ.lt;have go:=Hm.lt;have GO:=hBA.below He hBA.lt
   go_wp2_with fail
   refine hK _ _ (fun _=>⟨bj.cell 0,bj.cell 1⟩) (fun gp=>?_)
   have FC:=gp (by decide);clear hK K gp
   (try simp only[Act.put,abi,aal,aap])
   (refine zw (i:=3) (v:=?_) rfl rfl k_ k_ k_ k_ (fun _ _ _ h=>h) (Or.inl ⟨by rfl,?_⟩) (by assumption) ?_);rotate_left;(focus (intro w' gh;(try dsimp only at gh);go_simp;(try with_reducible rfl)));(try simp only[Act.put,abi,aal,aap])
   obtain⟨z_0,z_1,z_2,z_3,z_4,z_f0,z_f1,z_f2,z_f3,z_f4⟩:=GO.b5
   (refine qM (i:=5) rfl k_ (fun K hK=>?_));(rw[aao (by rfl)])
   go_simp;refine hK _ _ (fun h=>absurd rfl h) (fun _=>?_)
   clear hK K z_0 z_1 z_2 z_3 z_4 z_f0 z_f1 z_f2 z_f3 z_f4
   (try simp only[Act.put,abi,aal,aap])
   refine kX k_ ?_ _
   go_wp2;go_meet
   rw[hsA] at go;have n1:∀k,zi (.slice An ns.length cn) (.slice Al ls.length cl) k->¬k=w2.heap.size:=fun k hk e=>by have:=(Hk.out.lt k hk).2;omega
   have n2:∀k,zi (.slice Bn ns.length dn) (.slice Bl ls.length dl) k->¬k=w2.heap.size:=fun k hk e=>by have:=(go k hk).1;omega
   have m1:¬zi (.slice An ns.length cn) (.slice Al ls.length cl) w2.heap.size:=fun hk=>n1 _ hk rfl
   have m2:¬zi (.slice Bn ns.length dn) (.slice Bl ls.length dl) w2.heap.size:=fun hk=>n2 _ hk rfl
   have gZ:=gg.below fE gg.lt;have Vd:=gE.below fE;have nS:=zX Mn fE;have q1:w.heap.size<w2.heap.size:=o_
   have q2:g<w2.heap.size:=o_
   exact⟨w2.heap.size,Bn,dn,Bl,dl,rfl,DSt.start (base:=wA.heap.size) HW.out ((((((Hk.out.kept fE).setFar (p:=⟨w2.heap.size,0,none⟩) m1 _).setFar (p:=⟨w2.heap.size,1,none⟩) m1 _).setFar (p:=⟨w2.heap.size,2,none⟩) m1 _).setFar (p:=⟨w2.heap.size,3,none⟩) m1 _).setFar (p:=⟨w2.heap.size,4,none⟩) m1 _) (((((Hm.setFar (p:=⟨w2.heap.size,0,none⟩) m2 _).setFar (p:=⟨w2.heap.size,1,none⟩) m2 _).setFar (p:=⟨w2.heap.size,2,none⟩) m2 _).setFar (p:=⟨w2.heap.size,3,none⟩) m2 _).setFar (p:=⟨w2.heap.size,4,none⟩) m2 _) (fun k hk=>by have:=(Hk.out.lt k hk).2;omega) o_ (((((GO.set_ 0 _).set_ 1 _).set_ 2 _).set_ 3 _).set_ 4 _) (((((gZ.far (p:=⟨w2.heap.size,0,none⟩) (show w.heap.size≠w2.heap.size by omega) _).far (p:=⟨w2.heap.size,1,none⟩) (show w.heap.size≠w2.heap.size by omega) _).far (p:=⟨w2.heap.size,2,none⟩) (show w.heap.size≠w2.heap.size by omega) _).far (p:=⟨w2.heap.size,3,none⟩) (show w.heap.size≠w2.heap.size by omega) _).far (p:=⟨w2.heap.size,4,none⟩) (show w.heap.size≠w2.heap.size by omega) _)
    n1 n2 (((((Vd.far (p:=⟨w2.heap.size,0,none⟩) (show g<w2.heap.size from q2) _).far (p:=⟨w2.heap.size,1,none⟩) (show g<w2.heap.size from q2) _).far (p:=⟨w2.heap.size,2,none⟩) (show g<w2.heap.size from q2) _).far (p:=⟨w2.heap.size,3,none⟩) (show g<w2.heap.size from q2) _).far (p:=⟨w2.heap.size,4,none⟩) (show g<w2.heap.size from q2) _) (zy (p:=⟨w2.heap.size,4,none⟩) (zy (p:=⟨w2.heap.size,3,none⟩) (zy (p:=⟨w2.heap.size,2,none⟩) (zy (p:=⟨w2.heap.size,1,none⟩) (zy (p:=⟨w2.heap.size,0,none⟩) nS (show w.heap.size<=w2.heap.size by omega) _) (show w.heap.size<=w2.heap.size by omega) _) (show w.heap.size<=w2.heap.size by omega) _) (show w.heap.size<=w2.heap.size by omega) _) (show w.heap.size<=w2.heap.size by omega) _) q1 hgl⟩
 case rest=>
  obtain⟨Z,Bn,dn,Bl,dl,rfl,F8⟩:=hcut;have Gv:=h_ F8;clear F8 CJ gg gE Mn Hk F6
  go_wp2_with fail
  refine(zp W0 v zs g 6 _ Gq.out hle o_ Gv.out.cur).mono ?_
  rintro e w3 ⟨k,rfl,k0,k1,Gy,gn⟩;have F8:=Gv.out.drawn Gy gn;clear Gv Gy gn;obtain⟨kn,rfl⟩:∃kn:Nat,k=(kn:Int):=⟨k.toNat,by omega⟩;go_wp2
  go_loopw [5] (fun i wr=>∃(kn:Nat) (A0:Option Addr) (c0:Nat) (A1:Option Addr) (c1:Nat) (A2:Option Addr) (c2:Nat) (A3:Option Addr) (c3:Nat) (A4:Option Addr) (c4:Nat) (D:Dr) (fs:List SF),i= .int .i64 kn/\D.ss.length+kn<=5/\DSt W0 v g w Z wr (.slice A0 D.fn.length c0) (.slice A1 D.fl.length c1) (.slice A2 D.nn.length c2) (.slice A3 D.nl.length c3) (.slice A4 D.ss.length c4) D fs) (fun i _=>(intOf i).toNat)
  case atStart=>exact⟨kn,_,_,_,_,_,_,_,_,none,0,⟨ns,ls,ns,ls,[]⟩,[],rfl,by simp;omega,F8⟩
  case round=>
   clear F8;obtain⟨kn,A0,c0,A1,c1,A2,c2,A3,c3,A4,c4,D,fs,rfl,YJ,F8⟩:=hrel;have Gv:=h_ F8;clear F8
   by_cases uz:kn=0
   ·subst uz
    have hR:=Gv.out.res;have hT:=Gv.out.box;obtain⟨t_0,t_1,t_2,t_3,t_4⟩:=hT.c5;obtain⟨r_0,r_1,r_2,r_3,r_4,r_f0,r_f1,r_f2,r_f3,r_f4⟩:=hR.b5;have Gw:=hR.lt;have HF:=h_ (fun u0 u1 u2 u3 u4=>Gv.out.fin u0 u1 u2 u3 u4);have Fc:=h_ Gv.out.ok;clear hR hT Gv;go_wp2;exact bodyPost_ret (v:= .agg #[.slice A0 D.fn.length c0,.slice A1 D.fl.length c1,.slice A2 D.nn.length c2,.slice A3 D.nl.length c3,.slice A4 D.ss.length c4]) (by simp[results,Tryz.results184,go_sem,r_0,r_1,r_2,r_3,r_4,Gw]) rfl ⟨D,fs,A0,c0,A1,c1,A2,c2,A3,c3,A4,c4,rfl,Fc.out,by omega,(HF.out _ _ _ _ _).1,(HF.out _ _ _ _ _).2.1,(HF.out _ _ _ _ _).2.2⟩
   ·have YI:(0:Int)<(kn:Int):=o_
    have Yh:=z7V Gv.out.ok;have Bw:(0:Int)<(D.nn.length:Int):=by have:=Yh.1;omega
    clear Yh
    go_upto_region 6 with (fail)
    refine jm (n:=20) (S:=fun w'=>w'.cell? ⟨Z,0,none⟩=some (.slice A0 D.fn.length c0)/\w'.cell? ⟨Z,1,none⟩=some (.slice A1 D.fl.length c1)/\w'.cell? ⟨Z,2,none⟩=some (.slice A2 D.nn.length c2)/\w'.cell? ⟨Z,3,none⟩=some (.slice A3 D.nl.length c3)/\w'.cell? ⟨Z,4,none⟩=some (.slice A4 D.ss.length c4)) k_ ⟨Gv.out.box.cell 0,Gv.out.box.cell 1,Gv.out.box.cell 2,Gv.out.box.cell 3,Gv.out.box.cell 4⟩ (fun hS=>?_)
    refine tE_ 0 rfl rfl ?_;(try simp only[Act.put,abi,aal,aap])
    refine tE_ 1 rfl rfl ?_;(try simp only[Act.put,abi,aal,aap])
    refine tE_ 4 rfl rfl ?_;(try simp only[Act.put,abi,aal,aap])
    refine tE_ 5 rfl rfl ?_;(try simp only[Act.put,abi,aal,aap])
    refine tE_ 6 rfl rfl ?_;(try simp only[Act.put,abi,aal,aap])
    refine tE_ 7 rfl rfl ?_;(try simp only[Act.put,abi,aal,aap])
    refine tE_ 8 rfl rfl ?_;(try simp only[Act.put,abi,aal,aap])
    refine tE_ 10 rfl rfl ?_;(try simp only[Act.put,abi,aal,aap])
    refine tE_ 11 rfl rfl ?_;(try simp only[Act.put,abi,aal,aap])
    refine tE_ 12 rfl rfl ?_;(try simp only[Act.put,abi,aal,aap])
    refine tE_ 13 rfl rfl ?_;(try simp only[Act.put,abi,aal,aap])
    refine tE_ 14 rfl rfl ?_;(try simp only[Act.put,abi,aal,aap])
    (refine zL (i:=2) rfl k_ (fun K hK=>?_));(rw[aao (by rfl)])
    go_simp
    go_at_call 125
    refine(zp W0 v zs g 3 _ Gq.out hle o_ Gv.out.drew.cur).mono ?_
    rintro e wa ⟨xa,rfl,xa0,xa1,rS,Ue⟩;have cd:=h_ (Gv.out.drew.drawn rS Ue);clear rS Ue
    go_wp2_with fail
    refine hK _ _ (fun _=>⟨cd.out.box.cell 0,cd.out.box.cell 1,cd.out.box.cell 2,cd.out.box.cell 3,cd.out.box.cell 4⟩) (fun gp=>?_)
    have hSa:=gp k_;clear hK K hS gp Gv
    (try simp only[Act.put,abi,aal,aap])
    have BJ:IntKind.i64.wrap (1+xa)=1+xa:=aaP _ o_;refine tE_ 3 rfl rfl ?_;(try simp only[Act.put,abi,aal,aap])
    clear BJ
    (refine zL (i:=9) rfl k_ (fun K hK=>?_));(rw[aao (by rfl)])
    go_simp
    go_at_call 125
    refine(zp W0 v zs g (D.nn.length:Int) _ Gq.out hle o_ cd.out.cur).mono ?_
    rintro e wb ⟨xb,rfl,xb0,xb1,NM,fM⟩;have ce:=h_ (cd.out.drawn NM fM);clear NM fM
    go_wp2_with fail
    refine hK _ _ (fun _=>⟨ce.out.box.cell 0,ce.out.box.cell 1,ce.out.box.cell 2,ce.out.box.cell 3,ce.out.box.cell 4⟩) (fun gp=>?_)
    clear hK K hSa gp cd
    (try simp only[Act.put,abi,aal,aap])
    (refine zL (i:=15) rfl k_ (fun K hK=>?_));(rw[aao (by rfl)])
    go_simp
    go_at_call 125
    refine(zp W0 v zs g (D.nn.length:Int) _ Gq.out hle o_ ce.out.cur).mono ?_
    rintro e wc ⟨xc,rfl,xc0,xc1,Gj,WD⟩;have cQ:=h_ (ce.out.drawn Gj WD);clear Gj WD
    go_wp2_with fail
    refine hK _ _ (fun _=>⟨cQ.out.box.cell 0,cQ.out.box.cell 1,cQ.out.box.cell 2,cQ.out.box.cell 3,cQ.out.box.cell 4⟩) (fun gp=>?_)
    clear hK K gp ce
    (try simp only[Act.put,abi,aal,aap])
    (refine zL (i:=16) rfl k_ (fun K hK=>?_));(rw[aao (by rfl)])
    go_simp
    go_at_call 139
    have gf:=h_ (z7i cQ.out.ok);have HOKn:=h_ (z6W cQ.out.ok (1+xa) xb xc);have GV:=h_ (z8P D (1+xa) xb xc);refine(z38 _ _ _ _ _ D (1+xa) xb xc _ cQ.out.own.reads gf.out).mono ?_
    rintro e wd ⟨B0,d0,B1,d1,B2,d2,B3,d3,B4,d4,gs,rfl,n9,fE⟩;have Bg:=h_ (cQ.out.below fE);have Gu:Z<wc.heap.size:=cQ.out.box.lt;generalize ji D (1+xa) xb xc=D' at*;generalize zV D (1+xa) xb xc=bb at*;have HP:=h_ (Bg.out.put HOKn.out n9 Gu);clear n9 fE cQ
    go_wp2_with fail
    refine hK _ _ (fun _=>⟨Bg.out.box.cell 0,Bg.out.box.cell 1,Bg.out.box.cell 2,Bg.out.box.cell 3,Bg.out.box.cell 4⟩) (fun gp=>?_)
    have hSd:=gp k_;clear hK K gp
    (try simp only[Act.put,abi,aal,aap])
    refine tE_ 17 rfl rfl ?_;(try simp only[Act.put,abi,aal,aap])
    refine tE_ 18 rfl rfl ?_;(try simp only[Act.put,abi,aal,aap])
    refine tF_ 19 rfl ?_;(try simp only[Act.put,abi,aal,aap])
    have hT:=Bg.out.box;obtain⟨t_0,t_1,t_2,t_3,t_4,t_f0,t_f1,t_f2,t_f3,t_f4⟩:=hT.b5
    (refine zL (i:=20) rfl k_ (fun K hK=>?_));(rw[aao (by rfl)])
    go_simp;refine hK _ _ (fun h=>by cases h) (fun _=>?_)
    clear hK K hSd hT Bg t_0 t_1 t_2 t_3 t_4 t_f0 t_f1 t_f2 t_f3 t_f4
    (try simp only[Act.put,abi,aal,aap])
    refine yv k_ ?_ _
    obtain⟨kp,rfl⟩:∃kp,kn=kp+1:=⟨kn -1,by omega⟩;have Hj:=GV.out;go_wp2;go_roundw
    case rel=>exact⟨kp,B0,d0,B1,d1,B2,d2,B3,d3,B4,d4,D',gs,by go_num,by omega,HP.out⟩
    case measure=>simp[intOf]
noncomputable def ZC:St:=vO qq qr 200
theorem zbk (w:World):Calls Tryz.prog 52 #[] w (z0o ZC w):=by
 obtain⟨E,hE⟩:∃E,vO qq qr 200=E:=⟨_,rfl⟩;have HE:=h_ hE;obtain⟨bb,hB⟩:∃bb,vT qq qr 200=bb:=⟨_,rfl⟩;have HB:=h_ hB;rw[show ZC=E from hE];clear hE hB
 go_enter Tryz.func52,Tryz.ntmps52
 go_wp2_with fail
 refine(z1P _).mono ?_
 rintro e w1 ⟨Tn,tn,Tl,tl,rfl,Un,h9⟩;have h8:Below w.heap.size w w1:=bel_
 have Hx:Blk w1 w.heap.size 34 z8_:=Blk.below (Blk.newAt rfl) h9 sz_;clear h9
 go_wp2_with fail
 refine(z6A _ _ qq qr 200 _ Un.1.reads Un.2.1.reads (by simp[qq]) (by simp[qr])).mono ?_
 rw[HE.out,HB.out];rintro e w2 ⟨W0,wc0,W1,wc1,W2,wc2,W3,wc3,W4,wc4,W5,wc5,W6,wc6,wfs,rfl,nV,Hd⟩;have gg:=Hx.below Hd Hx.lt;have Ha:=h8.trans (Hd.mono h8.size);have Hf:w.heap.size+1<=w1.heap.size:=Hx.lt;clear Hd Hx h8 Un;have HO:=h_ nV;have fH:=h_ Ha;obtain⟨r_0,r_1,r_2,r_3,r_4,r_5,r_6,r_7,r_f0,r_f1,r_f2,r_f3,r_f4,r_f5,r_f6,r_f7⟩:=gg.b8;have Hr:=gg.lt;clear nV Ha gg;go_wp2;refine bodyPost_ret (v:= .agg #[.slice W0 E.D.fn.length wc0,.slice W1 E.D.fl.length wc1,.slice W2 E.D.nn.length wc2,.slice W3 E.D.nl.length wc3,.slice W4 E.D.ss.length wc4,.slice W5 E.cs.length wc5,.slice W6 E.ds.length wc6,.int .i64 E.fund]) (by simp[results,Tryz.results52,go_sem,r_0,r_1,r_2,r_3,r_4,r_5,r_6,r_7,Hr]) rfl ?_
 refine⟨W0,wc0,W1,wc1,W2,wc2,W3,wc3,W4,wc4,W5,wc5,W6,wc6,wfs,rfl,?_,?_⟩
 ·refine OwnSt.mono (base:=w.heap.size+1) ?_ o_
  iterate 12 (try first|(with_reducible refine OwnSt.alloc ?_ _)|(with_reducible refine OwnSt.setLow ?_ ?_ _))
  exact HO.out.mono Hf
  all_goals exact sz_
 ·have Hc:=fH.out
  exact bel_
theorem VO (w:World):Calls Tryz.prog 131 #[] w (z0o ZC w):=by
 obtain⟨E,hE⟩:∃E,vO qq qr 200=E:=⟨_,rfl⟩;have HE:=h_ hE;obtain⟨bb,hB⟩:∃bb,vT qq qr 200=bb:=⟨_,rfl⟩;have HB:=h_ hB;rw[show ZC=E from hE];clear hE hB
 go_enter Tryz.func131,Tryz.ntmps131
 go_wp2_with fail
 refine(ZK _).mono ?_
 rintro e w1 ⟨Tn,tn,Tl,tl,rfl,Un,h9⟩;have h8:Below w.heap.size w w1:=bel_
 have Hx:Blk w1 w.heap.size 34 z8_:=Blk.below (Blk.newAt rfl) h9 sz_;clear h9
 go_wp2_with fail
 refine(z5O _ _ qq qr 200 _ Un.1.reads Un.2.1.reads (by simp[qq]) (by simp[qr])).mono ?_
 rw[HE.out,HB.out];rintro e w2 ⟨W0,wc0,W1,wc1,W2,wc2,W3,wc3,W4,wc4,W5,wc5,W6,wc6,wfs,rfl,nV,Hd⟩;have gg:=Hx.below Hd Hx.lt;have Ha:=h8.trans (Hd.mono h8.size);have Hf:w.heap.size+1<=w1.heap.size:=Hx.lt;clear Hd Hx h8 Un;have HO:=h_ nV;have fH:=h_ Ha;obtain⟨r_0,r_1,r_2,r_3,r_4,r_5,r_6,r_7,r_f0,r_f1,r_f2,r_f3,r_f4,r_f5,r_f6,r_f7⟩:=gg.b8;have Hr:=gg.lt;clear nV Ha gg;go_wp2;refine bodyPost_ret (v:= .agg #[.slice W0 E.D.fn.length wc0,.slice W1 E.D.fl.length wc1,.slice W2 E.D.nn.length wc2,.slice W3 E.D.nl.length wc3,.slice W4 E.D.ss.length wc4,.slice W5 E.cs.length wc5,.slice W6 E.ds.length wc6,.int .i64 E.fund]) (by simp[results,Tryz.results131,go_sem,r_0,r_1,r_2,r_3,r_4,r_5,r_6,r_7,Hr]) rfl ?_
 refine⟨W0,wc0,W1,wc1,W2,wc2,W3,wc3,W4,wc4,W5,wc5,W6,wc6,wfs,rfl,?_,?_⟩
 ·refine OwnSt.mono (base:=w.heap.size+1) ?_ o_
  iterate 12 (try first|(with_reducible refine OwnSt.alloc ?_ _)|(with_reducible refine OwnSt.setLow ?_ ?_ _))
  exact HO.out.mono Hf
  all_goals exact sz_
 ·have Hc:=fH.out
  exact bel_
end Go.Proofs.YtnjcpljhmhdhkaaGreat
