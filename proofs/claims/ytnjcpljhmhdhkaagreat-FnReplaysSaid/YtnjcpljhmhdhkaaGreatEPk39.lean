/- part 39 -/
import Derived.Test.YtnjcpljhmhdhkaaGreatEPk36
import Derived.Test.YtnjcpljhmhdhkaaGreatEPk38
import Derived.Deep.CutBlock
set_option linter.unusedSimpArgs false
set_option linter.unusedVariables false
set_option maxRecDepth 100000
set_option maxHeartbeats 16000000
namespace Go.Proofs.YtnjcpljhmhdhkaaGreat
open Go.RowKit
theorem z2v (W0:World) (v:Value) (zs:List Int) (g:Nat) (w:World) (h:RB W0 v zs) (hle:zs.length<=1048576) (hc:zx W0 v g w) (b n cap:Nat) (cs:Array Value) (P:Int->Prop) (hB:Blk w b 3 cs) (hn:0<n) (Ce:b≠g)
  (fU:∀k:Nat,k<n->∃z:Int,cs[k]? =some (.int .i64 z)/\P z):
  Calls Tryz.prog 185 #[.pointer (some ⟨g,0,none⟩),.slice (some ⟨b,0,none⟩) n cap] w fun e w'=>∃z:Int,e= .returned (.int .i64 z)/\P z/\zx W0 v g w'/\w.grownBy w' (some g):=by
 go_enter Tryz.func185,Tryz.ntmps185
 go_wp2_with fail
 refine(zp W0 v zs g n _ h hle o_ hc).mono ?_
 rintro e w1 ⟨x,rfl,x0,x1,gc,gD⟩;obtain⟨k,rfl⟩:=Int.eq_ofNat_of_zero_le x0;obtain⟨z,hz,hp⟩:=fU k o_;have hcell:=((hB.grown gD o_).cell k).trans hz;go_wp2;go_ret
 exact⟨z,rfl,hp,gc,gD⟩
structure SSt (W0:World) (v:Value) (g:Nat) (w:World) (Z:Nat) (wr:World) (a b c d e f h:Value) (S:St) (fs:List SF):Prop where
 ok:zd S=true
 own:OwnSt (w.heap.size+1) wr a b c d e f h S fs
 box:Blk wr Z 34 #[a,b,c,d,e,f,h,.int .i64 S.fund]
 res:Blk wr w.heap.size 34 z8_
 ne:¬jY a b c d e f h fs Z
 cur:zx W0 v g wr
 gr:w.grownBy wr (some g)
 hX:w.heap.size<Z
 hg:g<w.heap.size
section
variable {W0:World} {v:Value} {g:Nat} {w:World} {Z:Nat} {wr w':World} {a b c d e f h a' b' c' d' e' f' h':Value} {S S':St} {fs fs':List SF}
theorem OwnSt.far {base:Nat} {row:Option Nat} (hh:OwnSt base wr a b c d e f h S fs) (hg:wr.grownBy w' row) (hr:∀k,row=some k->k<base):OwnSt base w' a b c d e f h S fs:=
 hh.turned (T:=fun k=>row=some k) (Turns.ofGrown hg (fun k hk=>hk)) (fun k hk e1=>by have:=(hh.lt k hk).1;have:=hr k e1;omega)
theorem SSt.drawn (hh:SSt W0 v g w Z wr a b c d e f h S fs) (hc:zx W0 v g w') (hg:wr.grownBy w' (some g)):SSt W0 v g w Z w' a b c d e f h S fs:=
 ⟨hh.ok,hh.own.far hg (fun k hk=>by cases hk;have:=hh.hg;omega),hh.box.grown hg (by have:=hh.hg;have:=hh.hX;omega),hh.res.grown hg (by have:=hh.hg;omega),hh.ne,hc,zb hh.gr hg,hh.hX,hh.hg⟩
theorem SSt.below (hh:SSt W0 v g w Z wr a b c d e f h S fs) (hb:Below wr.heap.size wr w'):SSt W0 v g w Z w' a b c d e f h S fs:=
 ⟨hh.ok,hh.own.kept hb,hh.box.below hb hh.box.lt,hh.res.below hb hh.res.lt,hh.ne,hh.cur.below hb,zX hh.gr hb,hh.hX,hh.hg⟩
theorem cur8 (hc:zx W0 v g w') (hz:g<Z) (u0 u1 u2 u3 u4 u5 u6 u7:Value):zx W0 v g ((((((((w'.setCell ⟨Z,0,none⟩ u0).setCell ⟨Z,1,none⟩ u1).setCell ⟨Z,2,none⟩ u2).setCell ⟨Z,3,none⟩ u3).setCell ⟨Z,4,none⟩ u4).setCell ⟨Z,5,none⟩ u5).setCell ⟨Z,6,none⟩ u6).setCell ⟨Z,7,none⟩ u7):=by
 have step:∀(W:World) (j:Nat) (u:Value),zx W0 v g W->zx W0 v g (W.setCell ⟨Z,j,none⟩ u):=fun W j u hW=>hW.far (p:=⟨Z,j,none⟩) hz u
 exact step _ _ _ (step _ _ _ (step _ _ _ (step _ _ _ (step _ _ _ (step _ _ _ (step _ _ _ (step _ _ _ hc)))))))
theorem only8 {row:Option Nat} (hg:w.grownBy w' row) (hz:w.heap.size<=Z) (u0 u1 u2 u3 u4 u5 u6 u7:Value):w.grownBy ((((((((w'.setCell ⟨Z,0,none⟩ u0).setCell ⟨Z,1,none⟩ u1).setCell ⟨Z,2,none⟩ u2).setCell ⟨Z,3,none⟩ u3).setCell ⟨Z,4,none⟩ u4).setCell ⟨Z,5,none⟩ u5).setCell ⟨Z,6,none⟩ u6).setCell ⟨Z,7,none⟩ u7) row:=by
 have step:∀(W:World) (j:Nat) (u:Value),w.grownBy W row->w.grownBy (W.setCell ⟨Z,j,none⟩ u) row:=fun W j u hW=>zy (p:=⟨Z,j,none⟩) hW hz u
 exact step _ _ _ (step _ _ _ (step _ _ _ (step _ _ _ (step _ _ _ (step _ _ _ (step _ _ _ (step _ _ _ hg)))))))
theorem SSt.put (hh:SSt W0 v g w Z wr a b c d e f h S fs) {base:Nat} (gV:zd S'=true) (ho:OwnSt base wr a' b' c' d' e' f' h' S' fs') (hb:Z<base):
  SSt W0 v g w Z ((((((((wr.setCell ⟨Z,0,none⟩ a').setCell ⟨Z,1,none⟩ b').setCell ⟨Z,2,none⟩ c').setCell ⟨Z,3,none⟩ d').setCell ⟨Z,4,none⟩ e').setCell ⟨Z,5,none⟩ f').setCell ⟨Z,6,none⟩ h').setCell ⟨Z,7,none⟩ (.int .i64 S'.fund)) a' b' c' d' e' f' h' S' fs':=by
 have hX:=hh.hX;have hg:=hh.hg;exact⟨gV,(far8 ho hb _ _ _ _ _ _ _ _).mono o_,blk8 hh.box,Jf hh.res o_,fun hk=>by have:=(ho.lt _ hk).1;omega,cur8 hh.cur o_ _ _ _ _ _ _ _ _,only8 hh.gr o_ _ _ _ _ _ _ _ _,hX,hg⟩
theorem SSt.fin (hh:SSt W0 v g w Z wr a b c d e f h S fs) (u0 u1 u2 u3 u4 u5 u6 u7:Value):
  OwnSt (w.heap.size+1) ((((((((wr.setCell ⟨w.heap.size,0,none⟩ u0).setCell ⟨w.heap.size,1,none⟩ u1).setCell ⟨w.heap.size,2,none⟩ u2).setCell ⟨w.heap.size,3,none⟩ u3).setCell ⟨w.heap.size,4,none⟩ u4).setCell ⟨w.heap.size,5,none⟩ u5).setCell ⟨w.heap.size,6,none⟩ u6).setCell ⟨w.heap.size,7,none⟩ u7) a b c d e f h S fs/\zx W0 v g ((((((((wr.setCell ⟨w.heap.size,0,none⟩ u0).setCell ⟨w.heap.size,1,none⟩ u1).setCell ⟨w.heap.size,2,none⟩ u2).setCell ⟨w.heap.size,3,none⟩ u3).setCell ⟨w.heap.size,4,none⟩ u4).setCell ⟨w.heap.size,5,none⟩ u5).setCell ⟨w.heap.size,6,none⟩ u6).setCell ⟨w.heap.size,7,none⟩ u7)/\w.grownBy ((((((((wr.setCell ⟨w.heap.size,0,none⟩ u0).setCell ⟨w.heap.size,1,none⟩ u1).setCell ⟨w.heap.size,2,none⟩ u2).setCell ⟨w.heap.size,3,none⟩ u3).setCell ⟨w.heap.size,4,none⟩ u4).setCell ⟨w.heap.size,5,none⟩ u5).setCell ⟨w.heap.size,6,none⟩ u6).setCell ⟨w.heap.size,7,none⟩ u7) (some g):=
 ⟨far8 hh.own (aaB _) _ _ _ _ _ _ _ _,cur8 hh.cur hh.hg _ _ _ _ _ _ _ _,only8 hh.gr (aaa _) _ _ _ _ _ _ _ _⟩
end
def z6H (W0:World) (v:Value) (g:Nat) (w:World) (e:Ending) (w':World):Prop:=
 ∃S A0 a0 A1 a1 A2 a2 A3 a3 A4 a4 A5 a5 A6 a6 fs,e= .returned (.agg #[.slice A0 S.D.fn.length a0,.slice A1 S.D.fl.length a1,.slice A2 S.D.nn.length a2,.slice A3 S.D.nl.length a3,.slice A4 S.D.ss.length a4,.slice A5 S.cs.length a5,.slice A6 S.ds.length a6,.int .i64 S.fund])/\zd S=true/\
  OwnSt (w.heap.size+1) w' (.slice A0 S.D.fn.length a0) (.slice A1 S.D.fl.length a1) (.slice A2 S.D.nn.length a2) (.slice A3 S.D.nl.length a3) (.slice A4 S.D.ss.length a4) (.slice A5 S.cs.length a5) (.slice A6 S.ds.length a6) S fs/\zx W0 v g w'/\w.grownBy w' (some g)
theorem z72 {D:Dr} {x:Int} (h:okD D=true) (h0:0<=x) (h1:x<=1000000):zd ⟨D,[],[],x⟩=true:=by
 rw[yR];exact⟨h,rfl,zf.2 ⟨h0,h1⟩,.inl rfl,.inl rfl,fun d hd=>by simp at hd⟩
theorem J0 (W0:World) (v:Value) (zs:List Int) (g:Nat) (w:World) (h:RB W0 v zs) (hle:zs.length<=1048576) (hc:zx W0 v g w) (hgl:g<w.heap.size):
  Calls Tryz.prog 105 #[.pointer (some ⟨g,0,none⟩)] w (z6H W0 v g w):=by
 have Gq:=h_ h;have gf:=h_ hle;have bk:zx W0 v g (w.alloc (.cells z8_ 34)):=hc.alloc _;have Fv:Blk (w.alloc (.cells z8_ 34)) w.heap.size 34 z8_:=Blk.newAt rfl;have BZ:w.grownBy (w.alloc (.cells z8_ 34)) (some g):=zX (World.grownBy.refl _ _) ((aaj _ _).alloc (aaa _) _)
 go_enter Tryz.func105,Tryz.ntmps105
 go_wp2_with fail
 obtain⟨w0,Gx⟩:∃q,q=w.alloc (.cells z8_ 34):=⟨_,rfl⟩;have Mi:w0.heap.size=w.heap.size+1:=by rw[Gx];simp
 rw[<-Gx] at bk Fv BZ⊢;refine(Vl W0 v zs g _ Gq.out gf.out bk).mono ?_
 rintro e w1 ⟨D,fs,A0,a0,A1,a1,A2,a2,A3,a3,A4,a4,rfl,gV,YB,ho,gc,gD⟩;have Ht:=gD.size;have gL:=zb BZ gD;have Hx:=Fv.grown gD o_;have Hy:zx W0 v g (w1.alloc (.cells #[.int .i64 0,.int .i64 5,.int .i64 10,.int .i64 100,.int .i64 500] 3)):=gc.alloc _;have Fc:=h_ gV
 go_wp2_with fail
 refine(z2v W0 v zs g _ Gq.out gf.out Hy w1.heap.size 5 5 #[.int .i64 0,.int .i64 5,.int .i64 10,.int .i64 100,.int .i64 500] (fun z=>0<=z/\z<=500) (Blk.newAt rfl) o_ o_ ?_).mono ?_
 ·intro k hk
  match k,hk with
  |0,_=>exact⟨0,rfl,by omega⟩
  |1,_=>exact⟨5,rfl,by omega⟩
  |2,_=>exact⟨10,rfl,by omega⟩
  |3,_=>exact⟨100,rfl,by omega⟩
  |4,_=>exact⟨500,rfl,by omega⟩
 rintro e w2 ⟨fd,rfl,hfd,gE,gm⟩;have Gh:=gm.size;simp at Gh
 have Yi:w1.grownBy (w1.alloc (.cells #[.int .i64 0,.int .i64 5,.int .i64 10,.int .i64 100,.int .i64 500] 3)) (some g):=zX (World.grownBy.refl _ _) ((aaj _ _).alloc (aaa _) _);have G4:=zb (zb gL Yi) gm;have Hk:=OwnD.far (OwnD.far ho Yi (fun k hk=>by cases hk;omega)) gm (fun k hk=>by cases hk;omega);have gg:=(Hx.alloc (.cells #[.int .i64 0,.int .i64 5,.int .i64 10,.int .i64 100,.int .i64 500] 3)).grown gm o_
 have gU:Hid (SSt W0 v g w w2.heap.size (w2.alloc (.cells #[.slice A0 D.fn.length a0,.slice A1 D.fl.length a1,.slice A2 D.nn.length a2,.slice A3 D.nl.length a3,.slice A4 D.ss.length a4,.slice none 0 0,.slice none 0 0,.int .i64 fd] 34)) (.slice A0 D.fn.length a0) (.slice A1 D.fl.length a1) (.slice A2 D.nn.length a2) (.slice A3 D.nl.length a3) (.slice A4 D.ss.length a4) (.slice none 0 0) (.slice none 0 0) ⟨D,[],[],fd⟩ fs):=h_ (by
  have hO:OwnSt (w.heap.size+1) w2 (.slice A0 D.fn.length a0) (.slice A1 D.fl.length a1) (.slice A2 D.nn.length a2) (.slice A3 D.nl.length a3) (.slice A4 D.ss.length a4) (.slice none 0 0) (.slice none 0 0) ⟨D,[],[],fd⟩ fs:=
   ⟨Hk.mono o_,OwnI.nil _ _,zK.nil _ _,fun k _ hk=>(by cases hk),fun k _ hk=>(by cases hk),fun k hk=>(by cases hk)⟩
  exact⟨z72 Fc.out o_ o_,hO.alloc _,Blk.newAt rfl,gg.alloc _,fun hk=>by have:=(hO.lt _ hk).2;omega,gE.alloc _,zX G4 ((aaj _ _).alloc (aaa _) _),by omega,hgl⟩)
 go_wp2_with fail
 obtain⟨w3,GT⟩:∃q,q=w2.alloc (.cells #[.slice A0 D.fn.length a0,.slice A1 D.fl.length a1,.slice A2 D.nn.length a2,.slice A3 D.nl.length a3,.slice A4 D.ss.length a4,.slice none 0 0,.slice none 0 0,.int .i64 fd] 34):=⟨_,rfl⟩;rw[<-GT] at gU⊢;generalize w2.heap.size=Z at*;refine(zp W0 v zs g 3 _ Gq.out gf.out o_ gU.out.cur).mono ?_
 rintro e w4 ⟨x,rfl,x0,x1,FG,Gc⟩;have Gg:=h_ (gU.out.drawn FG Gc)
 go_upto_if 13 with (fail)
 go_cut [] (fun wx=>∃(S:St) (B0:Option Addr) (b0:Nat) (B1:Option Addr) (b1:Nat) (B2:Option Addr) (b2:Nat) (B3:Option Addr) (b3:Nat) (B4:Option Addr) (b4:Nat) (B5:Option Addr) (b5:Nat) (B6:Option Addr) (b6:Nat) (fs:List SF),SSt W0 v g w Z wx (.slice B0 S.D.fn.length b0) (.slice B1 S.D.fl.length b1) (.slice B2 S.D.nn.length b2) (.slice B3 S.D.nl.length b3) (.slice B4 S.D.ss.length b4) (.slice B5 S.cs.length b5) (.slice B6 S.ds.length b6) S fs)
 case first=>
  by_cases hx:0<x
  ·have f9:=Gg.out.box
   obtain⟨z_0,z_1,z_2,z_3,z_4,z_5,z_6,z_7,z_f0,z_f1,z_f2,z_f3,z_f4,z_f5,z_f6,z_f7⟩:=f9.b8
   go_upto_region 3 with (fail)
   refine jm (n:=8) (S:=fun w'=>w'.cell? ⟨Z,0,none⟩=some (.slice A0 D.fn.length a0)/\w'.cell? ⟨Z,1,none⟩=some (.slice A1 D.fl.length a1)/\w'.cell? ⟨Z,2,none⟩=some (.slice A2 D.nn.length a2)/\w'.cell? ⟨Z,3,none⟩=some (.slice A3 D.nl.length a3)/\w'.cell? ⟨Z,4,none⟩=some (.slice A4 D.ss.length a4)/\w'.cell? ⟨Z,5,none⟩=some (.slice none 0 0)/\w'.cell? ⟨Z,6,none⟩=some (.slice none 0 0)/\w'.cell? ⟨Z,7,none⟩=some (.int .i64 fd)) k_ ⟨z_0,z_1,z_2,z_3,z_4,z_5,z_6,z_7⟩ (fun hS=>?_)
   have GI:=h_ (Gg.out.below (aaj _ _).drew);generalize w4.drew=w5 at*;refine tE_ 0 rfl rfl ?_;(try simp only[Act.put,abi,aal,aap])
   refine tE_ 1 rfl rfl ?_;(try simp only[Act.put,abi,aal,aap])
   (refine zL (i:=2) rfl k_ (fun K hK=>?_));(rw[aao (by rfl)])
   go_simp
   go_at_call 125
   refine(zp W0 v zs g 3 _ Gq.out gf.out o_ GI.out.cur).mono ?_
   rintro e w6 ⟨y,rfl,y0,y1,cK,GX⟩;have fh:=h_ (GI.out.drawn cK GX);have f9:=fh.out.box;obtain⟨z_0,z_1,z_2,z_3,z_4,z_5,z_6,z_7,z_f0,z_f1,z_f2,z_f3,z_f4,z_f5,z_f6,z_f7⟩:=f9.b8;have Hb:=f9.lt;have BJ:IntKind.i64.wrap (3+y)=3+y:=aaP _ o_
   go_wp2_with fail
   refine hK _ _ (fun _=>⟨z_0,z_1,z_2,z_3,z_4,z_5,z_6,z_7⟩) (fun gp=>?_)
   have hS:=gp k_
   (try simp only[Act.put,abi,aal,aap])
   refine tE_ 3 rfl rfl ?_;(try simp only[Act.put,abi,aal,aap])
   (refine zL (i:=4) rfl k_ (fun K hK=>?_));(rw[aao (by rfl)])
   go_simp
   go_at_call 33
   refine(z0d _ _ _ _ _ _ _ ⟨D,[],[],fd⟩ (3+y) _ fh.out.own.reads (z3Q fh.out.ok)).mono ?_
   have nw:zd (colS ⟨D,[],[],fd⟩ (3+y))=true:=z74 _ fh.out.ok;obtain⟨E,hE⟩:∃EE,colS ⟨D,[],[],fd⟩ (3+y)=EE:=⟨_,rfl⟩;rw[hE] at nw;generalize colB ⟨D,[],[],fd⟩ (3+y)=bb;rw[hE];rintro e w7 ⟨B0,b0,B1,b1,B2,b2,B3,b3,B4,b4,B5,b5,B6,b6,gs,rfl,Cb,fQ⟩;have By:=h_ (fh.out.below fQ);have HP:=h_ (SSt.put By.out nw Cb Hb);have f9:=By.out.box;obtain⟨z_0,z_1,z_2,z_3,z_4,z_5,z_6,z_7,z_f0,z_f1,z_f2,z_f3,z_f4,z_f5,z_f6,z_f7⟩:=f9.b8
   go_wp2_with fail
   refine hK _ _ (fun _=>⟨z_0,z_1,z_2,z_3,z_4,z_5,z_6,z_7⟩) (fun gp=>?_)
   have hS:=gp k_
   (try simp only[Act.put,abi,aal,aap])
   refine tE_ 5 rfl rfl ?_;(try simp only[Act.put,abi,aal,aap])
   refine tE_ 6 rfl rfl ?_;(try simp only[Act.put,abi,aal,aap])
   refine tF_ 7 rfl ?_;(try simp only[Act.put,abi,aal,aap])
   (refine zL (i:=8) rfl k_ (fun K hK=>?_));(rw[aao (by rfl)])
   go_simp;refine hK _ _ (fun h=>by cases h) (fun _=>?_)
   (try simp only[Act.put,abi,aal,aap])
   refine yv k_ ?_ _
   go_wp2;go_meet
   exact⟨_,_,_,_,_,_,_,_,_,_,_,_,_,_,_,_,HP.out⟩
  ·have hx:¬(0:Int)<x:=o_
   go_wp2;go_meet
   exact⟨⟨D,[],[],fd⟩,A0,a0,A1,a1,A2,a2,A3,a3,A4,a4,none,0,none,0,fs,Gg.out⟩
 case rest=>
  obtain⟨S,B0,b0,B1,b1,B2,b2,B3,b3,B4,b4,B5,b5,B6,b6,gs,hss⟩:=hcut;have GI:=h_ hss
  go_wp2_with fail
  refine(zp W0 v zs g 4 _ Gq.out gf.out o_ GI.out.cur).mono ?_
  rintro e w6 ⟨y,rfl,y0,y1,cK,GX⟩;have fh:=h_ (GI.out.drawn cK GX);have BJ:IntKind.i64.wrap (y -1)=y -1:=aaP _ o_;go_wp2
  go_loopw [4] (fun s4 wr=>∃(k:Int),s4= .int .i64 k/\k<=3/\ -1<=k/\∃(S:St) (B0:Option Addr) (b0:Nat) (B1:Option Addr) (b1:Nat) (B2:Option Addr) (b2:Nat) (B3:Option Addr) (b3:Nat) (B4:Option Addr) (b4:Nat) (B5:Option Addr) (b5:Nat) (B6:Option Addr) (b6:Nat) (fs:List SF),SSt W0 v g w Z wr (.slice B0 S.D.fn.length b0) (.slice B1 S.D.fl.length b1) (.slice B2 S.D.nn.length b2) (.slice B3 S.D.nl.length b3) (.slice B4 S.D.ss.length b4) (.slice B5 S.cs.length b5) (.slice B6 S.ds.length b6) S fs) (fun s4 _=>(intOf s4).toNat)
  case atStart=>exact⟨y -1,by first|rfl|rw[BJ],by omega,by omega,S,_,_,_,_,_,_,_,_,_,_,_,_,_,_,gs,fh.out⟩
  case round=>
   obtain⟨k,rfl,Bv,Ff,S,A0,a0,A1,a1,A2,a2,A3,a3,A4,a4,A5,a5,A6,a6,fs,hss⟩:=hrel;have fh:=h_ hss
   by_cases hk:0<k
   ·have f9:=fh.out.box
    obtain⟨z_0,z_1,z_2,z_3,z_4,z_5,z_6,z_7,z_f0,z_f1,z_f2,z_f3,z_f4,z_f5,z_f6,z_f7⟩:=f9.b8;have BJ:IntKind.i64.wrap (k -1)=k -1:=aaP _ o_
    go_upto_region 7 with (fail)
    refine jm (n:=10) (S:=fun w'=>w'.cell? ⟨Z,0,none⟩=some (.slice A0 S.D.fn.length a0)/\w'.cell? ⟨Z,1,none⟩=some (.slice A1 S.D.fl.length a1)/\w'.cell? ⟨Z,2,none⟩=some (.slice A2 S.D.nn.length a2)/\w'.cell? ⟨Z,3,none⟩=some (.slice A3 S.D.nl.length a3)/\w'.cell? ⟨Z,4,none⟩=some (.slice A4 S.D.ss.length a4)/\w'.cell? ⟨Z,5,none⟩=some (.slice A5 S.cs.length a5)/\w'.cell? ⟨Z,6,none⟩=some (.slice A6 S.ds.length a6)/\w'.cell? ⟨Z,7,none⟩=some (.int .i64 S.fund)) k_ ⟨z_0,z_1,z_2,z_3,z_4,z_5,z_6,z_7⟩ (fun hS=>?_)
    have By:=h_ (fh.out.below (aaj _ _).drew);generalize wr.drew=w7 at*;refine tE_ 0 rfl rfl ?_;(try simp only[Act.put,abi,aal,aap])
    refine tE_ 1 rfl rfl ?_;(try simp only[Act.put,abi,aal,aap])
    refine tE_ 3 rfl rfl ?_;(try simp only[Act.put,abi,aal,aap])
    (refine zL (i:=2) rfl k_ (fun K hK=>?_));(rw[aao (by rfl)])
    go_simp
    go_at_call 125
    refine(zp W0 v zs g 6 _ Gq.out gf.out o_ By.out.cur).mono ?_
    rintro e w8 ⟨p,rfl,p0,p1,cK,GX⟩;have nh:=h_ (By.out.drawn cK GX);have f9:=nh.out.box;obtain⟨z_0,z_1,z_2,z_3,z_4,z_5,z_6,z_7,z_f0,z_f1,z_f2,z_f3,z_f4,z_f5,z_f6,z_f7⟩:=f9.b8
    go_wp2_with fail
    refine hK _ _ (fun _=>⟨z_0,z_1,z_2,z_3,z_4,z_5,z_6,z_7⟩) (fun gp=>?_)
    (try simp only[Act.put,abi,aal,aap])
    (refine zL (i:=4) rfl k_ (fun K hK=>?_));(rw[aao (by rfl)])
    go_simp
    go_at_call 125
    refine(zp W0 v zs g 3 _ Gq.out gf.out o_ nh.out.cur).mono ?_
    rintro e w9 ⟨q,rfl,q0,q1,cK,GX⟩;have Bz:=h_ (nh.out.drawn cK GX);have f9:=Bz.out.box;obtain⟨z_0,z_1,z_2,z_3,z_4,z_5,z_6,z_7,z_f0,z_f1,z_f2,z_f3,z_f4,z_f5,z_f6,z_f7⟩:=f9.b8;have Hb:=f9.lt
    go_wp2_with fail
    refine hK _ _ (fun _=>⟨z_0,z_1,z_2,z_3,z_4,z_5,z_6,z_7⟩) (fun gp=>?_)
    have hS:=gp k_
    (try simp only[Act.put,abi,aal,aap])
    have FI:IntKind.i64.wrap (1+q)=1+q:=aaP _ o_;refine tE_ 5 rfl rfl ?_;(try simp only[Act.put,abi,aal,aap])
    (refine zL (i:=6) rfl k_ (fun K hK=>?_));(rw[aao (by rfl)])
    go_simp
    go_at_call 48
    refine(VP _ _ _ _ _ _ _ S p (1+q) _ Bz.out.own.reads (z3Q Bz.out.ok)).mono ?_
    have nw:zd (stoS S p (1+q))=true:=z6x p (1+q) Bz.out.ok;obtain⟨E,hE⟩:∃EE,stoS S p (1+q)=EE:=⟨_,rfl⟩;rw[hE] at nw;generalize stoB S p (1+q)=bb;rw[hE];rintro e w10 ⟨B0,b0,B1,b1,B2,b2,B3,b3,B4,b4,B5,b5,B6,b6,gs,rfl,Cb,fQ⟩;have By:=h_ (Bz.out.below fQ);have HP:=h_ (SSt.put By.out nw Cb Hb);have f9:=By.out.box;obtain⟨z_0,z_1,z_2,z_3,z_4,z_5,z_6,z_7,z_f0,z_f1,z_f2,z_f3,z_f4,z_f5,z_f6,z_f7⟩:=f9.b8
    go_wp2_with fail
    refine hK _ _ (fun _=>⟨z_0,z_1,z_2,z_3,z_4,z_5,z_6,z_7⟩) (fun gp=>?_)
    have hS:=gp k_
    (try simp only[Act.put,abi,aal,aap])
    refine tE_ 7 rfl rfl ?_;(try simp only[Act.put,abi,aal,aap])
    refine tE_ 8 rfl rfl ?_;(try simp only[Act.put,abi,aal,aap])
    refine tF_ 9 rfl ?_;(try simp only[Act.put,abi,aal,aap])
    (refine zL (i:=10) rfl k_ (fun K hK=>?_));(rw[aao (by rfl)])
    go_simp;refine hK _ _ (fun h=>by cases h) (fun _=>?_)
    (try simp only[Act.put,abi,aal,aap])
    refine yv k_ ?_ _
    go_wp2;go_roundw
    case rel=>exact⟨k -1,by go_num,by omega,by omega,E,_,_,_,_,_,_,_,_,_,_,_,_,_,_,gs,HP.out⟩
    case measure=>simp[intOf];omega
   ·obtain⟨gV,_,hZ,hR,_,_,_,_,_⟩:=fh.out
    have Fc:=h_ gV;obtain⟨z_0,z_1,z_2,z_3,z_4,z_5,z_6,z_7⟩:=hZ.c8;obtain⟨r_0,r_1,r_2,r_3,r_4,r_5,r_6,r_7,r_f0,r_f1,r_f2,r_f3,r_f4,r_f5,r_f6,r_f7⟩:=hR.b8;have Gw:=hR.lt;have HF:=h_ (fh.out.fin);go_wp2;exact bodyPost_ret (v:= .agg #[.slice A0 S.D.fn.length a0,.slice A1 S.D.fl.length a1,.slice A2 S.D.nn.length a2,.slice A3 S.D.nl.length a3,.slice A4 S.D.ss.length a4,.slice A5 S.cs.length a5,.slice A6 S.ds.length a6,.int .i64 S.fund]) (by simp[results,Tryz.results105,go_sem,r_0,r_1,r_2,r_3,r_4,r_5,r_6,r_7,Gw]) rfl ⟨S,_,_,_,_,_,_,_,_,_,_,_,_,_,_,fs,rfl,Fc.out,(HF.out _ _ _ _ _ _ _ _).1,(HF.out _ _ _ _ _ _ _ _).2.1,(HF.out _ _ _ _ _ _ _ _).2.2⟩
def z7H (W0:World) (v:Value) (g:Nat) (w:World) (e:Ending) (w':World):Prop:=
 ∃k a b:Int,e= .returned (.agg #[.int .i64 k,.int .i64 a,.int .i64 b])/\Hid (actB k a b=true)/\zx W0 v g w'/\w.grownBy w' (some g)
section
variable {W0 w w':World} {v:Value} {g Z:Nat} {row:Option Nat}
theorem cur3 (hc:zx W0 v g w') (hz:g<Z) (u0 u1 u2:Value):zx W0 v g (((w'.setCell ⟨Z,0,none⟩ u0).setCell ⟨Z,1,none⟩ u1).setCell ⟨Z,2,none⟩ u2):=
 ((hc.far (p:=⟨Z,0,none⟩) hz u0).far (p:=⟨Z,1,none⟩) hz u1).far (p:=⟨Z,2,none⟩) hz u2
theorem only3 (hg:w.grownBy w' row) (hz:w.heap.size<=Z) (u0 u1 u2:Value):w.grownBy (((w'.setCell ⟨Z,0,none⟩ u0).setCell ⟨Z,1,none⟩ u1).setCell ⟨Z,2,none⟩ u2) row:=
 zy (p:=⟨Z,2,none⟩) (zy (p:=⟨Z,1,none⟩) (zy (p:=⟨Z,0,none⟩) hg hz u0) hz u1) hz u2
end
theorem z1a (W0:World) (v:Value) (zs:List Int) (g:Nat) (w:World) (h:RB W0 v zs) (hle:zs.length<=1048576) (hc:zx W0 v g w) (hgl:g<w.heap.size):
  Calls Tryz.prog 132 #[.pointer (some ⟨g,0,none⟩)] w (z7H W0 v g w):=by
 have Gq:=h_ h;have gf:=h_ hle;have bk:zx W0 v g (w.alloc (.cells #[.int .i64 0,.int .i64 0,.int .i64 0] 41)):=hc.alloc _;have Fv:Blk (w.alloc (.cells #[.int .i64 0,.int .i64 0,.int .i64 0] 41)) w.heap.size 41 #[.int .i64 0,.int .i64 0,.int .i64 0]:=Blk.newAt rfl;have BZ:w.grownBy (w.alloc (.cells #[.int .i64 0,.int .i64 0,.int .i64 0] 41)) (some g):=zX (World.grownBy.refl _ _) ((aaj _ _).alloc (aaa _) _)
 go_enter Tryz.func132,Tryz.ntmps132
 go_wp2_with fail
 refine(zp W0 v zs g 10 _ Gq.out gf.out o_ bk).mono ?_
 rintro e w1 ⟨x,rfl,x0,x1,gc,gD⟩;have Hx:=Fv.grown gD o_;have gL:=zb BZ gD;have hx:x=0∨x=1∨x=2∨x=3∨x=4∨x=5∨x=6∨x=7∨x=8∨x=9:=o_
 rcases hx with rfl|rfl|rfl|rfl|rfl|rfl|rfl|rfl|rfl|rfl
 ·go_wp2_with fail
  refine(zp W0 v zs g 10 _ Gq.out gf.out o_ gc).mono ?_
  rintro e w2 ⟨y,rfl,y0,y1,gE,gm⟩;have gg:=Hx.grown gm o_;have G4:=zb gL gm;have HB:Hid (actB 2 y 0=true):=h_ (by simp[actB,inB];try omega);obtain⟨r_0,r_1,r_2,r_f0,r_f1,r_f2⟩:=gg.b3;have Gw:=gg.lt;have HC:=h_ (fun u0 u1 u2=>cur3 gE hgl u0 u1 u2);have HG:=h_ (fun u0 u1 u2=>only3 G4 (aaa _) u0 u1 u2);go_wp2;exact bodyPost_ret (v:= .agg #[.int .i64 2,.int .i64 y,.int .i64 0]) (by simp[results,Tryz.results132,go_sem,r_0,r_1,r_2,Gw]) rfl ⟨2,y,0,rfl,HB,HC.out _ _ _,HG.out _ _ _⟩
 ·go_wp2_with fail
  refine(zp W0 v zs g 10 _ Gq.out gf.out o_ gc).mono ?_
  rintro e w2 ⟨y,rfl,y0,y1,gE,gm⟩;have gg:=Hx.grown gm o_;have G4:=zb gL gm;have HB:Hid (actB 2 y 0=true):=h_ (by simp[actB,inB];try omega);obtain⟨r_0,r_1,r_2,r_f0,r_f1,r_f2⟩:=gg.b3;have Gw:=gg.lt;have HC:=h_ (fun u0 u1 u2=>cur3 gE hgl u0 u1 u2);have HG:=h_ (fun u0 u1 u2=>only3 G4 (aaa _) u0 u1 u2);go_wp2;exact bodyPost_ret (v:= .agg #[.int .i64 2,.int .i64 y,.int .i64 0]) (by simp[results,Tryz.results132,go_sem,r_0,r_1,r_2,Gw]) rfl ⟨2,y,0,rfl,HB,HC.out _ _ _,HG.out _ _ _⟩
 ·go_wp2_with fail
  refine(zp W0 v zs g 10 _ Gq.out gf.out o_ gc).mono ?_
  rintro e w2 ⟨y,rfl,y0,y1,gE,gm⟩;have gg:=Hx.grown gm o_;have G4:=zb gL gm;have HB:Hid (actB 3 y 0=true):=h_ (by simp[actB,inB];try omega);obtain⟨r_0,r_1,r_2,r_f0,r_f1,r_f2⟩:=gg.b3;have Gw:=gg.lt;have HC:=h_ (fun u0 u1 u2=>cur3 gE hgl u0 u1 u2);have HG:=h_ (fun u0 u1 u2=>only3 G4 (aaa _) u0 u1 u2);go_wp2;exact bodyPost_ret (v:= .agg #[.int .i64 3,.int .i64 y,.int .i64 0]) (by simp[results,Tryz.results132,go_sem,r_0,r_1,r_2,Gw]) rfl ⟨3,y,0,rfl,HB,HC.out _ _ _,HG.out _ _ _⟩
 ·have HB:Hid (actB 4 0 0=true):=h_ (by simp[actB,inB];try omega)
  obtain⟨r_0,r_1,r_2,r_f0,r_f1,r_f2⟩:=Hx.b3;have Gw:=Hx.lt;have HC:=h_ (fun u0 u1 u2=>cur3 gc hgl u0 u1 u2);have HG:=h_ (fun u0 u1 u2=>only3 gL (aaa _) u0 u1 u2);go_wp2;exact bodyPost_ret (v:= .agg #[.int .i64 4,.int .i64 0,.int .i64 0]) (by simp[results,Tryz.results132,go_sem,r_0,r_1,r_2,Gw]) rfl ⟨4,0,0,rfl,HB,HC.out _ _ _,HG.out _ _ _⟩
 ·go_wp2_with fail
  refine(zp W0 v zs g 3 _ Gq.out gf.out o_ gc).mono ?_
  rintro e w2 ⟨y,rfl,y0,y1,gE,gm⟩;have gg:=Hx.grown gm o_;have G4:=zb gL gm;have hwy:IntKind.i64.wrap (3+y)=3+y:=aaP _ o_;have HB:Hid (actB 5 (3+y) 0=true):=h_ (by simp[actB,inB];try omega);obtain⟨r_0,r_1,r_2,r_f0,r_f1,r_f2⟩:=gg.b3;have Gw:=gg.lt;have HC:=h_ (fun u0 u1 u2=>cur3 gE hgl u0 u1 u2);have HG:=h_ (fun u0 u1 u2=>only3 G4 (aaa _) u0 u1 u2);go_wp2;exact bodyPost_ret (v:= .agg #[.int .i64 5,.int .i64 (3+y),.int .i64 0]) (by simp[results,Tryz.results132,go_sem,r_0,r_1,r_2,Gw]) rfl ⟨5,(3+y),0,rfl,HB,HC.out _ _ _,HG.out _ _ _⟩
 ·go_wp2_with fail
  refine(zp W0 v zs g 6 _ Gq.out gf.out o_ gc).mono ?_
  rintro e w2 ⟨y,rfl,y0,y1,gE,gm⟩;have gg:=Hx.grown gm o_;have G4:=zb gL gm
  go_wp2_with fail
  refine(zp W0 v zs g 4 _ Gq.out gf.out o_ gE).mono ?_
  rintro e w3 ⟨z,rfl,z0,z1,Gy,gn⟩;have gZ:=gg.grown gn o_;have nz:=zb G4 gn;have HB:Hid (actB 6 y z=true):=h_ (by simp[actB,inB];try omega);obtain⟨r_0,r_1,r_2,r_f0,r_f1,r_f2⟩:=gZ.b3;have Gw:=gZ.lt;have HC:=h_ (fun u0 u1 u2=>cur3 Gy hgl u0 u1 u2);have HG:=h_ (fun u0 u1 u2=>only3 nz (aaa _) u0 u1 u2);go_wp2;exact bodyPost_ret (v:= .agg #[.int .i64 6,.int .i64 y,.int .i64 z]) (by simp[results,Tryz.results132,go_sem,r_0,r_1,r_2,Gw]) rfl ⟨6,y,z,rfl,HB,HC.out _ _ _,HG.out _ _ _⟩
 ·go_wp2_with fail
  refine(zp W0 v zs g 6 _ Gq.out gf.out o_ gc).mono ?_
  rintro e w2 ⟨y,rfl,y0,y1,gE,gm⟩;have gg:=Hx.grown gm o_;have G4:=zb gL gm
  go_wp2_with fail
  refine(zp W0 v zs g 3 _ Gq.out gf.out o_ gE).mono ?_
  rintro e w3 ⟨z,rfl,z0,z1,Gy,gn⟩;have gZ:=gg.grown gn o_;have nz:=zb G4 gn;have hwz:IntKind.i64.wrap (1+z)=1+z:=aaP _ o_;have HB:Hid (actB 7 y (1+z)=true):=h_ (by simp[actB,inB];try omega);obtain⟨r_0,r_1,r_2,r_f0,r_f1,r_f2⟩:=gZ.b3;have Gw:=gZ.lt;have HC:=h_ (fun u0 u1 u2=>cur3 Gy hgl u0 u1 u2);have HG:=h_ (fun u0 u1 u2=>only3 nz (aaa _) u0 u1 u2);go_wp2;exact bodyPost_ret (v:= .agg #[.int .i64 7,.int .i64 y,.int .i64 (1+z)]) (by simp[results,Tryz.results132,go_sem,r_0,r_1,r_2,Gw]) rfl ⟨7,y,(1+z),rfl,HB,HC.out _ _ _,HG.out _ _ _⟩
 ·go_wp2_with fail
  refine(zp W0 v zs g 6 _ Gq.out gf.out o_ gc).mono ?_
  rintro e w2 ⟨y,rfl,y0,y1,gE,gm⟩;have gg:=Hx.grown gm o_;have G4:=zb gL gm;have HB:Hid (actB 8 y 0=true):=h_ (by simp[actB,inB];try omega);obtain⟨r_0,r_1,r_2,r_f0,r_f1,r_f2⟩:=gg.b3;have Gw:=gg.lt;have HC:=h_ (fun u0 u1 u2=>cur3 gE hgl u0 u1 u2);have HG:=h_ (fun u0 u1 u2=>only3 G4 (aaa _) u0 u1 u2);go_wp2;exact bodyPost_ret (v:= .agg #[.int .i64 8,.int .i64 y,.int .i64 0]) (by simp[results,Tryz.results132,go_sem,r_0,r_1,r_2,Gw]) rfl ⟨8,y,0,rfl,HB,HC.out _ _ _,HG.out _ _ _⟩
 ·have HB:Hid (actB 9 0 0=true):=h_ (by simp[actB,inB];try omega)
  obtain⟨r_0,r_1,r_2,r_f0,r_f1,r_f2⟩:=Hx.b3;have Gw:=Hx.lt;have HC:=h_ (fun u0 u1 u2=>cur3 gc hgl u0 u1 u2);have HG:=h_ (fun u0 u1 u2=>only3 gL (aaa _) u0 u1 u2);go_wp2;exact bodyPost_ret (v:= .agg #[.int .i64 9,.int .i64 0,.int .i64 0]) (by simp[results,Tryz.results132,go_sem,r_0,r_1,r_2,Gw]) rfl ⟨9,0,0,rfl,HB,HC.out _ _ _,HG.out _ _ _⟩
 ·go_wp2_with fail
  refine(zp W0 v zs g 6 _ Gq.out gf.out o_ gc).mono ?_
  rintro e w2 ⟨y,rfl,y0,y1,gE,gm⟩;have gg:=Hx.grown gm o_;have G4:=zb gL gm
  go_wp2_with fail
  refine(zp W0 v zs g 6 _ Gq.out gf.out o_ gE).mono ?_
  rintro e w3 ⟨z,rfl,z0,z1,Gy,gn⟩;have gZ:=gg.grown gn o_;have nz:=zb G4 gn;have HB:Hid (actB 1 y z=true):=h_ (by simp[actB,inB];try omega);obtain⟨r_0,r_1,r_2,r_f0,r_f1,r_f2⟩:=gZ.b3;have Gw:=gZ.lt;have HC:=h_ (fun u0 u1 u2=>cur3 Gy hgl u0 u1 u2);have HG:=h_ (fun u0 u1 u2=>only3 nz (aaa _) u0 u1 u2);go_wp2;exact bodyPost_ret (v:= .agg #[.int .i64 1,.int .i64 y,.int .i64 z]) (by simp[results,Tryz.results132,go_sem,r_0,r_1,r_2,Gw]) rfl ⟨1,y,z,rfl,HB,HC.out _ _ _,HG.out _ _ _⟩
theorem Z5 {w:World} {ops:Array Oper} {rest:List Oper} {o:Oper} {a:Act} {Q:Exit->Act->World->Prop} (fY:o.guard=none) (s x:Operand)
  (ho:o.op= .call { callee:= .builtin .append,args:= #[s,x],argTypes:= #[35,35] })
  (base:Nat) (v:Value) (ds:List Ac) (d:Ac) (hs:a.eval s=v) (g:Nat) (hx:a.eval x= .slice (some ⟨g,0,none⟩) 1 1) (hg:w.cell? ⟨g,0,none⟩=some (.int .i64 d.k)/\w.cell? ⟨g,1,none⟩=some (.int .i64 d.a)/\w.cell? ⟨g,2,none⟩=some (.int .i64 d.b))
  (hown:OwnA base w v ds) (Hj:ds.length<=1048576) (Hu:base<=w.heap.size)
  (h:∀v' w',OwnA base w' v' (ds++[d])->w.grownBy w' v.ownBlock->(v'.ownBlock=v.ownBlock∨v'.ownBlock=some w.heap.size)->wpList Tryz.prog ops Q rest (a.put o.dst v') w'):wpList Tryz.prog ops Q (o::rest) a w:=by
 obtain⟨i,hi,hz,Hs,GN⟩:=info_parts z7Q
 exact wpList_append_own_at w fY s x 35 ho base 41 i (.agg #[.int .i64 0,.int .i64 0,.int .i64 0]) 3 24 Tryz.underlying35 hi hz Hs GN rfl (by decide) v ds.length _ hs hown ⟨g,0,none⟩ 1 1 d.cs hx rfl
  (fun j y hj=>by
   match j,hj with
   |0,hj=>cases hj;exact hg.1
   |1,hj=>cases hj;exact hg.2.1
   |2,hj=>cases hj;exact hg.2.2
   |j+3,hj=>simp[Ac.cs] at hj)
  (by intro y hy;simp[Ac.cs] at hy;rcases hy with rfl|rfl|rfl<;>rfl) (by unfold maxLen;omega) o_ Hu fun v' w' e1 e2 _ e3=>h v' w' (by
   have e4:(ds++[d]).flatMap Ac.cs=ds.flatMap Ac.cs++d.cs:=by simp
   unfold OwnA;rw[e4,show(ds++[d]).length =ds.length+1 by simp];exact e1) e2 e3
theorem OwnA.far {base:Nat} {w w':World} {v:Value} {l:List Ac} {row:Option Nat} (h:OwnA base w v l) (hg:w.grownBy w' row) (hr:∀k,row=some k->k<base):OwnA base w' v l:=
 yE h (Turns.ofGrown (S:=fun k=>row=some k) hg (fun k hk=>hk)) (fun k hk e=>by have:=(World.ownsRow.lt h k hk).1;have:=hr k e;omega)
theorem OwnA.made {base:Nat} {w:World} {g:Nat} (hg:g=w.heap.size) (hb:base<=w.heap.size):OwnA base (w.alloc (.cells #[] 41)) (.slice (some ⟨g,0,none⟩) 0 0) []:=by
 subst hg;exact World.ownsRow_made _ _ _ hb (by simp) (by simp[maxLen])
theorem zx.grown {W0 w w':World} {v:Value} {g:Nat} {row:Option Nat} (h:zx W0 v g w) (hg:w.grownBy w' row) (hr:∀k,row=some k->g<k):zx W0 v g w':=by
 obtain⟨h1,h2,i,s,hi,hB⟩:=h;exact⟨h1,h2.grown hg h2.size (fun k hk=>by have:=hr k hk;omega),i,s,hi,hB.grownR hg (fun k hk=>by have:=hr k hk;omega)⟩
theorem z6z {a w w':World} {row row':Option Nat} (h:a.grownBy w row) (hg:w.grownBy w' row') (hr:∀k,row'=some k->a.heap.size<=k):a.grownBy w' row:=
 ⟨hg.os.trans h.os,hg.tape.trans h.tape,hg.output.trans h.output,aai h.size hg.size,fun i hi gd=>(hg.block i (aaD hi h.size) (fun e=>by have:=hr i e.symm;omega)).trans (h.block i hi gd)⟩
def z7w (W0:World) (v:Value) (g:Nat) (w:World) (e:Ending) (w':World):Prop:=
 ∃l u,e= .returned u/\l.length<=11/\Hid (∀x∈l,actB x.k x.a x.b=true)/\OwnA w.heap.size w' u l/\zx W0 v g w'/\w.grownBy w' (some g)
theorem z0R (W0:World) (v:Value) (zs:List Int) (g:Nat) (w:World) (h:RB W0 v zs) (hle:zs.length<=1048576) (hc:zx W0 v g w) (hgl:g<w.heap.size):
  Calls Tryz.prog 66 #[.pointer (some ⟨g,0,none⟩)] w (z7w W0 v g w):=by
 have Gq:=h_ h;have gf:=h_ hle;have bk:zx W0 v g (w.alloc (.cells #[] 41)):=hc.alloc _;have CZ:OwnA w.heap.size (w.alloc (.cells #[] 41)) (.slice (some ⟨w.heap.size,0,none⟩) 0 0) []:=OwnA.made rfl (aaa _);have BZ:w.grownBy (w.alloc (.cells #[] 41)) (some g):=zX (World.grownBy.refl _ _) ((aaj _ _).alloc (aaa _) _)
 go_enter Tryz.func66,Tryz.ntmps66
 go_wp2_with fail
 refine(zp W0 v zs g 12 _ Gq.out gf.out o_ bk).mono ?_
 rintro e w1 ⟨n,rfl,n0,n1,gc,gD⟩;have gL:=zb BZ gD;have GQ:=CZ.far gD (fun k hk=>by cases hk;exact hgl);have HX:=h_ GQ;obtain⟨nn,rfl⟩:=Int.eq_ofNat_of_zero_le n0;go_wp2
 go_loopw [3,5] (fun u i wr=>∃(j:Nat) (l:List Ac),j<=nn/\i= .int .i64 j/\Hid (l.length=j)/\Hid (∀x∈l,actB x.k x.a x.b=true)/\Hid (OwnA w.heap.size wr u l)/\Hid (zx W0 v g wr)/\Hid (w.grownBy wr (some g))) (fun _ i _=>nn -(intOf i).toNat)
 case atStart=>exact⟨0,[],aab _,rfl,h_ rfl,h_ (fun x hx=>by cases hx),HX,h_ gc,h_ gL⟩
 case round=>
  obtain⟨j,l,hj,rfl,HL,HV,HO,HC,HG⟩:=hrel;have hzr:=HG.out.size
  by_cases Hf:j<nn
  ·have Hp:(j:Int)<(nn:Int):=o_
   go_wp2_with fail
   refine(z1a W0 v zs g _ Gq.out gf.out HC.out o_).mono ?_
   rintro e w2 ⟨ak,aa,ab,rfl,hv,gE,gm⟩;have Gh:=gm.size;have Ca:=(HO.out.far gm (fun k hk=>by cases hk;exact hgl));have Hd:Below w2.heap.size w2 ((w2.alloc (.cells #[.int .i64 ak,.int .i64 aa,.int .i64 ab] 41)).alloc (.cells #[.int .i64 ak,.int .i64 aa,.int .i64 ab] 41)):=bel_
   have Us:=h_ (zX (zb HG.out gm) Hd);have UM:=h_ (gE.below Hd);have GH:=OwnA.kept Ca Hd;have Hj:=HL.out
   go_wp2_with (at_builtin;refine Z5 rfl _ _ rfl w.heap.size _ l ⟨ak,aa,ab⟩ rfl (w2.heap.size+1) rfl (by simp) GH o_ (by simp;omega) ?_)
   intro u3 w3 Hm gn GT;have HO:=h_ Hm;have HC3:=h_ (zx.grown UM.out gn (fun k hk=>aaD hgl (World.ownsRow.lt GH k hk).1));have HG3:=h_ (z6z Us.out gn (fun k hk=>(World.ownsRow.lt GH k hk).1));go_wp2;go_roundw
   case rel=>exact⟨j+1,l++[⟨ak,aa,ab⟩],by omega,by go_num,h_ (by rw[aaW,HL.out];rfl),h_ (fun x hx=>by rw[aaI,aa9] at hx;rcases hx with hx|rfl;exact HV.out x hx;exact hv.out),HO,HC3,HG3⟩
   case measure=>simp[intOf];omega
  ·have Hj:=HL.out
   have Yj:l.length<=11:=o_
   go_wp2;go_ret
   exact⟨l,_,rfl,Yj,HV,HO.out,HC.out,HG.out⟩
theorem z9j {w wr:World} {u:Value} {l:List Ac} {base:Nat} (ho:OwnA base wr u l) (hb:w.heap.size<base) (u0 u1 u2 u3 u4 u5 u6 u7:Value):OwnA w.heap.size ((((((((wr.setCell ⟨w.heap.size,0,none⟩ u0).setCell ⟨w.heap.size,1,none⟩ u1).setCell ⟨w.heap.size,2,none⟩ u2).setCell ⟨w.heap.size,3,none⟩ u3).setCell ⟨w.heap.size,4,none⟩ u4).setCell ⟨w.heap.size,5,none⟩ u5).setCell ⟨w.heap.size,6,none⟩ u6).setCell ⟨w.heap.size,7,none⟩ u7) u l:=by
 have step:∀(W:World) (j:Nat) (x:Value),OwnA base W u l->OwnA base (W.setCell ⟨w.heap.size,j,none⟩ x) u l:=fun W j x hW=>hW.far (qS W ⟨w.heap.size,j,none⟩ x) (fun k hk=>by cases hk;exact hb)
 exact World.ownsRow.mono (step _ _ _ (step _ _ _ (step _ _ _ (step _ _ _ (step _ _ _ (step _ _ _ (step _ _ _ (step _ _ _ ho)))))))) o_
theorem z4f:zd ZC=true:=by
 have h:zd (Q8 qq qr 200)=true:=z72 (z46 (zq.1 Xw)) o_ o_;unfold ZC vO vT;rw[aao h];exact h
theorem J2 (W0:World) (v:Value) (zs:List Int) (g:Nat) (w:World) (h:RB W0 v zs) (hle:zs.length<=1048576) (hc:zx W0 v g w) (hgl:g<w.heap.size):
  Calls Tryz.prog 65 #[.pointer (some ⟨g,0,none⟩)] w (z6H W0 v g w):=by
 have Gq:=h_ h;have gf:=h_ hle;clear h hle;have bk:zx W0 v g (w.alloc (.cells z8_ 34)):=hc.alloc _;have Fv:Blk (w.alloc (.cells z8_ 34)) w.heap.size 34 z8_:=Blk.newAt rfl;have BZ:w.grownBy (w.alloc (.cells z8_ 34)) (some g):=zX (World.grownBy.refl _ _) ((aaj _ _).alloc (aaa _) _)
 go_enter Tryz.func65,Tryz.ntmps65
 go_wp2_with fail
 refine(Jl W0 v zs g 2 _ Gq.out gf.out o_ bk).mono ?_
 rintro e w1 ⟨b,rfl,gc,gD⟩;have Ht:=gD.size;simp at Ht
 have Hx:=Fv.grown gD o_;have gL:=zb BZ gD;clear BZ gD Fv bk hc
 cases b
 ·go_wp2_with fail
  refine(J0 W0 v zs g _ Gq.out gf.out gc o_).mono ?_
  rintro e w2 ⟨S,A0,a0,A1,a1,A2,a2,A3,a3,A4,a4,A5,a5,A6,a6,fs,rfl,gV,ho,gE,gm⟩;have gg:=Hx.grown gm o_;have G4:=zb gL gm;have hO:=ho.mono (show w.heap.size+1<=w1.heap.size+1 by omega);have HF:=h_ (fun u0 u1 u2 u3 u4 u5 u6 u7=>far8 (R:=w.heap.size) hO (aaB _) u0 u1 u2 u3 u4 u5 u6 u7);have HC:=h_ (fun u0 u1 u2 u3 u4 u5 u6 u7=>cur8 gE hgl u0 u1 u2 u3 u4 u5 u6 u7);have HG:=h_ (fun u0 u1 u2 u3 u4 u5 u6 u7=>only8 G4 (aaa _) u0 u1 u2 u3 u4 u5 u6 u7);have Fc:=h_ gV;obtain⟨r_0,r_1,r_2,r_3,r_4,r_5,r_6,r_7,r_f0,r_f1,r_f2,r_f3,r_f4,r_f5,r_f6,r_f7⟩:=gg.b8;have Gw:=gg.lt;clear gV ho hO gE gm gg G4 Hx gL gc;go_wp2;exact bodyPost_ret (v:= .agg #[.slice A0 S.D.fn.length a0,.slice A1 S.D.fl.length a1,.slice A2 S.D.nn.length a2,.slice A3 S.D.nl.length a3,.slice A4 S.D.ss.length a4,.slice A5 S.cs.length a5,.slice A6 S.ds.length a6,.int .i64 S.fund]) (by simp[results,Tryz.results65,go_sem,r_0,r_1,r_2,r_3,r_4,r_5,r_6,r_7,Gw]) rfl ⟨S,_,_,_,_,_,_,_,_,_,_,_,_,_,_,fs,rfl,Fc.out,HF.out _ _ _ _ _ _ _ _,HC.out _ _ _ _ _ _ _ _,HG.out _ _ _ _ _ _ _ _⟩
 ·go_wp2_with fail
  refine(VO _).mono ?_
  rintro e w2 ⟨A0,a0,A1,a1,A2,a2,A3,a3,A4,a4,A5,a5,A6,a6,fs,rfl,ho,Hd⟩;obtain⟨S,hS⟩:∃q,q=ZC:=⟨_,rfl⟩;have Fc:Hid (zd S=true):=h_ (by rw[hS];exact z4f);rw[<-hS] at ho⊢;clear hS;have gg:=Hx.below Hd Hx.lt;have G4:=zX gL Hd;have gE:=gc.below Hd;have hO:=ho.mono (show w.heap.size+1<=w1.heap.size by omega);have HF:=h_ (fun u0 u1 u2 u3 u4 u5 u6 u7=>far8 (R:=w.heap.size) hO (aaB _) u0 u1 u2 u3 u4 u5 u6 u7);have HC:=h_ (fun u0 u1 u2 u3 u4 u5 u6 u7=>cur8 gE hgl u0 u1 u2 u3 u4 u5 u6 u7);have HG:=h_ (fun u0 u1 u2 u3 u4 u5 u6 u7=>only8 G4 (aaa _) u0 u1 u2 u3 u4 u5 u6 u7);obtain⟨r_0,r_1,r_2,r_3,r_4,r_5,r_6,r_7,r_f0,r_f1,r_f2,r_f3,r_f4,r_f5,r_f6,r_f7⟩:=gg.b8;have Gw:=gg.lt;clear ho hO gE Hd gg G4 Hx gL gc;go_wp2;exact bodyPost_ret (v:= .agg #[.slice A0 S.D.fn.length a0,.slice A1 S.D.fl.length a1,.slice A2 S.D.nn.length a2,.slice A3 S.D.nl.length a3,.slice A4 S.D.ss.length a4,.slice A5 S.cs.length a5,.slice A6 S.ds.length a6,.int .i64 S.fund]) (by simp[results,Tryz.results65,go_sem,r_0,r_1,r_2,r_3,r_4,r_5,r_6,r_7,Gw]) rfl ⟨S,_,_,_,_,_,_,_,_,_,_,_,_,_,_,fs,rfl,Fc.out,HF.out _ _ _ _ _ _ _ _,HC.out _ _ _ _ _ _ _ _,HG.out _ _ _ _ _ _ _ _⟩
def z7W (w:World) (e:Ending) (w':World):Prop:=
 ∃S A0 a0 A1 a1 A2 a2 A3 a3 A4 a4 A5 a5 A6 a6 fs l u,e= .returned (.tuple #[.agg #[.slice A0 S.D.fn.length a0,.slice A1 S.D.fl.length a1,.slice A2 S.D.nn.length a2,.slice A3 S.D.nl.length a3,.slice A4 S.D.ss.length a4,.slice A5 S.cs.length a5,.slice A6 S.ds.length a6,.int .i64 S.fund],u])/\zd S=true/\l.length<=11/\Hid (∀x∈l,actB x.k x.a x.b=true)/\
  OwnSt w.heap.size w' (.slice A0 S.D.fn.length a0) (.slice A1 S.D.fl.length a1) (.slice A2 S.D.nn.length a2) (.slice A3 S.D.nl.length a3) (.slice A4 S.D.ss.length a4) (.slice A5 S.cs.length a5) (.slice A6 S.ds.length a6) S fs/\OwnA w.heap.size w' u l/\Below w.heap.size w w'
theorem z0p (v:Value) (zs:List Int) (w:World) (h:RB w v zs) (hle:zs.length<=1048576):
  Calls Tryz.prog 14 #[v] w (z7W w):=by
 have Gq:=h_ h;have gf:=h_ hle
 go_enter Tryz.func14,Tryz.ntmps14
 go_wp2_with fail
 have Hg:Below w.heap.size w (w.alloc (.cells z8_ 34)):=bel_
 have Fv:Blk (w.alloc (.cells z8_ 34)) w.heap.size 34 z8_:=Blk.newAt rfl;obtain⟨w0,Gx⟩:∃q,q=w.alloc (.cells z8_ 34):=⟨_,rfl⟩;have Mi:w0.heap.size=w.heap.size+1:=by rw[Gx];simp
 rw[<-Gx] at Hg Fv⊢;have Uo:=h_ (Gq.out.below Hg);refine(z8Y v zs _ Uo.out gf.out).mono ?_
 rintro e w1 ⟨g,rfl,gc⟩;have hgl:=gc.lt;have BZ:w0.heap.size<=g:=gc.1
 go_wp2_with fail
 refine(J2 w0 v zs g _ Uo.out gf.out gc hgl).mono ?_
 rintro e w2 ⟨S,A0,a0,A1,a1,A2,a2,A3,a3,A4,a4,A5,a5,A6,a6,fs,rfl,gV,Hk,gE,gm⟩;have Gh:=gm.size;have Fc:=h_ gV
 go_wp2_with fail
 obtain⟨w3,GT⟩:∃q,q=w2.alloc (.cells #[.slice A0 S.D.fn.length a0,.slice A1 S.D.fl.length a1,.slice A2 S.D.nn.length a2,.slice A3 S.D.nl.length a3,.slice A4 S.D.ss.length a4,.slice A5 S.cs.length a5,.slice A6 S.ds.length a6,.int .i64 S.fund] 34):=⟨_,rfl⟩;have He:Below w2.heap.size w2 w3:=GT▸(aaj _ _).alloc (aaa _) _;have Fp:Blk w3 w2.heap.size 34 #[.slice A0 S.D.fn.length a0,.slice A1 S.D.fl.length a1,.slice A2 S.D.nn.length a2,.slice A3 S.D.nl.length a3,.slice A4 S.D.ss.length a4,.slice A5 S.cs.length a5,.slice A6 S.ds.length a6,.int .i64 S.fund]:=GT▸Blk.newAt rfl
 go_upto_region 3 with (fail)
 rw[<-GT];have Hm:=Hk.kept He;have Gy:=gE.below He;have Gu:=Fp.lt;obtain⟨z_0,z_1,z_2,z_3,z_4,z_5,z_6,z_7⟩:=Fp.c8;generalize w2.heap.size=Z at*;refine jm (n:=3) (S:=fun w'=>w'.cell? ⟨Z,0,none⟩=some (.slice A0 S.D.fn.length a0)/\w'.cell? ⟨Z,1,none⟩=some (.slice A1 S.D.fl.length a1)/\w'.cell? ⟨Z,2,none⟩=some (.slice A2 S.D.nn.length a2)/\w'.cell? ⟨Z,3,none⟩=some (.slice A3 S.D.nl.length a3)/\w'.cell? ⟨Z,4,none⟩=some (.slice A4 S.D.ss.length a4)/\w'.cell? ⟨Z,5,none⟩=some (.slice A5 S.cs.length a5)/\w'.cell? ⟨Z,6,none⟩=some (.slice A6 S.ds.length a6)/\w'.cell? ⟨Z,7,none⟩=some (.int .i64 S.fund)) k_ ⟨z_0,z_1,z_2,z_3,z_4,z_5,z_6,z_7⟩ (fun hS=>?_)
 have fE:Below w3.heap.size w3 w3.drew:=(aaj _ _).drew;generalize w3.drew=w4 at*;have gH:=Hm.kept fE;have FG:=Gy.below fE;have bv:=fE.size;have mP:=Fp.below fE Gu;refine tE_ 0 rfl rfl ?_;(try simp only[Act.put,abi,aal,aap])
 refine tF_ 1 rfl ?_;(try simp only[Act.put,abi,aal,aap])
 (refine zL (i:=2) rfl k_ (fun K hK=>?_));(rw[aao (by rfl)])
 go_simp
 go_at_call 66
 refine(z0R w0 v zs g _ Uo.out gf.out FG o_).mono ?_
 rintro e w5 ⟨l,u,rfl,mx,hva,hoA,ci,FW⟩;have fG:=gH.far FW (fun k hk=>by cases hk;omega);have MQ:=mP.grown FW o_;have H0:=ci.2.1;have fL:=Fv.below H0 Fv.lt;have Hv:=Hg.trans (H0.mono o_);have ft:w.heap.size<w1.heap.size+1:=o_
 have HF:=h_ (fun u0 u1 u2 u3 u4 u5 u6 u7=>(far8 (R:=w.heap.size) fG ft u0 u1 u2 u3 u4 u5 u6 u7).mono (Nat.le_of_lt ft));have HB:=h_ (fun u0 u1 u2 u3 u4 u5 u6 u7=>bel8 (R:=w.heap.size) Hv (aaa _) u0 u1 u2 u3 u4 u5 u6 u7);have hl4:w.heap.size<w4.heap.size:=o_
 have HA:=h_ (fun u0 u1 u2 u3 u4 u5 u6 u7=>z9j hoA hl4 u0 u1 u2 u3 u4 u5 u6 u7);obtain⟨r_0,r_1,r_2,r_3,r_4,r_5,r_6,r_7,r_f0,r_f1,r_f2,r_f3,r_f4,r_f5,r_f6,r_f7⟩:=fL.b8;have Gw:=fL.lt;have rW:=h_ MQ
 go_wp2_with fail
 refine hK _ _ (fun _=>⟨rW.out.cell 0,rW.out.cell 1,rW.out.cell 2,rW.out.cell 3,rW.out.cell 4,rW.out.cell 5,rW.out.cell 6,rW.out.cell 7⟩) (fun _=>?_)
 (try simp only[Act.put,abi,aal,aap])
 (refine zL (i:=3) rfl k_ (fun K hK=>?_));(rw[aao (by rfl)])
 go_simp;refine hK _ _ (fun h=>by cases h) (fun _=>?_)
 (try simp only[Act.put,abi,aal,aap])
 (refine zL (i:=4) rfl k_ (fun K hK=>?_));(rw[aao (by rfl)])
 go_simp;refine hK _ _ (fun h=>by cases h) (fun _=>?_)
 (try simp only[Act.put,abi,aal,aap])
 refine yv k_ ?_ _
 go_wp2;exact bodyPost_ret (v:= .tuple #[.agg #[.slice A0 S.D.fn.length a0,.slice A1 S.D.fl.length a1,.slice A2 S.D.nn.length a2,.slice A3 S.D.nl.length a3,.slice A4 S.D.ss.length a4,.slice A5 S.cs.length a5,.slice A6 S.ds.length a6,.int .i64 S.fund],u]) (by simp[results,Tryz.results14,go_sem,r_0,r_1,r_2,r_3,r_4,r_5,r_6,r_7,Gw]) rfl ⟨S,_,_,_,_,_,_,_,_,_,_,_,_,_,_,fs,l,u,rfl,Fc.out,mx,hva,HF.out _ _ _ _ _ _ _ _,HA.out _ _ _ _ _ _ _ _,HB.out _ _ _ _ _ _ _ _⟩
end Go.Proofs.YtnjcpljhmhdhkaaGreat
