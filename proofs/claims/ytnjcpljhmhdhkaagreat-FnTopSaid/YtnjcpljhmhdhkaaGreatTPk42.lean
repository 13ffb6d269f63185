/- part 42 -/
import Derived.Test.YtnjcpljhmhdhkaaGreatTPk36
import Derived.Test.YtnjcpljhmhdhkaaGreatTPk41
import Derived.Deep.CutBlock
set_option linter.unusedSimpArgs false
set_option linter.unusedVariables false
set_option maxRecDepth 100000
set_option maxHeartbeats 16000000
namespace Go.Proofs.YtnjcpljhmhdhkaaGreat
open Go.RowKit
theorem z33 (W0:World) (v:Value) (zs:List Int) (g:Nat) (w:World) (h:RB W0 v zs) (hle:zs.length<=1048576) (hc:zw W0 v g w) (b n cap:Nat) (cs:Array Value) (P:Int->Prop) (hB:Blk w b 3 cs) (hn:0<n) (mo:b≠g)
  (Fm:∀k:Nat,k<n->∃z:Int,cs[k]? =some (.int .i64 z)/\P z):
  Calls Tryz.prog 185 #[.pointer (some ⟨g,0,none⟩),.slice (some ⟨b,0,none⟩) n cap] w fun e w'=>∃z:Int,e= .returned (.int .i64 z)/\P z/\zw W0 v g w'/\w.grownBy w' (some g):=by
 go_enter Tryz.func185,Tryz.ntmps185
 go_wp2_with fail
 refine(zo W0 v zs g n _ h hle o_ hc).mono ?_
 rintro e w1 ⟨x,rfl,x0,x1,gl,gL⟩;obtain⟨k,rfl⟩:=Int.eq_ofNat_of_zero_le x0;obtain⟨z,hz,hp⟩:=Fm k o_;have hcell:=((hB.grown gL o_).cell k).trans hz;go_wp2;go_ret
 exact⟨z,rfl,hp,gl,gL⟩
structure SSt (W0:World) (v:Value) (g:Nat) (w:World) (Z:Nat) (wr:World) (a b c d e f h:Value) (S:St) (fs:List SF):Prop where
 ok:ze S=true
 dr:DrwS S
 own:OwnSt (w.heap.size+1) wr a b c d e f h S fs
 box:Blk wr Z 34 #[a,b,c,d,e,f,h,.int .i64 S.fund]
 res:Blk wr w.heap.size 34 z8_
 ne:¬vp a b c d e f h fs Z
 cur:zw W0 v g wr
 gr:w.grownBy wr (some g)
 hX:w.heap.size<Z
 hg:g<w.heap.size
section
variable {W0:World} {v:Value} {g:Nat} {w:World} {Z:Nat} {wr w':World} {a b c d e f h a' b' c' d' e' f' h':Value} {S S':St} {fs fs':List SF}
theorem OwnSt.far {base:Nat} {row:Option Nat} (hh:OwnSt base wr a b c d e f h S fs) (hg:wr.grownBy w' row) (hr:∀k,row=some k->k<base):OwnSt base w' a b c d e f h S fs:=
 hh.turned (T:=fun k=>row=some k) (Turns.ofGrown hg (fun k hk=>hk)) (fun k hk e1=>by have:=(hh.lt k hk).1;have:=hr k e1;omega)
theorem SSt.drawn (hh:SSt W0 v g w Z wr a b c d e f h S fs) (hc:zw W0 v g w') (hg:wr.grownBy w' (some g)):SSt W0 v g w Z w' a b c d e f h S fs:=
 ⟨hh.ok,hh.dr,hh.own.far hg (fun k hk=>by cases hk;have:=hh.hg;omega),hh.box.grown hg (by have:=hh.hg;have:=hh.hX;omega),hh.res.grown hg (by have:=hh.hg;omega),hh.ne,hc,zb hh.gr hg,hh.hX,hh.hg⟩
theorem SSt.below (hh:SSt W0 v g w Z wr a b c d e f h S fs) (hb:Below wr.heap.size wr w'):SSt W0 v g w Z w' a b c d e f h S fs:=
 ⟨hh.ok,hh.dr,hh.own.kept hb,hh.box.below hb hh.box.lt,hh.res.below hb hh.res.lt,hh.ne,hh.cur.below hb,zX hh.gr hb,hh.hX,hh.hg⟩
theorem cur8 (hc:zw W0 v g w') (hz:g<Z) (u0 u1 u2 u3 u4 u5 u6 u7:Value):zw W0 v g ((((((((w'.setCell ⟨Z,0,none⟩ u0).setCell ⟨Z,1,none⟩ u1).setCell ⟨Z,2,none⟩ u2).setCell ⟨Z,3,none⟩ u3).setCell ⟨Z,4,none⟩ u4).setCell ⟨Z,5,none⟩ u5).setCell ⟨Z,6,none⟩ u6).setCell ⟨Z,7,none⟩ u7):=by
 have step:∀(W:World) (j:Nat) (u:Value),zw W0 v g W->zw W0 v g (W.setCell ⟨Z,j,none⟩ u):=fun W j u hW=>hW.far (p:=⟨Z,j,none⟩) hz u
 exact step _ _ _ (step _ _ _ (step _ _ _ (step _ _ _ (step _ _ _ (step _ _ _ (step _ _ _ (step _ _ _ hc)))))))
theorem only8 {row:Option Nat} (hg:w.grownBy w' row) (hz:w.heap.size<=Z) (u0 u1 u2 u3 u4 u5 u6 u7:Value):w.grownBy ((((((((w'.setCell ⟨Z,0,none⟩ u0).setCell ⟨Z,1,none⟩ u1).setCell ⟨Z,2,none⟩ u2).setCell ⟨Z,3,none⟩ u3).setCell ⟨Z,4,none⟩ u4).setCell ⟨Z,5,none⟩ u5).setCell ⟨Z,6,none⟩ u6).setCell ⟨Z,7,none⟩ u7) row:=by
 have step:∀(W:World) (j:Nat) (u:Value),w.grownBy W row->w.grownBy (W.setCell ⟨Z,j,none⟩ u) row:=fun W j u hW=>zy (p:=⟨Z,j,none⟩) hW hz u
 exact step _ _ _ (step _ _ _ (step _ _ _ (step _ _ _ (step _ _ _ (step _ _ _ (step _ _ _ (step _ _ _ hg)))))))
theorem SSt.put (hh:SSt W0 v g w Z wr a b c d e f h S fs) {base:Nat} (Gn:ze S'=true) (Nw:DrwS S') (ho:OwnSt base wr a' b' c' d' e' f' h' S' fs') (hb:Z<base):
  SSt W0 v g w Z ((((((((wr.setCell ⟨Z,0,none⟩ a').setCell ⟨Z,1,none⟩ b').setCell ⟨Z,2,none⟩ c').setCell ⟨Z,3,none⟩ d').setCell ⟨Z,4,none⟩ e').setCell ⟨Z,5,none⟩ f').setCell ⟨Z,6,none⟩ h').setCell ⟨Z,7,none⟩ (.int .i64 S'.fund)) a' b' c' d' e' f' h' S' fs':=by
 have hX:=hh.hX;have hg:=hh.hg;exact⟨Gn,Nw,(far8 ho hb _ _ _ _ _ _ _ _).mono o_,blk8 hh.box,JD hh.res o_,fun hk=>by have:=(ho.lt _ hk).1;omega,cur8 hh.cur o_ _ _ _ _ _ _ _ _,only8 hh.gr o_ _ _ _ _ _ _ _ _,hX,hg⟩
theorem SSt.fin (hh:SSt W0 v g w Z wr a b c d e f h S fs) (u0 u1 u2 u3 u4 u5 u6 u7:Value):
  OwnSt (w.heap.size+1) ((((((((wr.setCell ⟨w.heap.size,0,none⟩ u0).setCell ⟨w.heap.size,1,none⟩ u1).setCell ⟨w.heap.size,2,none⟩ u2).setCell ⟨w.heap.size,3,none⟩ u3).setCell ⟨w.heap.size,4,none⟩ u4).setCell ⟨w.heap.size,5,none⟩ u5).setCell ⟨w.heap.size,6,none⟩ u6).setCell ⟨w.heap.size,7,none⟩ u7) a b c d e f h S fs/\zw W0 v g ((((((((wr.setCell ⟨w.heap.size,0,none⟩ u0).setCell ⟨w.heap.size,1,none⟩ u1).setCell ⟨w.heap.size,2,none⟩ u2).setCell ⟨w.heap.size,3,none⟩ u3).setCell ⟨w.heap.size,4,none⟩ u4).setCell ⟨w.heap.size,5,none⟩ u5).setCell ⟨w.heap.size,6,none⟩ u6).setCell ⟨w.heap.size,7,none⟩ u7)/\w.grownBy ((((((((wr.setCell ⟨w.heap.size,0,none⟩ u0).setCell ⟨w.heap.size,1,none⟩ u1).setCell ⟨w.heap.size,2,none⟩ u2).setCell ⟨w.heap.size,3,none⟩ u3).setCell ⟨w.heap.size,4,none⟩ u4).setCell ⟨w.heap.size,5,none⟩ u5).setCell ⟨w.heap.size,6,none⟩ u6).setCell ⟨w.heap.size,7,none⟩ u7) (some g):=
 ⟨far8 hh.own (aaB _) _ _ _ _ _ _ _ _,cur8 hh.cur hh.hg _ _ _ _ _ _ _ _,only8 hh.gr (aaa _) _ _ _ _ _ _ _ _⟩
end
def z70 (W0:World) (v:Value) (g:Nat) (w:World) (e:Ending) (w':World):Prop:=
 ∃S A0 a0 A1 a1 A2 a2 A3 a3 A4 a4 A5 a5 A6 a6 fs,e= .returned (.agg #[.slice A0 S.D.fn.length a0,.slice A1 S.D.fl.length a1,.slice A2 S.D.nn.length a2,.slice A3 S.D.nl.length a3,.slice A4 S.D.ss.length a4,.slice A5 S.cs.length a5,.slice A6 S.ds.length a6,.int .i64 S.fund])/\ze S=true/\DrwS S/\
  OwnSt (w.heap.size+1) w' (.slice A0 S.D.fn.length a0) (.slice A1 S.D.fl.length a1) (.slice A2 S.D.nn.length a2) (.slice A3 S.D.nl.length a3) (.slice A4 S.D.ss.length a4) (.slice A5 S.cs.length a5) (.slice A6 S.ds.length a6) S fs/\zw W0 v g w'/\w.grownBy w' (some g)
theorem z81 {D:Dr} {x:Int} (h:okD D=true) (h0:0<=x) (h1:x<=1000000):ze ⟨D,[],[],x⟩=true:=by
 rw[jp];exact⟨h,rfl,zc.2 ⟨h0,h1⟩,.inl rfl,.inl rfl,fun d hd=>by simp at hd⟩
theorem Jp (W0:World) (v:Value) (zs:List Int) (g:Nat) (w:World) (h:RB W0 v zs) (hle:zs.length<=1048576) (hc:zw W0 v g w) (hgl:g<w.heap.size):
  Calls Tryz.prog 105 #[.pointer (some ⟨g,0,none⟩)] w (z70 W0 v g w):=by
 have GP:=h_ h;have gf:=h_ hle;have br:zw W0 v g (w.alloc (.cells z8_ 34)):=hc.alloc _;have FS:Blk (w.alloc (.cells z8_ 34)) w.heap.size 34 z8_:=Blk.newAt rfl;have mU:w.grownBy (w.alloc (.cells z8_ 34)) (some g):=zX (World.grownBy.refl _ _) ((aaj _ _).alloc (aaa _) _)
 go_enter Tryz.func105,Tryz.ntmps105
 go_wp2_with fail
 obtain⟨w0,GG⟩:∃q,q=w.alloc (.cells z8_ 34):=⟨_,rfl⟩;have MI:w0.heap.size=w.heap.size+1:=by rw[GG];simp
 rw[<-GG] at br FS mU⊢;refine(Vr W0 v zs g _ GP.out gf.out br).mono ?_
 rintro e w1 ⟨D,fs,A0,a0,A1,a1,A2,a2,A3,a3,A4,a4,rfl,Gn,We,ho,gl,gL⟩;have H7:=gL.size;have gR:=zb mU gL;have H6:=FS.grown gL o_;have Hz:zw W0 v g (w1.alloc (.cells #[.int .i64 0,.int .i64 5,.int .i64 10,.int .i64 100,.int .i64 500] 3)):=gl.alloc _;have Fq:=h_ Gn;have fg:=h_ We
 go_wp2_with fail
 refine(z33 W0 v zs g _ GP.out gf.out Hz w1.heap.size 5 5 #[.int .i64 0,.int .i64 5,.int .i64 10,.int .i64 100,.int .i64 500] (fun z=>0<=z/\z<=500) (Blk.newAt rfl) o_ o_ ?_).mono ?_
 ·intro k hk
  match k,hk with
  |0,_=>exact⟨0,rfl,by omega⟩
  |1,_=>exact⟨5,rfl,by omega⟩
  |2,_=>exact⟨10,rfl,by omega⟩
  |3,_=>exact⟨100,rfl,by omega⟩
  |4,_=>exact⟨500,rfl,by omega⟩
 rintro e w2 ⟨fd,rfl,uZ,gV,gu⟩;have Gp:=gu.size;simp at Gp
 have hgl1:w1.grownBy (w1.alloc (.cells #[.int .i64 0,.int .i64 5,.int .i64 10,.int .i64 100,.int .i64 500] 3)) (some g):=zX (World.grownBy.refl _ _) ((aaj _ _).alloc (aaa _) _);have fA:=zb (zb gR hgl1) gu;have Hn:=OwnD.far (OwnD.far ho hgl1 (fun k hk=>by cases hk;omega)) gu (fun k hk=>by cases hk;omega);have go:=(H6.alloc (.cells #[.int .i64 0,.int .i64 5,.int .i64 10,.int .i64 100,.int .i64 500] 3)).grown gu o_
 have gD:Hid (SSt W0 v g w w2.heap.size (w2.alloc (.cells #[.slice A0 D.fn.length a0,.slice A1 D.fl.length a1,.slice A2 D.nn.length a2,.slice A3 D.nl.length a3,.slice A4 D.ss.length a4,.slice none 0 0,.slice none 0 0,.int .i64 fd] 34)) (.slice A0 D.fn.length a0) (.slice A1 D.fl.length a1) (.slice A2 D.nn.length a2) (.slice A3 D.nl.length a3) (.slice A4 D.ss.length a4) (.slice none 0 0) (.slice none 0 0) ⟨D,[],[],fd⟩ fs):=h_ (by
  have hO:OwnSt (w.heap.size+1) w2 (.slice A0 D.fn.length a0) (.slice A1 D.fl.length a1) (.slice A2 D.nn.length a2) (.slice A3 D.nl.length a3) (.slice A4 D.ss.length a4) (.slice none 0 0) (.slice none 0 0) ⟨D,[],[],fd⟩ fs:=
   ⟨Hn.mono o_,OwnI.nil _ _,zx.nil _ _,fun k _ hk=>(by cases hk),fun k _ hk=>(by cases hk),fun k hk=>(by cases hk)⟩
  exact⟨z81 Fq.out o_ o_,xj fg.out,hO.alloc _,Blk.newAt rfl,go.alloc _,fun hk=>by have:=(hO.lt _ hk).2;omega,gV.alloc _,zX fA ((aaj _ _).alloc (aaa _) _),by omega,hgl⟩)
 go_wp2_with fail
 obtain⟨w3,f8⟩:∃q,q=w2.alloc (.cells #[.slice A0 D.fn.length a0,.slice A1 D.fl.length a1,.slice A2 D.nn.length a2,.slice A3 D.nl.length a3,.slice A4 D.ss.length a4,.slice none 0 0,.slice none 0 0,.int .i64 fd] 34):=⟨_,rfl⟩;rw[<-f8] at gD⊢;generalize w2.heap.size=Z at*;refine(zo W0 v zs g 3 _ GP.out gf.out o_ gD.out.cur).mono ?_
 rintro e w4 ⟨x,rfl,x0,x1,cf,Gf⟩;have gx:=h_ (gD.out.drawn cf Gf)
 go_upto_if 13 with (fail)
 go_cut [] (fun wx=>∃(S:St) (B0:Option Addr) (b0:Nat) (B1:Option Addr) (b1:Nat) (B2:Option Addr) (b2:Nat) (B3:Option Addr) (b3:Nat) (B4:Option Addr) (b4:Nat) (B5:Option Addr) (b5:Nat) (B6:Option Addr) (b6:Nat) (fs:List SF),SSt W0 v g w Z wx (.slice B0 S.D.fn.length b0) (.slice B1 S.D.fl.length b1) (.slice B2 S.D.nn.length b2) (.slice B3 S.D.nl.length b3) (.slice B4 S.D.ss.length b4) (.slice B5 S.cs.length b5) (.slice B6 S.ds.length b6) S fs)
 case first=>
  by_cases hx:0<x
  ·have Fl:=gx.out.box
   obtain⟨z_0,z_1,z_2,z_3,z_4,z_5,z_6,z_7,z_f0,z_f1,z_f2,z_f3,z_f4,z_f5,z_f6,z_f7⟩:=Fl.b8
   go_upto_region 3 with (fail)
   refine qD (n:=8) (S:=fun w'=>w'.cell? ⟨Z,0,none⟩=some (.slice A0 D.fn.length a0)/\w'.cell? ⟨Z,1,none⟩=some (.slice A1 D.fl.length a1)/\w'.cell? ⟨Z,2,none⟩=some (.slice A2 D.nn.length a2)/\w'.cell? ⟨Z,3,none⟩=some (.slice A3 D.nl.length a3)/\w'.cell? ⟨Z,4,none⟩=some (.slice A4 D.ss.length a4)/\w'.cell? ⟨Z,5,none⟩=some (.slice none 0 0)/\w'.cell? ⟨Z,6,none⟩=some (.slice none 0 0)/\w'.cell? ⟨Z,7,none⟩=some (.int .i64 fd)) k_ ⟨z_0,z_1,z_2,z_3,z_4,z_5,z_6,z_7⟩ (fun hS=>?_)
   have Gu:=h_ (gx.out.below (aaj _ _).drew);generalize w4.drew=w5 at*;refine tE_ 0 rfl rfl ?_;(try simp only[lp_])
   refine tE_ 1 rfl rfl ?_;(try simp only[lp_])
   (refine zm (i:=2) rfl k_ (fun K hK=>?_));(rw[aao (by rfl)])
   go_simp
   go_at_call 125
   refine(zo W0 v zs g 3 _ GP.out gf.out o_ Gu.out.cur).mono ?_
   rintro e w6 ⟨y,rfl,y0,y1,cO,fD⟩;have fS:=h_ (Gu.out.drawn cO fD);have Fl:=fS.out.box;obtain⟨z_0,z_1,z_2,z_3,z_4,z_5,z_6,z_7,z_f0,z_f1,z_f2,z_f3,z_f4,z_f5,z_f6,z_f7⟩:=Fl.b8;have Hd:=Fl.lt;have Bm:IntKind.i64.wrap (3+y)=3+y:=aaP _ o_
   go_wp2_with fail
   refine hK _ _ (fun _=>⟨z_0,z_1,z_2,z_3,z_4,z_5,z_6,z_7⟩) (fun gh=>?_)
   have hS:=gh k_
   (try simp only[lp_])
   refine tE_ 3 rfl rfl ?_;(try simp only[lp_])
   (refine zm (i:=4) rfl k_ (fun K hK=>?_));(rw[aao (by rfl)])
   go_simp
   go_at_call 33
   refine(Zb _ _ _ _ _ _ _ ⟨D,[],[],fd⟩ (3+y) _ fS.out.own.reads (z7M fS.out.ok)).mono ?_
   have Bc:ze (colS ⟨D,[],[],fd⟩ (3+y))=true:=z7N _ fS.out.ok;have fc:DrwS (colS ⟨D,[],[],fd⟩ (3+y)):=za9 _ fS.out.dr;obtain⟨E,hE⟩:∃EE,colS ⟨D,[],[],fd⟩ (3+y)=EE:=⟨_,rfl⟩;rw[hE] at Bc fc;generalize colB ⟨D,[],[],fd⟩ (3+y)=bb;rw[hE];rintro e w7 ⟨B0,b0,B1,b1,B2,b2,B3,b3,B4,b4,B5,b5,B6,b6,gs,rfl,FV,f9⟩;have my:=h_ (fS.out.below f9);have HP:=h_ (SSt.put my.out Bc fc FV Hd);have Fl:=my.out.box;obtain⟨z_0,z_1,z_2,z_3,z_4,z_5,z_6,z_7,z_f0,z_f1,z_f2,z_f3,z_f4,z_f5,z_f6,z_f7⟩:=Fl.b8
   go_wp2_with fail
   refine hK _ _ (fun _=>⟨z_0,z_1,z_2,z_3,z_4,z_5,z_6,z_7⟩) (fun gh=>?_)
   have hS:=gh k_
   (try simp only[lp_])
   refine tE_ 5 rfl rfl ?_;(try simp only[lp_])
   refine tE_ 6 rfl rfl ?_;(try simp only[lp_])
   refine tF_ 7 rfl ?_;(try simp only[lp_])
   (refine zm (i:=8) rfl k_ (fun K hK=>?_));(rw[aao (by rfl)])
   go_simp;refine hK _ _ (fun h=>by cases h) (fun _=>?_)
   (try simp only[lp_])
   refine jr k_ ?_ _
   go_wp2;go_meet
   exact⟨_,_,_,_,_,_,_,_,_,_,_,_,_,_,_,_,HP.out⟩
  ·have hx:¬(0:Int)<x:=o_
   go_wp2;go_meet
   exact⟨⟨D,[],[],fd⟩,A0,a0,A1,a1,A2,a2,A3,a3,A4,a4,none,0,none,0,fs,gx.out⟩
 case rest=>
  obtain⟨S,B0,b0,B1,b1,B2,b2,B3,b3,B4,b4,B5,b5,B6,b6,gs,hss⟩:=hcut;have Gu:=h_ hss
  go_wp2_with fail
  refine(zo W0 v zs g 4 _ GP.out gf.out o_ Gu.out.cur).mono ?_
  rintro e w6 ⟨y,rfl,y0,y1,cO,fD⟩;have fS:=h_ (Gu.out.drawn cO fD);have Bm:IntKind.i64.wrap (y -1)=y -1:=aaP _ o_;go_wp2
  go_loopw [4] (fun s4 wr=>∃(k:Int),s4= .int .i64 k/\k<=3/\ -1<=k/\∃(S:St) (B0:Option Addr) (b0:Nat) (B1:Option Addr) (b1:Nat) (B2:Option Addr) (b2:Nat) (B3:Option Addr) (b3:Nat) (B4:Option Addr) (b4:Nat) (B5:Option Addr) (b5:Nat) (B6:Option Addr) (b6:Nat) (fs:List SF),SSt W0 v g w Z wr (.slice B0 S.D.fn.length b0) (.slice B1 S.D.fl.length b1) (.slice B2 S.D.nn.length b2) (.slice B3 S.D.nl.length b3) (.slice B4 S.D.ss.length b4) (.slice B5 S.cs.length b5) (.slice B6 S.ds.length b6) S fs) (fun s4 _=>(intOf s4).toNat)
  case atStart=>exact⟨y -1,by first|rfl|rw[Bm],by omega,by omega,S,_,_,_,_,_,_,_,_,_,_,_,_,_,_,gs,fS.out⟩
  case round=>
   obtain⟨k,rfl,mv,FC,S,A0,a0,A1,a1,A2,a2,A3,a3,A4,a4,A5,a5,A6,a6,fs,hss⟩:=hrel;have fS:=h_ hss
   by_cases hk:0<k
   ·have Fl:=fS.out.box
    obtain⟨z_0,z_1,z_2,z_3,z_4,z_5,z_6,z_7,z_f0,z_f1,z_f2,z_f3,z_f4,z_f5,z_f6,z_f7⟩:=Fl.b8;have Bm:IntKind.i64.wrap (k -1)=k -1:=aaP _ o_
    go_upto_region 7 with (fail)
    refine qD (n:=10) (S:=fun w'=>w'.cell? ⟨Z,0,none⟩=some (.slice A0 S.D.fn.length a0)/\w'.cell? ⟨Z,1,none⟩=some (.slice A1 S.D.fl.length a1)/\w'.cell? ⟨Z,2,none⟩=some (.slice A2 S.D.nn.length a2)/\w'.cell? ⟨Z,3,none⟩=some (.slice A3 S.D.nl.length a3)/\w'.cell? ⟨Z,4,none⟩=some (.slice A4 S.D.ss.length a4)/\w'.cell? ⟨Z,5,none⟩=some (.slice A5 S.cs.length a5)/\w'.cell? ⟨Z,6,none⟩=some (.slice A6 S.ds.length a6)/\w'.cell? ⟨Z,7,none⟩=some (.int .i64 S.fund)) k_ ⟨z_0,z_1,z_2,z_3,z_4,z_5,z_6,z_7⟩ (fun hS=>?_)
    have my:=h_ (fS.out.below (aaj _ _).drew);generalize wr.drew=w7 at*;refine tE_ 0 rfl rfl ?_;(try simp only[lp_])
    refine tE_ 1 rfl rfl ?_;(try simp only[lp_])
    refine tE_ 3 rfl rfl ?_;(try simp only[lp_])
    (refine zm (i:=2) rfl k_ (fun K hK=>?_));(rw[aao (by rfl)])
    go_simp
    go_at_call 125
    refine(zo W0 v zs g 6 _ GP.out gf.out o_ my.out.cur).mono ?_
    rintro e w8 ⟨p,rfl,p0,p1,cO,fD⟩;have NA:=h_ (my.out.drawn cO fD);have Fl:=NA.out.box;obtain⟨z_0,z_1,z_2,z_3,z_4,z_5,z_6,z_7,z_f0,z_f1,z_f2,z_f3,z_f4,z_f5,z_f6,z_f7⟩:=Fl.b8
    go_wp2_with fail
    refine hK _ _ (fun _=>⟨z_0,z_1,z_2,z_3,z_4,z_5,z_6,z_7⟩) (fun gh=>?_)
    (try simp only[lp_])
    (refine zm (i:=4) rfl k_ (fun K hK=>?_));(rw[aao (by rfl)])
    go_simp
    go_at_call 125
    refine(zo W0 v zs g 3 _ GP.out gf.out o_ NA.out.cur).mono ?_
    rintro e w9 ⟨q,rfl,q0,q1,cO,fD⟩;have mx:=h_ (NA.out.drawn cO fD);have Fl:=mx.out.box;obtain⟨z_0,z_1,z_2,z_3,z_4,z_5,z_6,z_7,z_f0,z_f1,z_f2,z_f3,z_f4,z_f5,z_f6,z_f7⟩:=Fl.b8;have Hd:=Fl.lt
    go_wp2_with fail
    refine hK _ _ (fun _=>⟨z_0,z_1,z_2,z_3,z_4,z_5,z_6,z_7⟩) (fun gh=>?_)
    have hS:=gh k_
    (try simp only[lp_])
    have cD:IntKind.i64.wrap (1+q)=1+q:=aaP _ o_;refine tE_ 5 rfl rfl ?_;(try simp only[lp_])
    (refine zm (i:=6) rfl k_ (fun K hK=>?_));(rw[aao (by rfl)])
    go_simp
    go_at_call 48
    refine(Qs _ _ _ _ _ _ _ S p (1+q) _ mx.out.own.reads (z7M mx.out.ok)).mono ?_
    have Bc:ze (stoS S p (1+q))=true:=z87 p (1+q) mx.out.ok;have fc:DrwS (stoS S p (1+q)):=za8 p (1+q) mx.out.dr;obtain⟨E,hE⟩:∃EE,stoS S p (1+q)=EE:=⟨_,rfl⟩;rw[hE] at Bc fc;generalize stoB S p (1+q)=bb;rw[hE];rintro e w10 ⟨B0,b0,B1,b1,B2,b2,B3,b3,B4,b4,B5,b5,B6,b6,gs,rfl,FV,f9⟩;have my:=h_ (mx.out.below f9);have HP:=h_ (SSt.put my.out Bc fc FV Hd);have Fl:=my.out.box;obtain⟨z_0,z_1,z_2,z_3,z_4,z_5,z_6,z_7,z_f0,z_f1,z_f2,z_f3,z_f4,z_f5,z_f6,z_f7⟩:=Fl.b8
    go_wp2_with fail
    refine hK _ _ (fun _=>⟨z_0,z_1,z_2,z_3,z_4,z_5,z_6,z_7⟩) (fun gh=>?_)
    have hS:=gh k_
    (try simp only[lp_])
    refine tE_ 7 rfl rfl ?_;(try simp only[lp_])
    refine tE_ 8 rfl rfl ?_;(try simp only[lp_])
    refine tF_ 9 rfl ?_;(try simp only[lp_])
    (refine zm (i:=10) rfl k_ (fun K hK=>?_));(rw[aao (by rfl)])
    go_simp;refine hK _ _ (fun h=>by cases h) (fun _=>?_)
    (try simp only[lp_])
    refine jr k_ ?_ _
    go_wp2;go_roundw
    case rel=>exact⟨k -1,by go_num,by omega,by omega,E,_,_,_,_,_,_,_,_,_,_,_,_,_,_,gs,HP.out⟩
    case measure=>simp[intOf];omega
   ·obtain⟨Gn,Nw,_,hZ,hR,_,_,_,_,_⟩:=fS.out
    have Fq:=h_ Gn;have fL:=h_ Nw;obtain⟨z_0,z_1,z_2,z_3,z_4,z_5,z_6,z_7⟩:=hZ.c8;obtain⟨r_0,r_1,r_2,r_3,r_4,r_5,r_6,r_7,r_f0,r_f1,r_f2,r_f3,r_f4,r_f5,r_f6,r_f7⟩:=hR.b8;have Gx:=hR.lt;have HF:=h_ (fS.out.fin);go_wp2;exact bodyPost_ret (v:= .agg #[.slice A0 S.D.fn.length a0,.slice A1 S.D.fl.length a1,.slice A2 S.D.nn.length a2,.slice A3 S.D.nl.length a3,.slice A4 S.D.ss.length a4,.slice A5 S.cs.length a5,.slice A6 S.ds.length a6,.int .i64 S.fund]) (by simp[results,Tryz.results105,go_sem,r_0,r_1,r_2,r_3,r_4,r_5,r_6,r_7,Gx]) rfl ⟨S,_,_,_,_,_,_,_,_,_,_,_,_,_,_,fs,rfl,Fq.out,fL.out,(HF.out _ _ _ _ _ _ _ _).1,(HF.out _ _ _ _ _ _ _ _).2.1,(HF.out _ _ _ _ _ _ _ _).2.2⟩
def z90 (W0:World) (v:Value) (g:Nat) (w:World) (e:Ending) (w':World):Prop:=
 ∃k a b:Int,e= .returned (.agg #[.int .i64 k,.int .i64 a,.int .i64 b])/\Hid (actB k a b=true)/\zw W0 v g w'/\w.grownBy w' (some g)
section
variable {W0 w w':World} {v:Value} {g Z:Nat} {row:Option Nat}
theorem cur3 (hc:zw W0 v g w') (hz:g<Z) (u0 u1 u2:Value):zw W0 v g (((w'.setCell ⟨Z,0,none⟩ u0).setCell ⟨Z,1,none⟩ u1).setCell ⟨Z,2,none⟩ u2):=
 ((hc.far (p:=⟨Z,0,none⟩) hz u0).far (p:=⟨Z,1,none⟩) hz u1).far (p:=⟨Z,2,none⟩) hz u2
theorem only3 (hg:w.grownBy w' row) (hz:w.heap.size<=Z) (u0 u1 u2:Value):w.grownBy (((w'.setCell ⟨Z,0,none⟩ u0).setCell ⟨Z,1,none⟩ u1).setCell ⟨Z,2,none⟩ u2) row:=
 zy (p:=⟨Z,2,none⟩) (zy (p:=⟨Z,1,none⟩) (zy (p:=⟨Z,0,none⟩) hg hz u0) hz u1) hz u2
end
theorem z29 (W0:World) (v:Value) (zs:List Int) (g:Nat) (w:World) (h:RB W0 v zs) (hle:zs.length<=1048576) (hc:zw W0 v g w) (hgl:g<w.heap.size):
  Calls Tryz.prog 132 #[.pointer (some ⟨g,0,none⟩)] w (z90 W0 v g w):=by
 have GP:=h_ h;have gf:=h_ hle;have br:zw W0 v g (w.alloc (.cells #[.int .i64 0,.int .i64 0,.int .i64 0] 41)):=hc.alloc _;have FS:Blk (w.alloc (.cells #[.int .i64 0,.int .i64 0,.int .i64 0] 41)) w.heap.size 41 #[.int .i64 0,.int .i64 0,.int .i64 0]:=Blk.newAt rfl;have mU:w.grownBy (w.alloc (.cells #[.int .i64 0,.int .i64 0,.int .i64 0] 41)) (some g):=zX (World.grownBy.refl _ _) ((aaj _ _).alloc (aaa _) _)
 go_enter Tryz.func132,Tryz.ntmps132
 go_wp2_with fail
 refine(zo W0 v zs g 10 _ GP.out gf.out o_ br).mono ?_
 rintro e w1 ⟨x,rfl,x0,x1,gl,gL⟩;have H6:=FS.grown gL o_;have gR:=zb mU gL;have hx:x=0∨x=1∨x=2∨x=3∨x=4∨x=5∨x=6∨x=7∨x=8∨x=9:=o_
 rcases hx with rfl|rfl|rfl|rfl|rfl|rfl|rfl|rfl|rfl|rfl
 ·go_wp2_with fail
  refine(zo W0 v zs g 10 _ GP.out gf.out o_ gl).mono ?_
  rintro e w2 ⟨y,rfl,y0,y1,gV,gu⟩;have go:=H6.grown gu o_;have fA:=zb gR gu;have HB:Hid (actB 2 y 0=true):=h_ (by simp[actB,inB];try omega);obtain⟨r_0,r_1,r_2,r_f0,r_f1,r_f2⟩:=go.b3;have Gx:=go.lt;have HC:=h_ (fun u0 u1 u2=>cur3 gV hgl u0 u1 u2);have HG:=h_ (fun u0 u1 u2=>only3 fA (aaa _) u0 u1 u2);go_wp2;exact bodyPost_ret (v:= .agg #[.int .i64 2,.int .i64 y,.int .i64 0]) (by simp[results,Tryz.results132,go_sem,r_0,r_1,r_2,Gx]) rfl ⟨2,y,0,rfl,HB,HC.out _ _ _,HG.out _ _ _⟩
 ·go_wp2_with fail
  refine(zo W0 v zs g 10 _ GP.out gf.out o_ gl).mono ?_
  rintro e w2 ⟨y,rfl,y0,y1,gV,gu⟩;have go:=H6.grown gu o_;have fA:=zb gR gu;have HB:Hid (actB 2 y 0=true):=h_ (by simp[actB,inB];try omega);obtain⟨r_0,r_1,r_2,r_f0,r_f1,r_f2⟩:=go.b3;have Gx:=go.lt;have HC:=h_ (fun u0 u1 u2=>cur3 gV hgl u0 u1 u2);have HG:=h_ (fun u0 u1 u2=>only3 fA (aaa _) u0 u1 u2);go_wp2;exact bodyPost_ret (v:= .agg #[.int .i64 2,.int .i64 y,.int .i64 0]) (by simp[results,Tryz.results132,go_sem,r_0,r_1,r_2,Gx]) rfl ⟨2,y,0,rfl,HB,HC.out _ _ _,HG.out _ _ _⟩
 ·go_wp2_with fail
  refine(zo W0 v zs g 10 _ GP.out gf.out o_ gl).mono ?_
  rintro e w2 ⟨y,rfl,y0,y1,gV,gu⟩;have go:=H6.grown gu o_;have fA:=zb gR gu;have HB:Hid (actB 3 y 0=true):=h_ (by simp[actB,inB];try omega);obtain⟨r_0,r_1,r_2,r_f0,r_f1,r_f2⟩:=go.b3;have Gx:=go.lt;have HC:=h_ (fun u0 u1 u2=>cur3 gV hgl u0 u1 u2);have HG:=h_ (fun u0 u1 u2=>only3 fA (aaa _) u0 u1 u2);go_wp2;exact bodyPost_ret (v:= .agg #[.int .i64 3,.int .i64 y,.int .i64 0]) (by simp[results,Tryz.results132,go_sem,r_0,r_1,r_2,Gx]) rfl ⟨3,y,0,rfl,HB,HC.out _ _ _,HG.out _ _ _⟩
 ·have HB:Hid (actB 4 0 0=true):=h_ (by simp[actB,inB];try omega)
  obtain⟨r_0,r_1,r_2,r_f0,r_f1,r_f2⟩:=H6.b3;have Gx:=H6.lt;have HC:=h_ (fun u0 u1 u2=>cur3 gl hgl u0 u1 u2);have HG:=h_ (fun u0 u1 u2=>only3 gR (aaa _) u0 u1 u2);go_wp2;exact bodyPost_ret (v:= .agg #[.int .i64 4,.int .i64 0,.int .i64 0]) (by simp[results,Tryz.results132,go_sem,r_0,r_1,r_2,Gx]) rfl ⟨4,0,0,rfl,HB,HC.out _ _ _,HG.out _ _ _⟩
 ·go_wp2_with fail
  refine(zo W0 v zs g 3 _ GP.out gf.out o_ gl).mono ?_
  rintro e w2 ⟨y,rfl,y0,y1,gV,gu⟩;have go:=H6.grown gu o_;have fA:=zb gR gu;have hwy:IntKind.i64.wrap (3+y)=3+y:=aaP _ o_;have HB:Hid (actB 5 (3+y) 0=true):=h_ (by simp[actB,inB];try omega);obtain⟨r_0,r_1,r_2,r_f0,r_f1,r_f2⟩:=go.b3;have Gx:=go.lt;have HC:=h_ (fun u0 u1 u2=>cur3 gV hgl u0 u1 u2);have HG:=h_ (fun u0 u1 u2=>only3 fA (aaa _) u0 u1 u2);go_wp2;exact bodyPost_ret (v:= .agg #[.int .i64 5,.int .i64 (3+y),.int .i64 0]) (by simp[results,Tryz.results132,go_sem,r_0,r_1,r_2,Gx]) rfl ⟨5,(3+y),0,rfl,HB,HC.out _ _ _,HG.out _ _ _⟩
 ·go_wp2_with fail
  refine(zo W0 v zs g 6 _ GP.out gf.out o_ gl).mono ?_
  rintro e w2 ⟨y,rfl,y0,y1,gV,gu⟩;have go:=H6.grown gu o_;have fA:=zb gR gu
  go_wp2_with fail
  refine(zo W0 v zs g 4 _ GP.out gf.out o_ gV).mono ?_
  rintro e w3 ⟨z,rfl,z0,z1,GK,gq⟩;have Ga:=go.grown gq o_;have NL:=zb fA gq;have HB:Hid (actB 6 y z=true):=h_ (by simp[actB,inB];try omega);obtain⟨r_0,r_1,r_2,r_f0,r_f1,r_f2⟩:=Ga.b3;have Gx:=Ga.lt;have HC:=h_ (fun u0 u1 u2=>cur3 GK hgl u0 u1 u2);have HG:=h_ (fun u0 u1 u2=>only3 NL (aaa _) u0 u1 u2);go_wp2;exact bodyPost_ret (v:= .agg #[.int .i64 6,.int .i64 y,.int .i64 z]) (by simp[results,Tryz.results132,go_sem,r_0,r_1,r_2,Gx]) rfl ⟨6,y,z,rfl,HB,HC.out _ _ _,HG.out _ _ _⟩
 ·go_wp2_with fail
  refine(zo W0 v zs g 6 _ GP.out gf.out o_ gl).mono ?_
  rintro e w2 ⟨y,rfl,y0,y1,gV,gu⟩;have go:=H6.grown gu o_;have fA:=zb gR gu
  go_wp2_with fail
  refine(zo W0 v zs g 3 _ GP.out gf.out o_ gV).mono ?_
  rintro e w3 ⟨z,rfl,z0,z1,GK,gq⟩;have Ga:=go.grown gq o_;have NL:=zb fA gq;have hwz:IntKind.i64.wrap (1+z)=1+z:=aaP _ o_;have HB:Hid (actB 7 y (1+z)=true):=h_ (by simp[actB,inB];try omega);obtain⟨r_0,r_1,r_2,r_f0,r_f1,r_f2⟩:=Ga.b3;have Gx:=Ga.lt;have HC:=h_ (fun u0 u1 u2=>cur3 GK hgl u0 u1 u2);have HG:=h_ (fun u0 u1 u2=>only3 NL (aaa _) u0 u1 u2);go_wp2;exact bodyPost_ret (v:= .agg #[.int .i64 7,.int .i64 y,.int .i64 (1+z)]) (by simp[results,Tryz.results132,go_sem,r_0,r_1,r_2,Gx]) rfl ⟨7,y,(1+z),rfl,HB,HC.out _ _ _,HG.out _ _ _⟩
 ·go_wp2_with fail
  refine(zo W0 v zs g 6 _ GP.out gf.out o_ gl).mono ?_
  rintro e w2 ⟨y,rfl,y0,y1,gV,gu⟩;have go:=H6.grown gu o_;have fA:=zb gR gu;have HB:Hid (actB 8 y 0=true):=h_ (by simp[actB,inB];try omega);obtain⟨r_0,r_1,r_2,r_f0,r_f1,r_f2⟩:=go.b3;have Gx:=go.lt;have HC:=h_ (fun u0 u1 u2=>cur3 gV hgl u0 u1 u2);have HG:=h_ (fun u0 u1 u2=>only3 fA (aaa _) u0 u1 u2);go_wp2;exact bodyPost_ret (v:= .agg #[.int .i64 8,.int .i64 y,.int .i64 0]) (by simp[results,Tryz.results132,go_sem,r_0,r_1,r_2,Gx]) rfl ⟨8,y,0,rfl,HB,HC.out _ _ _,HG.out _ _ _⟩
 ·have HB:Hid (actB 9 0 0=true):=h_ (by simp[actB,inB];try omega)
  obtain⟨r_0,r_1,r_2,r_f0,r_f1,r_f2⟩:=H6.b3;have Gx:=H6.lt;have HC:=h_ (fun u0 u1 u2=>cur3 gl hgl u0 u1 u2);have HG:=h_ (fun u0 u1 u2=>only3 gR (aaa _) u0 u1 u2);go_wp2;exact bodyPost_ret (v:= .agg #[.int .i64 9,.int .i64 0,.int .i64 0]) (by simp[results,Tryz.results132,go_sem,r_0,r_1,r_2,Gx]) rfl ⟨9,0,0,rfl,HB,HC.out _ _ _,HG.out _ _ _⟩
 ·go_wp2_with fail
  refine(zo W0 v zs g 6 _ GP.out gf.out o_ gl).mono ?_
  rintro e w2 ⟨y,rfl,y0,y1,gV,gu⟩;have go:=H6.grown gu o_;have fA:=zb gR gu
  go_wp2_with fail
  refine(zo W0 v zs g 6 _ GP.out gf.out o_ gV).mono ?_
  rintro e w3 ⟨z,rfl,z0,z1,GK,gq⟩;have Ga:=go.grown gq o_;have NL:=zb fA gq;have HB:Hid (actB 1 y z=true):=h_ (by simp[actB,inB];try omega);obtain⟨r_0,r_1,r_2,r_f0,r_f1,r_f2⟩:=Ga.b3;have Gx:=Ga.lt;have HC:=h_ (fun u0 u1 u2=>cur3 GK hgl u0 u1 u2);have HG:=h_ (fun u0 u1 u2=>only3 NL (aaa _) u0 u1 u2);go_wp2;exact bodyPost_ret (v:= .agg #[.int .i64 1,.int .i64 y,.int .i64 z]) (by simp[results,Tryz.results132,go_sem,r_0,r_1,r_2,Gx]) rfl ⟨1,y,z,rfl,HB,HC.out _ _ _,HG.out _ _ _⟩
theorem Zt {w:World} {ops:Array Oper} {rest:List Oper} {o:Oper} {a:Act} {Q:Exit->Act->World->Prop} (Fu:o.guard=none) (s x:Operand)
  (ho:o.op= .call { callee:= .builtin .append,args:= #[s,x],argTypes:= #[35,35] })
  (base:Nat) (v:Value) (ds:List Ac) (d:Ac) (hs:a.eval s=v) (g:Nat) (hx:a.eval x= .slice (some ⟨g,0,none⟩) 1 1) (hg:w.cell? ⟨g,0,none⟩=some (.int .i64 d.k)/\w.cell? ⟨g,1,none⟩=some (.int .i64 d.a)/\w.cell? ⟨g,2,none⟩=some (.int .i64 d.b))
  (hown:OwnA base w v ds) (Hm:ds.length<=1048576) (Hs:base<=w.heap.size)
  (h:∀v' w',OwnA base w' v' (ds++[d])->w.grownBy w' v.ownBlock->(v'.ownBlock=v.ownBlock∨v'.ownBlock=some w.heap.size)->wpList Tryz.prog ops Q rest (a.put o.dst v') w'):wpList Tryz.prog ops Q (o::rest) a w:=by
 obtain⟨i,hi,hz,Hy,gp⟩:=info_parts z9a
 exact wpList_append_own_at w Fu s x 35 ho base 41 i (.agg #[.int .i64 0,.int .i64 0,.int .i64 0]) 3 24 Tryz.underlying35 hi hz Hy gp rfl (by decide) v ds.length _ hs hown ⟨g,0,none⟩ 1 1 d.cs hx rfl
  (fun j y hj=>by
   match j,hj with
   |0,hj=>cases hj;exact hg.1
   |1,hj=>cases hj;exact hg.2.1
   |2,hj=>cases hj;exact hg.2.2
   |j+3,hj=>simp[Ac.cs] at hj)
  (by intro y hy;simp[Ac.cs] at hy;rcases hy with rfl|rfl|rfl<;>rfl) (by unfold maxLen;omega) o_ Hs fun v' w' e1 e2 _ e3=>h v' w' (by
   have e4:(ds++[d]).flatMap Ac.cs=ds.flatMap Ac.cs++d.cs:=by simp
   unfold OwnA;rw[e4,show(ds++[d]).length =ds.length+1 by simp];exact e1) e2 e3
theorem OwnA.far {base:Nat} {w w':World} {v:Value} {l:List Ac} {row:Option Nat} (h:OwnA base w v l) (hg:w.grownBy w' row) (hr:∀k,row=some k->k<base):OwnA base w' v l:=
 yQ h (Turns.ofGrown (S:=fun k=>row=some k) hg (fun k hk=>hk)) (fun k hk e=>by have:=(World.ownsRow.lt h k hk).1;have:=hr k e;omega)
theorem OwnA.made {base:Nat} {w:World} {g:Nat} (hg:g=w.heap.size) (hb:base<=w.heap.size):OwnA base (w.alloc (.cells #[] 41)) (.slice (some ⟨g,0,none⟩) 0 0) []:=by
 subst hg;exact World.ownsRow_made _ _ _ hb (by simp) (by simp[maxLen])
theorem zw.grown {W0 w w':World} {v:Value} {g:Nat} {row:Option Nat} (h:zw W0 v g w) (hg:w.grownBy w' row) (hr:∀k,row=some k->g<k):zw W0 v g w':=by
 obtain⟨h1,h2,i,s,hi,hB⟩:=h;exact⟨h1,h2.grown hg h2.size (fun k hk=>by have:=hr k hk;omega),i,s,hi,hB.grownR hg (fun k hk=>by have:=hr k hk;omega)⟩
theorem z7u {a w w':World} {row row':Option Nat} (h:a.grownBy w row) (hg:w.grownBy w' row') (hr:∀k,row'=some k->a.heap.size<=k):a.grownBy w' row:=
 ⟨hg.os.trans h.os,hg.tape.trans h.tape,hg.output.trans h.output,aai h.size hg.size,fun i hi Hv=>(hg.block i (aaD hi h.size) (fun e=>by have:=hr i e.symm;omega)).trans (h.block i hi Hv)⟩
def z8H (W0:World) (v:Value) (g:Nat) (w:World) (e:Ending) (w':World):Prop:=
 ∃l u,e= .returned u/\l.length<=11/\Hid (∀x∈l,actB x.k x.a x.b=true)/\OwnA w.heap.size w' u l/\zw W0 v g w'/\w.grownBy w' (some g)
theorem z1k (W0:World) (v:Value) (zs:List Int) (g:Nat) (w:World) (h:RB W0 v zs) (hle:zs.length<=1048576) (hc:zw W0 v g w) (hgl:g<w.heap.size):
  Calls Tryz.prog 66 #[.pointer (some ⟨g,0,none⟩)] w (z8H W0 v g w):=by
 have GP:=h_ h;have gf:=h_ hle;have br:zw W0 v g (w.alloc (.cells #[] 41)):=hc.alloc _;have C8:OwnA w.heap.size (w.alloc (.cells #[] 41)) (.slice (some ⟨w.heap.size,0,none⟩) 0 0) []:=OwnA.made rfl (aaa _);have mU:w.grownBy (w.alloc (.cells #[] 41)) (some g):=zX (World.grownBy.refl _ _) ((aaj _ _).alloc (aaa _) _)
 go_enter Tryz.func66,Tryz.ntmps66
 go_wp2_with fail
 refine(zo W0 v zs g 12 _ GP.out gf.out o_ br).mono ?_
 rintro e w1 ⟨n,rfl,n0,n1,gl,gL⟩;have gR:=zb mU gL;have Gt:=C8.far gL (fun k hk=>by cases hk;exact hgl);have HX:=h_ Gt;obtain⟨nn,rfl⟩:=Int.eq_ofNat_of_zero_le n0;go_wp2
 go_loopw [3,5] (fun u i wr=>∃(j:Nat) (l:List Ac),j<=nn/\i= .int .i64 j/\Hid (l.length=j)/\Hid (∀x∈l,actB x.k x.a x.b=true)/\Hid (OwnA w.heap.size wr u l)/\Hid (zw W0 v g wr)/\Hid (w.grownBy wr (some g))) (fun _ i _=>nn -(intOf i).toNat)
 case atStart=>exact⟨0,[],aab _,rfl,h_ rfl,h_ (fun x hx=>by cases hx),HX,h_ gl,h_ gR⟩
 case round=>
  obtain⟨j,l,hj,rfl,HL,HV,HO,HC,HG⟩:=hrel;have hzr:=HG.out.size
  by_cases Hf:j<nn
  ·have Hu:(j:Int)<(nn:Int):=o_
   go_wp2_with fail
   refine(z29 W0 v zs g _ GP.out gf.out HC.out o_).mono ?_
   rintro e w2 ⟨ak,aa,ab,rfl,hv,gV,gu⟩;have Gp:=gu.size;have CW:=(HO.out.far gu (fun k hk=>by cases hk;exact hgl));have Hh:Below w2.heap.size w2 ((w2.alloc (.cells #[.int .i64 ak,.int .i64 aa,.int .i64 ab] 41)).alloc (.cells #[.int .i64 ak,.int .i64 aa,.int .i64 ab] 41)):=bel_
   have wZ:=h_ (zX (zb HG.out gu) Hh);have HC2:=h_ (gV.below Hh);have GI:=OwnA.kept CW Hh;have Hm:=HL.out
   go_wp2_with (at_builtin;refine Zt rfl _ _ rfl w.heap.size _ l ⟨ak,aa,ab⟩ rfl (w2.heap.size+1) rfl (by simp) GI o_ (by simp;omega) ?_)
   intro u3 w3 Hq gq f8;have HO:=h_ Hq;have HC3:=h_ (zw.grown HC2.out gq (fun k hk=>aaD hgl (World.ownsRow.lt GI k hk).1));have HG3:=h_ (z7u wZ.out gq (fun k hk=>(World.ownsRow.lt GI k hk).1));go_wp2;go_roundw
   case rel=>exact⟨j+1,l++[⟨ak,aa,ab⟩],by omega,by go_num,h_ (by rw[aaW,HL.out];rfl),h_ (fun x hx=>by rw[aaI,aa9] at hx;rcases hx with hx|rfl;exact HV.out x hx;exact hv.out),HO,HC3,HG3⟩
   case measure=>simp[intOf];omega
  ·have Hm:=HL.out
   have hle11:l.length<=11:=o_
   go_wp2;go_ret
   exact⟨l,_,rfl,hle11,HV,HO.out,HC.out,HG.out⟩
theorem za3 {w wr:World} {u:Value} {l:List Ac} {base:Nat} (ho:OwnA base wr u l) (hb:w.heap.size<base) (u0 u1 u2 u3 u4 u5 u6 u7:Value):OwnA w.heap.size ((((((((wr.setCell ⟨w.heap.size,0,none⟩ u0).setCell ⟨w.heap.size,1,none⟩ u1).setCell ⟨w.heap.size,2,none⟩ u2).setCell ⟨w.heap.size,3,none⟩ u3).setCell ⟨w.heap.size,4,none⟩ u4).setCell ⟨w.heap.size,5,none⟩ u5).setCell ⟨w.heap.size,6,none⟩ u6).setCell ⟨w.heap.size,7,none⟩ u7) u l:=by
 have step:∀(W:World) (j:Nat) (x:Value),OwnA base W u l->OwnA base (W.setCell ⟨w.heap.size,j,none⟩ x) u l:=fun W j x hW=>hW.far (jq W ⟨w.heap.size,j,none⟩ x) (fun k hk=>by cases hk;exact hb)
 exact World.ownsRow.mono (step _ _ _ (step _ _ _ (step _ _ _ (step _ _ _ (step _ _ _ (step _ _ _ (step _ _ _ (step _ _ _ ho)))))))) o_
theorem z9g:ze z2g=true:=by
 have h:ze (VQ jl jj 200)=true:=z81 (z50 (zu.1 z0u)) o_ o_;unfold z2g ZX J8;rw[aao h];exact h
theorem xL:DrwS z2g:=by
 have h:ze (VQ jl jj 200)=true:=z81 (z50 (zu.1 z0u)) o_ o_;unfold z2g ZX J8;rw[aao h];exact xj (show([]:List Sp).length <=5 by simp)
theorem Jm (W0:World) (v:Value) (zs:List Int) (g:Nat) (w:World) (h:RB W0 v zs) (hle:zs.length<=1048576) (hc:zw W0 v g w) (hgl:g<w.heap.size):
  Calls Tryz.prog 65 #[.pointer (some ⟨g,0,none⟩)] w (z70 W0 v g w):=by
 have GP:=h_ h;have gf:=h_ hle;clear h hle;have br:zw W0 v g (w.alloc (.cells z8_ 34)):=hc.alloc _;have FS:Blk (w.alloc (.cells z8_ 34)) w.heap.size 34 z8_:=Blk.newAt rfl;have mU:w.grownBy (w.alloc (.cells z8_ 34)) (some g):=zX (World.grownBy.refl _ _) ((aaj _ _).alloc (aaa _) _)
 go_enter Tryz.func65,Tryz.ntmps65
 go_wp2_with fail
 refine(Vv W0 v zs g 2 _ GP.out gf.out o_ br).mono ?_
 rintro e w1 ⟨b,rfl,gl,gL⟩;have H7:=gL.size;simp at H7
 have H6:=FS.grown gL o_;have gR:=zb mU gL;clear mU gL FS br hc
 cases b
 ·go_wp2_with fail
  refine(Jp W0 v zs g _ GP.out gf.out gl o_).mono ?_
  rintro e w2 ⟨S,A0,a0,A1,a1,A2,a2,A3,a3,A4,a4,A5,a5,A6,a6,fs,rfl,Gn,Nw,ho,gV,gu⟩;have fL:=h_ Nw;clear Nw;have go:=H6.grown gu o_;have fA:=zb gR gu;have hO:=ho.mono (show w.heap.size+1<=w1.heap.size+1 by omega);have HF:=h_ (fun u0 u1 u2 u3 u4 u5 u6 u7=>far8 (R:=w.heap.size) hO (aaB _) u0 u1 u2 u3 u4 u5 u6 u7);have HC:=h_ (fun u0 u1 u2 u3 u4 u5 u6 u7=>cur8 gV hgl u0 u1 u2 u3 u4 u5 u6 u7);have HG:=h_ (fun u0 u1 u2 u3 u4 u5 u6 u7=>only8 fA (aaa _) u0 u1 u2 u3 u4 u5 u6 u7);have Fq:=h_ Gn;obtain⟨r_0,r_1,r_2,r_3,r_4,r_5,r_6,r_7,r_f0,r_f1,r_f2,r_f3,r_f4,r_f5,r_f6,r_f7⟩:=go.b8;have Gx:=go.lt;clear Gn ho hO gV gu go fA H6 gR gl;go_wp2;exact bodyPost_ret (v:= .agg #[.slice A0 S.D.fn.length a0,.slice A1 S.D.fl.length a1,.slice A2 S.D.nn.length a2,.slice A3 S.D.nl.length a3,.slice A4 S.D.ss.length a4,.slice A5 S.cs.length a5,.slice A6 S.ds.length a6,.int .i64 S.fund]) (by simp[results,Tryz.results65,go_sem,r_0,r_1,r_2,r_3,r_4,r_5,r_6,r_7,Gx]) rfl ⟨S,_,_,_,_,_,_,_,_,_,_,_,_,_,_,fs,rfl,Fq.out,fL.out,HF.out _ _ _ _ _ _ _ _,HC.out _ _ _ _ _ _ _ _,HG.out _ _ _ _ _ _ _ _⟩
 ·go_wp2_with fail
  refine(Xo _).mono ?_
  rintro e w2 ⟨A0,a0,A1,a1,A2,a2,A3,a3,A4,a4,A5,a5,A6,a6,fs,rfl,ho,Hh⟩;obtain⟨S,hS⟩:∃q,q=z2g:=⟨_,rfl⟩;have Fq:Hid (ze S=true):=h_ (by rw[hS];exact z9g);have fL:Hid (DrwS S):=h_ (by rw[hS];exact xL);rw[<-hS] at ho⊢;clear hS;have go:=H6.below Hh H6.lt;have fA:=zX gR Hh;have gV:=gl.below Hh;have hO:=ho.mono (show w.heap.size+1<=w1.heap.size by omega);have HF:=h_ (fun u0 u1 u2 u3 u4 u5 u6 u7=>far8 (R:=w.heap.size) hO (aaB _) u0 u1 u2 u3 u4 u5 u6 u7);have HC:=h_ (fun u0 u1 u2 u3 u4 u5 u6 u7=>cur8 gV hgl u0 u1 u2 u3 u4 u5 u6 u7);have HG:=h_ (fun u0 u1 u2 u3 u4 u5 u6 u7=>only8 fA (aaa _) u0 u1 u2 u3 u4 u5 u6 u7);obtain⟨r_0,r_1,r_2,r_3,r_4,r_5,r_6,r_7,r_f0,r_f1,r_f2,r_f3,r_f4,r_f5,r_f6,r_f7⟩:=go.b8;have Gx:=go.lt;clear ho hO gV Hh go fA H6 gR gl;go_wp2;exact bodyPost_ret (v:= .agg #[.slice A0 S.D.fn.length a0,.slice A1 S.D.fl.length a1,.slice A2 S.D.nn.length a2,.slice A3 S.D.nl.length a3,.slice A4 S.D.ss.length a4,.slice A5 S.cs.length a5,.slice A6 S.ds.length a6,.int .i64 S.fund]) (by simp[results,Tryz.results65,go_sem,r_0,r_1,r_2,r_3,r_4,r_5,r_6,r_7,Gx]) rfl ⟨S,_,_,_,_,_,_,_,_,_,_,_,_,_,_,fs,rfl,Fq.out,fL.out,HF.out _ _ _ _ _ _ _ _,HC.out _ _ _ _ _ _ _ _,HG.out _ _ _ _ _ _ _ _⟩
def z8K (w:World) (e:Ending) (w':World):Prop:=
 ∃S A0 a0 A1 a1 A2 a2 A3 a3 A4 a4 A5 a5 A6 a6 fs l u,e= .returned (.tuple #[.agg #[.slice A0 S.D.fn.length a0,.slice A1 S.D.fl.length a1,.slice A2 S.D.nn.length a2,.slice A3 S.D.nl.length a3,.slice A4 S.D.ss.length a4,.slice A5 S.cs.length a5,.slice A6 S.ds.length a6,.int .i64 S.fund],u])/\ze S=true/\DrwS S/\l.length<=11/\Hid (∀x∈l,actB x.k x.a x.b=true)/\
  OwnSt w.heap.size w' (.slice A0 S.D.fn.length a0) (.slice A1 S.D.fl.length a1) (.slice A2 S.D.nn.length a2) (.slice A3 S.D.nl.length a3) (.slice A4 S.D.ss.length a4) (.slice A5 S.cs.length a5) (.slice A6 S.ds.length a6) S fs/\OwnA w.heap.size w' u l/\Below w.heap.size w w'
theorem z1c (v:Value) (zs:List Int) (w:World) (h:RB w v zs) (hle:zs.length<=1048576):
  Calls Tryz.prog 14 #[v] w (z8K w):=by
 have GP:=h_ h;have gf:=h_ hle
 go_enter Tryz.func14,Tryz.ntmps14
 go_wp2_with fail
 have Hi:Below w.heap.size w (w.alloc (.cells z8_ 34)):=bel_
 have FS:Blk (w.alloc (.cells z8_ 34)) w.heap.size 34 z8_:=Blk.newAt rfl;obtain⟨w0,GG⟩:∃q,q=w.alloc (.cells z8_ 34):=⟨_,rfl⟩;have MI:w0.heap.size=w.heap.size+1:=by rw[GG];simp
 rw[<-GG] at Hi FS⊢;have wJ:=h_ (GP.out.below Hi);refine(z9R v zs _ wJ.out gf.out).mono ?_
 rintro e w1 ⟨g,rfl,gl⟩;have hgl:=gl.lt;have mU:w0.heap.size<=g:=gl.1
 go_wp2_with fail
 refine(Jm w0 v zs g _ wJ.out gf.out gl hgl).mono ?_
 rintro e w2 ⟨S,A0,a0,A1,a1,A2,a2,A3,a3,A4,a4,A5,a5,A6,a6,fs,rfl,Gn,Nw,Hn,gV,gu⟩;have fL:=h_ Nw;have Gp:=gu.size;have Fq:=h_ Gn
 go_wp2_with fail
 obtain⟨w3,f8⟩:∃q,q=w2.alloc (.cells #[.slice A0 S.D.fn.length a0,.slice A1 S.D.fl.length a1,.slice A2 S.D.nn.length a2,.slice A3 S.D.nl.length a3,.slice A4 S.D.ss.length a4,.slice A5 S.cs.length a5,.slice A6 S.ds.length a6,.int .i64 S.fund] 34):=⟨_,rfl⟩;have Hg:Below w2.heap.size w2 w3:=f8▸(aaj _ _).alloc (aaa _) _;have Fh:Blk w3 w2.heap.size 34 #[.slice A0 S.D.fn.length a0,.slice A1 S.D.fl.length a1,.slice A2 S.D.nn.length a2,.slice A3 S.D.nl.length a3,.slice A4 S.D.ss.length a4,.slice A5 S.cs.length a5,.slice A6 S.ds.length a6,.int .i64 S.fund]:=f8▸Blk.newAt rfl
 go_upto_region 3 with (fail)
 rw[<-f8];have Hq:=Hn.kept Hg;have GK:=gV.below Hg;have Gb:=Fh.lt;obtain⟨z_0,z_1,z_2,z_3,z_4,z_5,z_6,z_7⟩:=Fh.c8;generalize w2.heap.size=Z at*;refine qD (n:=3) (S:=fun w'=>w'.cell? ⟨Z,0,none⟩=some (.slice A0 S.D.fn.length a0)/\w'.cell? ⟨Z,1,none⟩=some (.slice A1 S.D.fl.length a1)/\w'.cell? ⟨Z,2,none⟩=some (.slice A2 S.D.nn.length a2)/\w'.cell? ⟨Z,3,none⟩=some (.slice A3 S.D.nl.length a3)/\w'.cell? ⟨Z,4,none⟩=some (.slice A4 S.D.ss.length a4)/\w'.cell? ⟨Z,5,none⟩=some (.slice A5 S.cs.length a5)/\w'.cell? ⟨Z,6,none⟩=some (.slice A6 S.ds.length a6)/\w'.cell? ⟨Z,7,none⟩=some (.int .i64 S.fund)) k_ ⟨z_0,z_1,z_2,z_3,z_4,z_5,z_6,z_7⟩ (fun hS=>?_)
 have GB:Below w3.heap.size w3 w3.drew:=(aaj _ _).drew;generalize w3.drew=w4 at*;have gz:=Hq.kept GB;have cf:=GK.below GB;have BA:=GB.size;have CL:=Fh.below GB Gb;refine tE_ 0 rfl rfl ?_;(try simp only[lp_])
 refine tF_ 1 rfl ?_;(try simp only[lp_])
 (refine zm (i:=2) rfl k_ (fun K hK=>?_));(rw[aao (by rfl)])
 go_simp
 go_at_call 66
 refine(z1k w0 v zs g _ wJ.out gf.out cf o_).mono ?_
 rintro e w5 ⟨l,u,rfl,MB,hva,hoA,Cs,Cb⟩;have fk:=gz.far Cb (fun k hk=>by cases hk;omega);have M7:=CL.grown Cb o_;have gk:=Cs.2.1;have fJ:=FS.below gk FS.lt;have H8:=Hi.trans (gk.mono o_);have FU:w.heap.size<w1.heap.size+1:=o_
 have HF:=h_ (fun u0 u1 u2 u3 u4 u5 u6 u7=>(far8 (R:=w.heap.size) fk FU u0 u1 u2 u3 u4 u5 u6 u7).mono (Nat.le_of_lt FU));have HB:=h_ (fun u0 u1 u2 u3 u4 u5 u6 u7=>bel8 (R:=w.heap.size) H8 (aaa _) u0 u1 u2 u3 u4 u5 u6 u7);have hl4:w.heap.size<w4.heap.size:=o_
 have HA:=h_ (fun u0 u1 u2 u3 u4 u5 u6 u7=>za3 hoA hl4 u0 u1 u2 u3 u4 u5 u6 u7);obtain⟨r_0,r_1,r_2,r_3,r_4,r_5,r_6,r_7,r_f0,r_f1,r_f2,r_f3,r_f4,r_f5,r_f6,r_f7⟩:=fJ.b8;have Gx:=fJ.lt;have rk:=h_ M7
 go_wp2_with fail
 refine hK _ _ (fun _=>⟨rk.out.cell 0,rk.out.cell 1,rk.out.cell 2,rk.out.cell 3,rk.out.cell 4,rk.out.cell 5,rk.out.cell 6,rk.out.cell 7⟩) (fun _=>?_)
 (try simp only[lp_])
 (refine zm (i:=3) rfl k_ (fun K hK=>?_));(rw[aao (by rfl)])
 go_simp;refine hK _ _ (fun h=>by cases h) (fun _=>?_)
 (try simp only[lp_])
 (refine zm (i:=4) rfl k_ (fun K hK=>?_));(rw[aao (by rfl)])
 go_simp;refine hK _ _ (fun h=>by cases h) (fun _=>?_)
 (try simp only[lp_])
 refine jr k_ ?_ _
 go_wp2;exact bodyPost_ret (v:= .tuple #[.agg (s8_ A0 A1 A2 A3 A4 A5 A6 a0 a1 a2 a3 a4 a5 a6 S),u]) (by simp[results,Tryz.results14,go_sem,r_0,r_1,r_2,r_3,r_4,r_5,r_6,r_7,Gx]) rfl ⟨S,_,_,_,_,_,_,_,_,_,_,_,_,_,_,fs,l,u,rfl,Fq.out,fL.out,MB,hva,HF.out _ _ _ _ _ _ _ _,HA.out _ _ _ _ _ _ _ _,HB.out _ _ _ _ _ _ _ _⟩
end Go.Proofs.YtnjcpljhmhdhkaaGreat
