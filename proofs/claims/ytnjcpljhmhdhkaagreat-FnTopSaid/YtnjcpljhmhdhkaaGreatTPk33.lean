/- part 33 -/
import Derived.Test.YtnjcpljhmhdhkaaGreatTPk32
import Derived.Deep.Slices
import Derived.Deep.Fields
import Derived.ChangeSame
import Derived.OwnWalk
import Derived.StillTailTactics
import Derived.Deep.RegionHeld3
set_option linter.unusedSimpArgs false
set_option linter.unusedVariables false
set_option maxRecDepth 100000
set_option maxHeartbeats 8000000
namespace Go.Proofs.YtnjcpljhmhdhkaaGreat
open Go.ChangeShapes Go.WideShapes Go.RowKit
structure Ac where
 k:Int
 a:Int
 b:Int
def Ac.cs (r:Ac):List Value:=[.int .i64 r.k,.int .i64 r.a,.int .i64 r.b]
def RA (w:World) (v:Value) (l:List Ac):Prop:=RS w 3 v l.length (l.flatMap Ac.cs)
theorem RA.form {w:World} {v:Value} {l:List Ac} (h:RA w v l):∃A c,v= .slice A l.length c/\l.length<=c/\l.length<=maxLen/\
  (0<l.length->∃b off,A=some ⟨b,off,none⟩/\b<w.heap.size/\∀k (hk:k<l.length),w.cell? ⟨b,off+k*3,none⟩=some (.int .i64 l[k].k)/\w.cell? ⟨b,off+k*3+1,none⟩=some (.int .i64 l[k].a)/\
   w.cell? ⟨b,off+k*3+2,none⟩=some (.int .i64 l[k].b)):=by
 obtain⟨_,A,c,hv,h1,h2,h3⟩:=h;refine⟨A,c,hv,h1,h2,fun hn=>?_⟩
 obtain⟨b,off,hA,Hf,hc⟩:=h3 hn;refine⟨b,off,hA,Hf,fun k hk=>?_⟩
 have g:=fun j hj=>yA Ac.cs 3 (fun _=>rfl) l k j hk hj
 refine⟨?_,?_,?_⟩
 ·exact hc (k*3+0) _ (by rw[g 0 o_];rfl)
 ·have:=hc (k*3+1) _ (by rw[g 1 o_];rfl);rwa [<-aak] at this
 ·have:=hc (k*3+2) _ (by rw[g 2 o_];rfl);rwa [<-aak] at this
section
variable {H:Type} {enc:TypeId×Value->H} {w:World} {base:Nat} {spare:Nat->Bool} {mz:Bool}
end
theorem z9a:(Tryz.prog.info? 41).map (fun i=>(i.zero,i.size,i.bytes))=some (some (.agg #[.int .i64 0,.int .i64 0,.int .i64 0]),3,24):=by kernel_rfl
def OwnA (base:Nat) (w:World) (v:Value) (l:List Ac):Prop:=w.ownsRow base 41 3 v l.length (l.flatMap Ac.cs)
theorem OwnA.reads {base:Nat} {w:World} {v:Value} {l:List Ac} (h:OwnA base w v l):RA w v l:=kI h
theorem OwnA.kept {base:Nat} {w w':World} {v:Value} {l:List Ac} (h:OwnA base w v l) (hb:Below w.heap.size w w'):OwnA base w' v l:=ql h hb
open Go.RowKit
attribute [local go_sem ↓] zr zq zU zT
theorem Vv (W0:World) (v:Value) (zs:List Int) (g:Nat) (n:Int) (w:World) (h:RB W0 v zs) (hle:zs.length<=1048576) (hn:0<n) (hc:zw W0 v g w):
  Calls Tryz.prog 130 #[.pointer (some ⟨g,0,none⟩),.int .i64 n] w fun e w'=>∃b:Bool,e= .returned (.bool b)/\zw W0 v g w'/\w.grownBy w' (some g):=by
 go_enter Tryz.func130,Tryz.ntmps130
 go_wp2_with fail
 refine(zo W0 v zs g n _ h hle hn hc).mono ?_
 rintro e w1 ⟨x,rfl,x0,x1,gl,gL⟩;go_wp2;go_ret
 exact⟨_,rfl,gl,gL⟩
theorem zy {a w:World} {row:Option Nat} (h:a.grownBy w row) {p:Addr} (hp:a.heap.size<=p.block) (u:Value):a.grownBy (w.setCell p u) row:=
 ⟨h.os,h.tape,h.output,by simpa[World.setCell] using h.size,fun i hi Hv=>(Below.heap_setCell w p u i (fun e=>by omega)).trans (h.block i hi Hv)⟩
theorem z6I (W0:World) (v:Value) (zs:List Int) (g:Nat) (w:World) (h:RB W0 v zs) (hle:zs.length<=1048576) (hc:zw W0 v g w):
  Calls Tryz.prog 271 #[.pointer (some ⟨g,0,none⟩)] w fun e w'=>∃x y:Int,e= .returned (.agg #[.int .i64 x,.int .i64 y])/\zw W0 v g w'/\w.grownBy w' (some g):=by
 have Hf:=hc.lt
 go_enter Tryz.func271,Tryz.ntmps271
 go_wp2_with fail
 refine(zo W0 v zs g 13 _ h hle o_ (hc.alloc _)).mono ?_
 rintro e w1 ⟨x,rfl,x0,x1,gl,gL⟩
 go_wp2_with fail
 refine(zo W0 v zs g 13 _ h hle o_ gl).mono ?_
 rintro e w2 ⟨y,rfl,y0,y1,gV,gu⟩;have hR:Blk w2 w.heap.size 106 #[.int .i64 0,.int .i64 0]:=(((Blk.new w _ _).grown gL o_).grown gu o_);obtain⟨r_0,r_1,r_f0,r_f1⟩:=hR.b2;have CI:=hR.lt;have HC:=h_ (((gV.far (p:=⟨w.heap.size,0,none⟩) Hf (.int .i64 x))).far (p:=⟨w.heap.size,1,none⟩) Hf (.int .i64 y));have HG:=h_ (zb (zb (jf (World.grownBy.refl w (some g)) (.cells #[.int .i64 0,.int .i64 0] 106)) gL) gu);clear gL gu hR;go_wp2;refine bodyPost_ret (v:= .agg #[.int .i64 x,.int .i64 y]) (by simp[results,Tryz.results271,go_sem,r_0,r_1,CI]) rfl ⟨_,_,rfl,HC.out,zy (p:=⟨w.heap.size,1,none⟩) (zy (p:=⟨w.heap.size,0,none⟩) HG.out (aaa _) (.int .i64 x)) (aaa _) (.int .i64 y)⟩
theorem z0C {ns ls:List Pr} (h:zC ns ls) (k:Int):zC ns (jQ ns ls k):=by
 unfold jQ
 split
 ·rename_i hk
  obtain⟨_,m,rfl,hm⟩:=JH hk;have:=z6J h hm
  simpa using this
 ·exact h
theorem JV {ns ls:List Pr} (h:zC ns ls) (a b:Int):zC ns (addL ns ls a b):=by
 unfold addL
 split
 ·rename_i hk
  unfold addB at hk;rw[aaG] at hk;exact zu.1 hk.2
 ·exact h
theorem z7p {ns ls:List Pr} (h:zC ns ls) (k a b:Int):zC (yz ns ls k a b) (yD ns ls k a b):=by
 unfold yz yD
 by_cases h1:k=1
 ·rw[aaq o_,aao h1];exact JV h a b
 ·by_cases h2:k=2
  ·rw[aaq o_,aaq h1,aao h2];exact z0C h a
  ·by_cases h3:k=3
   ·rw[aao h3,aaq h1,aaq h2,aao h3]
    unfold qr qs
    by_cases hj:j5 ns ls a=true
    ·rw[aao hj,aao hj]
     unfold j5 at hj;rw[aaG] at hj;exact zu.1 hj.2
    ·rw[aaq hj,aaq hj];exact h
   ·rw[aaq h3,aaq h1,aaq h2,aaq h3];exact h
theorem QD:∀(ss:List Sp) (nn nl N L:List Pr),zC N L->jA nn nl N L ss=true->zC nn nl/\∀k (hk:k<ss.length),zC ss[k].ns ss[k].ls
 | [],nn,nl,N,L,h,h1=>by
  rw[jA,yp] at h1;obtain⟨rfl,rfl⟩:=h1;exact⟨h,fun k hk=>absurd hk (by simp)⟩
 |s::r,nn,nl,N,L,h,h1=>by
  obtain⟨⟨h2,h3⟩,h4,h5⟩:=k6.1 h1;obtain⟨h6,h7⟩:=QD r nn nl _ _ (z7p h s.k s.a s.b) h5;refine⟨h6,fun k hk=>?_⟩
  cases k with
  |zero=>rw[<-h2,<-h3] at h;exact h
  |succ k=>exact h7 k (by simpa using hk)
theorem z58:∀(ss:List Sp),(∀k (hk:k<ss.length),zC ss[k].ns ss[k].ls)->sumT ss<=32*ss.length
 | [],_=>by simp[sumT]
 |s::r,h=>by
  have h0:=h 0 (by simp);have h1:=z58 r (fun k hk=>h (k+1) (by simp;omega));have h2:=h0.2.1;have h3:=h0.2.2.1;simp at h2 h3
  simp only[sumT,aaU]
  omega
theorem z3D {D:Dr} (h:okD D=true):DrLe D:=by
 obtain⟨h1,h2,h3⟩:=x9.1 h;obtain⟨h4,h5⟩:=QD D.ss _ _ _ _ h1 h3;have h6:=z58 D.ss h5;have a1:=h1.2.1;have a2:=h1.2.2.1;have a3:=h4.2.1;have a4:=h4.2.2.1;exact⟨by omega,by omega,by omega,by omega,by omega,fun k hk=>by have:=(h5 k hk).2.1;have:=(h5 k hk).2.2.1;omega,by omega⟩
theorem z8m {D:Dr} (h:okD D=true):zC D.nn D.nl:=by
 obtain⟨h1,h2,h3⟩:=x9.1 h;exact(QD D.ss _ _ _ _ h1 h3).1
theorem z50 {ns ls:List Pr} (h:zC ns ls):okD ⟨ns,ls,ns,ls,[]⟩=true:=by
 rw[x9];exact⟨h,by simp,by rw[jA,yp];exact⟨rfl,rfl⟩⟩
def b01 (b:Bool):Int:=if b then 1 else 0
noncomputable def doS (S:St) (k a b:Int):St:=
 if ze S&&actB k a b then
  (if k=4 then jk S else if k=5 then colS S a else if k=6 then swpS S a b else if k=7 then stoS S a b else if k=8 then yc S a else if k=9 then S else chgS S k a b)
 else S
noncomputable def doN (S:St) (k a b:Int):Int:=
 if ze S&&actB k a b then
  (if k=4 then b01 (jy S) else if k=5 then b01 (colB S a) else if k=6 then b01 (swpB S a b) else if k=7 then b01 (stoB S a b) else if k=8 then b01 (yk S a) else if k=9 then qF S.D.nn S.D.nl else b01 (chgB S k a b))
 else -1
theorem z1l {S:St} {k a b:Int} (h:(ze S&&actB k a b)=false):doS S k a b=S/\doN S k a b= -1:=by
 unfold doS doN;rw[h];exact⟨rfl,rfl⟩
theorem z85 {S:St} (k a b:Int) (h:ze S=true):ze (doS S k a b)=true:=by
 unfold doS
 split
 ·split
  ·exact z9r h
  ·split
   ·exact z7N _ h
   ·split
    ·exact z9S _ _ h
    ·split
     ·exact z87 _ _ h
     ·split
      ·exact z9L _ h
      ·split
       ·exact h
       ·exact z9U _ _ _ h
 ·exact h
theorem z7M {S:St} (h:ze S=true):StLe S:=by
 obtain⟨h1,h2,_,h4,_⟩:=jp.1 h;refine⟨z3D h1,?_,?_⟩
 ·rcases h4 with h4|h4
  ·omega
  ·have:=(vQ.1 h4)
   have h5:=zD S.D.nn S.D.nl;rw[zK this.1] at h5;omega
 ·have:=(ym.1 h2).1
  omega
theorem z6g (ns ls:List Pr):0<=qF ns ls/\qF ns ls<=40:=by
 have:=QF ns ls;unfold qF;split<;>omega
def acI (l:List Ac) (j:Nat):Ac:=l.getD j ⟨0,0,0⟩
noncomputable def runS (S:St) (l:List Ac):Nat->St
 |0=>S
 |j+1=>doS (runS S l j) (acI l j).k (acI l j).a (acI l j).b
theorem z0Q {S:St} {l:List Ac} (h:ze S=true):∀j,ze (runS S l j)=true
 |0=>h
 |j+1=>z85 _ _ _ (z0Q h j)
def PlcQ (S:St):Prop:=∀d∈S.ds,d.k+1<=((z9 S.D.nn S.D.nl).length :Int)
theorem x3 {S:St} (f c:Int) (h:PlcQ S):PlcQ (stoS S f c):=by
 unfold stoS
 split
 ·rename_i hc
  unfold stoB at hc;rw[aaG,aaG] at hc;obtain⟨hw,k,rfl,hk,hm⟩:=z1q hc.2.1;intro d hd
  replace hd:d∈S.ds++[z8b S k c]:=hd
  show d.k+1<=((z9 S.D.nn S.D.nl).length :Int)
  rw[aaI,aa9] at hd
  rcases hd with hd|rfl
  ·exact h d hd
  ·show numN S.D.nn S.D.nl k+1<=_
   unfold numN idxN;rw[aao hm];have:=abt hm;have:=Xd hw;omega
 ·exact h
theorem x4 {S:St} (x:Int) (h:PlcQ S):PlcQ (colS S x):=by unfold colS;split<;>exact h
def DrwS (S:St):Prop:=S.D.ss.length<=5/\dayN S.ds<=S.ds.length/\PlcQ S
theorem za9 {S:St} (x:Int) (h:DrwS S):DrwS (colS S x):=by
 refine⟨?_,?_,x4 x h.2.2⟩
 ·unfold colS;split<;>exact h.1
 ·unfold colS;split<;>exact h.2.1
theorem za8 {S:St} (f c:Int) (h:DrwS S):DrwS (stoS S f c):=by
 refine⟨?_,?_,x3 f c h.2.2⟩
 ·unfold stoS;split<;>exact h.1
 ·unfold stoS
  split
  ·show dayN (S.ds++[z8b S f c])<=((S.ds++[z8b S f c]).length :Int)
   have h2:=h.2.1
   have e:dayN (S.ds++[z8b S f c])=dayN S.ds+1:=by
    have h0:¬(S.ds++[z8b S f c]).length =0:=by simp
    conv=>lhs;unfold dayN
    rw[aaq h0];have e1:(S.ds++[z8b S f c]).length -1=S.ds.length:=by simp
    rw[e1];simp[dpI,z8b]
   rw[e];simp
   omega
  ·exact h.2.1
theorem xj {D:Dr} {x:Int} (h:D.ss.length<=5):DrwS ⟨D,[],[],x⟩:=⟨h,Int.le_refl _,fun d hd=>by cases hd⟩
noncomputable def fwnN (ns ls:List Pr) (n:Int):Int:=if inB n 1 ((ordW ns ls).length :Int) then(((ordW ns ls).getD (n -1).toNat 0:Nat):Int) else -1
theorem z8Z {ns ls:List Pr} {n:Int} (h0:1<=n) (h1:n<=(ordW ns ls).length):∃f:Nat,fwnN ns ls n=f/\numN ns ls f=n:=by
 obtain⟨k,rfl⟩:∃k:Nat,n=(k:Int)+1:=⟨(n -1).toNat,by omega⟩;have hk:k<(ordW ns ls).length :=o_
 refine⟨(ordW ns ls)[k],?_,?_⟩
 ·unfold fwnN
  rw[aao (zc.2 ⟨h0,h1⟩),show((k:Int)+1 -1).toNat =k by omega,aa6,aac hk];rfl
 ·unfold numN idxN
  rw[aao (abg hk),List.Nodup.idxOf_getElem (by unfold ordW;exact z15 _ _ _) k hk]
theorem z7X (vn vl:Value) (ns ls:List Pr) (n:Int) (w:World) (hn:RP w vn ns) (hl:RP w vl ls):
  CB_ 24 #[.agg #[vn,vl],.int .i64 n] w (.int .i64 (fwnN ns ls n)):=by
 have Hi:Below w.heap.size w (w.alloc (.cells #[vn,vl] 27)):=bel_
 have uJ:(ordW ns ls).length <=40:=by
  unfold ordW;rw[kK];have:=xN ns ls (z9 ns ls).length;have:=zD ns ls;omega
 have HR:Hid (fwnN ns ls n=if inB n 1 ((ordW ns ls).length :Int) then(((ordW ns ls).getD (n -1).toNat 0:Nat):Int) else -1):=h_ rfl
 go_enter Tryz.func24,Tryz.ntmps24
 go_wp2_with fail
 refine(VS _ _ ns ls _ (hn.below Hi) (hl.below Hi)).mono ?_
 rintro e w1 ⟨v1,rfl,Hj,Hb⟩;have Ha:=Hi.trans (Hb.mono Hi.size);have Mk:=Hj.reads;clear Hj Hb;obtain⟨A,c,rfl,hc,hm,hcell⟩:=Mk.form;rw[za] at hc hm hcell;have nF:Hid ((natI (ordW ns ls)).length =(ordW ns ls).length):=h_ (za _);rw[nF.out];generalize ordW ns ls=O at*
 cases Gg:inB n 1 (O.length:Int)
 ·rw[Gg] at HR
  go_wp2_with fail
  refine(zn n 1 _ false _ Gg).mono ?_
  rintro e w' ⟨rfl,rfl⟩;go_wp2;go_ret
  exact⟨zi (by rw[HR.out];rfl),Ha⟩
 ·have hb:=zc.1 Gg
  obtain⟨k,rfl⟩:∃k:Nat,n=(k:Int)+1:=⟨(n -1).toNat,by omega⟩;have hk:k<O.length:=o_
  obtain⟨b,off,rfl,Hd,Hz⟩:=hcell o_;have hx:=Hz k hk;rw[qg] at hx
  have HV:Hid (fwnN ns ls ((k:Int)+1)=((O.getD k 0:Nat):Int)):=h_ (by
   rw[HR.out,Gg,show((k:Int)+1 -1).toNat =k by omega];rfl)
  have Bm:IntKind.i64.wrap ((k:Int)+1 -1)=(k:Int):=by
   rw[show(k:Int)+1 -1=(k:Int) by omega];exact aaP _ o_
  have ik1:(0:Int)<=(k:Int):=o_
  have ik2:(k:Int)<(O.length:Int):=o_
  clear hcell Hz HR hm hc
  go_wp2_with fail
  refine(zn _ 1 _ true _ Gg).mono ?_
  rintro e w' ⟨rfl,rfl⟩;generalize O.getD k 0=d at*;go_wp2;go_ret
  exact⟨zi (by rw[HV.out]),Ha⟩
theorem al1 {w:World} {o1:Obj} {b i:Nat} {x:Value} (h:w.cell? ⟨b,i,none⟩=some x) (hb:b<w.heap.size):(w.alloc o1).cell? ⟨b,i,none⟩=some x:=
 (((aaj w.heap.size w).alloc (aaa _) o1).cell (p:=⟨b,i,none⟩) hb).trans h
theorem new3 {w:World} {x y z:Value} {t:TypeId}:(w.alloc (.cells #[x,y,z] t)).cell? ⟨w.heap.size,0,none⟩=some x/\(w.alloc (.cells #[x,y,z] t)).cell? ⟨w.heap.size,1,none⟩=some y/\(w.alloc (.cells #[x,y,z] t)).cell? ⟨w.heap.size,2,none⟩=some z:=
 ⟨(Blk.newAt rfl).cell 0,(Blk.newAt rfl).cell 1,(Blk.newAt rfl).cell 2⟩
theorem z14 {l:List Dp} {d:Dp} (h:qn l=false∨qn (l++[d])=false):adpL l d=l/\adpB l d=false:=by
 have hb:adpB l d=false:=by unfold adpB;rcases h with h|h<;>simp[h]
 exact⟨by unfold adpL;rw[hb];rfl,hb⟩
theorem z4O {l:List Dp} {d:Dp} (h1:qn l=true) (h2:qn (l++[d])=true):adpL l d=l++[d]/\adpB l d=true:=by
 have hb:adpB l d=true:=by unfold adpB;rw[h1,h2];rfl
 exact⟨by unfold adpL;rw[hb];rfl,hb⟩
theorem Qr {w:World} {ops:Array Oper} {o:Oper} {a:Act} {K:Act->World->Prop} {Q:Exit->Act->World->Prop} {E:Prop} (Fu:o.guard=none) (s x:Operand)
  (ho:o.op= .call { callee:= .builtin .append,args:= #[s,x],argTypes:= #[32,32] })
  (base:Nat) (v:Value) (ds:List Dp) (d:Dp) (g:Nat) (hs:a.eval s=v) (hx:a.eval x= .slice (some ⟨g,0,none⟩) 1 1) (hg:w.cell? ⟨g,0,none⟩=some (.int .i64 d.k)/\w.cell? ⟨g,1,none⟩=some (.int .i64 d.a)/\w.cell? ⟨g,2,none⟩=some (.int .i64 d.b))
  (hgl:g<w.heap.size) (hown:zx base w v ds) (Hm:ds.length<=1048576) (Hs:base<=w.heap.size)
  (h:∀A c w',zx base w' (.slice A (ds.length+1) c) (ds++[d])->w.grownBy w' v.ownBlock->K (a.put o.dst (.slice A (ds.length+1) c)) w'):
  if Region.wanted o (yielded ops a.tmps)=true then Oper.wp Tryz.prog o a w K Q else E:=by
 obtain⟨i,hi,hz,Hy,gp⟩:=info_parts ki
 have hr:RS w 3 (.slice (some ⟨g,0,none⟩) 1 1) 1 d.cs:=⟨rfl,some ⟨g,0,none⟩,1,rfl,aaa _,by simp[maxLen],fun _=>⟨g,0,rfl,hgl,fun j u hj=>by
  match j,hj with
  |0,hj=>cases hj;exact hg.1
  |1,hj=>cases hj;exact hg.2.1
  |2,hj=>cases hj;exact hg.2.2
  |j+3,hj=>simp[Dp.cs] at hj⟩⟩
 refine xu Fu s x 32 ho base 48 i (.agg #[.int .i64 0,.int .i64 0,.int .i64 0]) 3 24 Tryz.underlying32 hi hz Hy gp rfl (by decide) v _ ds.length 1 _ d.cs hs hx hown hr
  (by intro y hy;simp[Dp.cs] at hy;rcases hy with rfl|rfl|rfl<;>rfl) o_ (by decide) Hs fun A c w' e1 e2 _=>h A c w' (by
   have e4:(ds++[d]).flatMap Dp.cs=ds.flatMap Dp.cs++d.cs:=by simp
   unfold zx;rw[e4,show(ds++[d]).length =ds.length+1 by simp];exact e1) e2
theorem Xy {w:World} {ops:Array Oper} {o:Oper} {a:Act} {K:Act->World->Prop} {Q:Exit->Act->World->Prop} {E:Prop} (Fu:o.guard=none) (s x:Operand)
  (ho:o.op= .call { callee:= .builtin .append,args:= #[s,x],argTypes:= #[32,32] })
  (base:Nat) (g:Nat) (v:Value) (l:List Dp) (hs:a.eval s= .slice (some ⟨g,0,none⟩) 0 0) (hx:a.eval x=v) (hown:zx base w (.slice (some ⟨g,0,none⟩) 0 0) []) (hr:RDp w v l) (Hm:l.length<=1048576) (Hs:base<=w.heap.size)
  (h:∀A c w',zx base w' (.slice A l.length c) l->w.grownBy w' (some g)->K (a.put o.dst (.slice A l.length c)) w'):
  if Region.wanted o (yielded ops a.tmps)=true then Oper.wp Tryz.prog o a w K Q else E:=by
 obtain⟨i,hi,hz,Hy,gp⟩:=info_parts ki
 refine xu Fu s x 32 ho base 48 i (.agg #[.int .i64 0,.int .i64 0,.int .i64 0]) 3 24 Tryz.underlying32 hi hz Hy gp rfl (by decide) _ v 0 l.length [] (l.flatMap Dp.cs) hs hx hown hr
  (jF l) o_ (by decide) Hs fun A c w' e1 e2 _=>?_
 rw[aaF] at e1⊢;exact h A c w' e1 e2
theorem z2Q (v:Value) (l:List Dp) (d:Dp) (w:World) (h:RDp w v l) (hle:l.length<=1048576):
  Calls Tryz.prog 112 #[v,.agg #[.int .i64 d.k,.int .i64 d.a,.int .i64 d.b]] w (Vp (adpL l d) (adpB l d) w):=by
 obtain⟨E,hE⟩:∃E,adpL l d=E:=⟨_,rfl⟩;obtain⟨BB,cM⟩:∃b,adpB l d=b:=⟨_,rfl⟩;rw[hE,cM];have HE:=h_ hE;have H9:=h_ cM;clear hE cM;obtain⟨w0,GG⟩:∃u,u=w.alloc (.cells #[.int .i64 d.k,.int .i64 d.a,.int .i64 d.b] 48):=⟨_,rfl⟩;have F8:Blk w0 w.heap.size 48 #[.int .i64 d.k,.int .i64 d.a,.int .i64 d.b]:=GG▸Blk.newAt rfl;have Hi:Below w.heap.size w w0:=GG▸(aaj _ _).alloc (aaa _) _;have MI:w0.heap.size=w.heap.size+1:=by rw[GG];simp
 have Bs:=h_ GG;have HR:=h_ (h.below Hi);have rA:=h_ h;clear h GG
 go_enter Tryz.func112,Tryz.ntmps112
 go_upto_region 1 with (fail)
 rw[<-Bs.out];clear Bs;obtain⟨x_0,x_1,x_2⟩:=F8.c3;have q0:w.heap.size<w0.heap.size:=o_
 clear F8 MI
 go_cut [6] (fun s6 wx=>∃A c,s6= .slice A (l.length+1) c/\zx w.heap.size wx (.slice A (l.length+1) c) (l++[d])/\Below w.heap.size w wx)
 case first=>
  go_region_held3 (fun w'=>w'.cell? ⟨w.heap.size,0,none⟩=some (.int .i64 d.k)/\w'.cell? ⟨w.heap.size,1,none⟩=some (.int .i64 d.a)/\w'.cell? ⟨w.heap.size,2,none⟩=some (.int .i64 d.b))
   (first|(with_reducible exact⟨by assumption,by assumption,by assumption⟩)|go_keep|(exact⟨al1 (by assumption) (by assumption),al1 (by assumption) (by assumption),al1 (by assumption) (by assumption)⟩))
   (first|(go_at_call 134;refine Calls.mono (ye _ l _ (HR.out.below bel_) hle) ?_;rintro e w1 ⟨v1,rfl,Hj,Hb⟩;(have gl:=bdC Hb);have H7:=Hb.size;(try simp at H7);(try have gY:=p0_ w w1);(try have Gv:=p1_ w w1);(have rs:w0.heap.size<=w1.heap.size:=by omega);(try have rg:w0.heap.size<w1.heap.size:=by omega);(try have z00:w1.cell? ⟨w0.heap.size,0,none⟩=some (.int .i64 d.k):=(gl (w0.heap.size) 0 (by first|omega|(simp;done)|(simp;omega))).trans (by simp;done));(try have z01:w1.cell? ⟨w0.heap.size,1,none⟩=some (.int .i64 d.a):=(gl (w0.heap.size) 1 (by first|omega|(simp;done)|(simp;omega))).trans (by simp;done));(try have z02:w1.cell? ⟨w0.heap.size,2,none⟩=some (.int .i64 d.b):=(gl (w0.heap.size) 2 (by first|omega|(simp;done)|(simp;omega))).trans (by simp;done));(have s0:w1.cell? ⟨w.heap.size,0,none⟩=some (.int .i64 d.k):=(gl w.heap.size 0 (by first|omega|(simp;omega))).trans (by(first|exact x_0|exact al1 x_0 o_)));(have s1:w1.cell? ⟨w.heap.size,1,none⟩=some (.int .i64 d.a):=(gl w.heap.size 1 (by first|omega|(simp;omega))).trans (by(first|exact x_1|exact al1 x_1 o_)));(have s2:w1.cell? ⟨w.heap.size,2,none⟩=some (.int .i64 d.b):=(gl w.heap.size 2 (by first|omega|(simp;omega))).trans (by(first|exact x_2|exact al1 x_2 o_))))|(refine Qr rfl _ _ rfl w.heap.size v1 l d _ rfl rfl ?hg ?hgl ?hown hle ?hbs ?_;(case hg=>(first|(with_reducible exact new3)|exact⟨z00,z01,z02⟩));(case hgl=>(first|omega|(simp;done)|(simp;omega)));(case hown=>(first|exact zx.mono Hj (by first|omega|(simp;omega))|exact zx.mono (zx.kept Hj bel_) (by first|omega|(simp;done)|(simp;omega))));(case hbs=>(first|omega|(simp;omega)));intro A c w3 Hq gq;(have GJ:Below w0.heap.size w0 w3:=by(refine Below.grown ?_ gq ?_ ?_;(exact bel_);(focus (first|omega|(simp;done)|(simp;omega)));(intro q hq;have:=(World.ownsRow.lt Hj q hq).1;(first|omega|(simp at this;omega)))));(have s30:=(GJ.cell (p:=⟨w.heap.size,0,none⟩) q0).trans x_0);(have s31:=(GJ.cell (p:=⟨w.heap.size,1,none⟩) q0).trans x_1);(have s32:=(GJ.cell (p:=⟨w.heap.size,2,none⟩) q0).trans x_2);(have C6:=h_ Hq);clear Hq gq)|fail)
  all_goals go_wp2
  all_goals go_meet
  all_goals exact⟨A,c,rfl,C6.out,Hi.trans (GJ.mono Hi.size)⟩
 case rest=>
  obtain⟨A,c,rfl,hO,hB⟩:=hcut;obtain⟨w4,mm⟩:∃u,u=wc:=⟨_,rfl⟩;subst mm;have GY:=RDp.below rA.out hB;have Mq:zx w.heap.size w4 (.slice A (l.length+1) c) (l++[d]):=hO;clear x_0 x_1 x_2 hO
  go_wp2_with fail
  refine(Qa _ l _ GY).mono ?_
  rintro e w5 ⟨rfl,gk⟩;have fJ:=RDp.below GY gk;have Br:=zx.kept Mq gk;have GL:=hB.trans (gk.mono hB.size);clear GY Mq hB gk
  cases h1:qn l
  ·obtain⟨u1,u2⟩:=z14 (d:=d) (.inl h1)
   have Gq:l=E:=u1.symm.trans HE.out;have gH:false=BB:=u2.symm.trans H9.out;subst gH;subst Gq;clear u1 u2 HE H9
   go_wp2_with fail
   refine(ye _ l _ fJ hle).mono ?_
   rintro e w6 ⟨v6,rfl,fh,gJ⟩;go_wp2;exact bodyPost_ret (v:= .tuple #[v6,.bool false]) (by simp[results,Tryz.results112,go_sem]) rfl ⟨_,rfl,zx.mono fh GL.size,GL.trans (gJ.mono GL.size)⟩
  ·go_wp2_with fail
   refine(Qa _ (l++[d]) _ Br.reads).mono ?_
   rintro e w6 ⟨rfl,gJ⟩;have Fg:=RDp.below fJ gJ;have bG:=zx.kept Br gJ;have CY:=GL.trans (gJ.mono GL.size);clear fJ Br GL gJ
   cases h2:qn (l++[d])
   ·obtain⟨u1,u2⟩:=z14 (l:=l) (.inr h2)
    have Gq:l=E:=u1.symm.trans HE.out;have gH:false=BB:=u2.symm.trans H9.out;subst gH;subst Gq;clear u1 u2 HE H9
    go_wp2_with fail
    refine(ye _ l _ Fg hle).mono ?_
    rintro e w7 ⟨v7,rfl,FV,f9⟩;go_wp2;exact bodyPost_ret (v:= .tuple #[v7,.bool false]) (by simp[results,Tryz.results112,go_sem]) rfl ⟨_,rfl,zx.mono FV CY.size,CY.trans (f9.mono CY.size)⟩
   ·obtain⟨u1,u2⟩:=z4O h1 h2
    have Gq:l++[d]=E:=u1.symm.trans HE.out;have gH:true=BB:=u2.symm.trans H9.out;subst gH;have zV:=h_ Gq;clear u1 u2 HE H9 Gq;go_wp2;exact bodyPost_ret (v:= .tuple #[.slice A (l.length+1) c,.bool true]) (by simp[results,Tryz.results112,go_sem]) rfl ⟨_,rfl,by rw[<-zV.out];exact bG,CY⟩
theorem z3d (v:Value) (l:List Dp) (d:Dp) (w:World) (h:RDp w v l) (hle:l.length<=1048576):
  Calls Tryz.prog 123 #[v,.agg #[.int .i64 d.k,.int .i64 d.a,.int .i64 d.b]] w (Vp (adpL l d) (adpB l d) w):=by
 obtain⟨E,hE⟩:∃E,adpL l d=E:=⟨_,rfl⟩;obtain⟨BB,cM⟩:∃b,adpB l d=b:=⟨_,rfl⟩;rw[hE,cM];have HE:=h_ hE;have H9:=h_ cM;clear hE cM;obtain⟨w0,GG⟩:∃u,u=w.alloc (.cells #[.int .i64 d.k,.int .i64 d.a,.int .i64 d.b] 48):=⟨_,rfl⟩;have F8:Blk w0 w.heap.size 48 #[.int .i64 d.k,.int .i64 d.a,.int .i64 d.b]:=GG▸Blk.newAt rfl;have Hi:Below w.heap.size w w0:=GG▸(aaj _ _).alloc (aaa _) _;have MI:w0.heap.size=w.heap.size+1:=by rw[GG];simp
 have Bs:=h_ GG;have HR:=h_ (h.below Hi);have rA:=h_ h;obtain⟨i0,hi,iz0,iz1,iz2⟩:=info_parts ki;clear h GG
 go_enter Tryz.func123,Tryz.ntmps123
 go_upto_region 1 with (fail)
 rw[<-Bs.out];clear Bs;obtain⟨x_0,x_1,x_2⟩:=F8.c3;have q0:w.heap.size<w0.heap.size:=o_
 clear F8 MI
 go_cut [6] (fun s6 wx=>∃A c,s6= .slice A (l.length+1) c/\zx w.heap.size wx (.slice A (l.length+1) c) (l++[d])/\Below w.heap.size w wx)
 case first=>
  go_region_held3 (fun w'=>w'.cell? ⟨w.heap.size,0,none⟩=some (.int .i64 d.k)/\w'.cell? ⟨w.heap.size,1,none⟩=some (.int .i64 d.a)/\w'.cell? ⟨w.heap.size,2,none⟩=some (.int .i64 d.b))
   (first|(with_reducible exact⟨by assumption,by assumption,by assumption⟩)|go_keep|(exact⟨al1 (by assumption) (by assumption),al1 (by assumption) (by assumption),al1 (by assumption) (by assumption)⟩))
   (first|(refine Xy rfl _ _ rfl w0.heap.size _ v l rfl rfl ?hown ?hr hle ?hbs ?_;(case hown=>(first|exact zN (by first|exact aaa _|(simp[World.drew];done)|(simp[World.drew];omega)) (by first|rfl|(simp[World.drew];done))|exact World.ownsRow.alloc (zN (aaa _) rfl) _));(case hr=>exact HR.out.below bel_);(case hbs=>(first|exact aaa _|(simp[World.drew];done)|(simp[World.drew];omega)));intro A1 c1 w2 Hn gu;(have mT:Below w0.heap.size w0 w2:=by(refine Below.grown ?_ gu ?_ ?_;(exact bel_);(focus (first|(simp;done)|(simp;omega)));(intro q hq;cases hq;(first|exact aaa _|(simp[World.drew];done)|(simp[World.drew];omega)))));(have rt:w0.heap.size<=w2.heap.size:=mT.size);(try have zA:Blk w2 w0.heap.size 48 #[.int .i64 d.k,.int .i64 d.a,.int .i64 d.b]:=(gu.block w0.heap.size (by first|(simp;done)|(simp;omega)) (by simp)).trans (Blk.alloc (Blk.newAt rfl) _));(try have zB:Blk w2 (w0.heap.size+1) 48 #[.int .i64 d.k,.int .i64 d.a,.int .i64 d.b]:=(gu.block (w0.heap.size+1) (by first|(simp;done)|(simp;omega)) (by simp)).trans (Blk.newAt (by simp)));(have s20:=(mT.cell (p:=⟨w.heap.size,0,none⟩) q0).trans x_0);(have s21:=(mT.cell (p:=⟨w.heap.size,1,none⟩) q0).trans x_1);(have s22:=(mT.cell (p:=⟨w.heap.size,2,none⟩) q0).trans x_2);clear gu)|(refine Qr rfl _ _ rfl w0.heap.size (.slice A1 l.length c1) l d _ rfl rfl ?hg ?hgl ?hown hle ?hbs ?_;(case hg=>(first|(with_reducible exact new3)|exact⟨zA.cell 0,zA.cell 1,zA.cell 2⟩|exact⟨zB.cell 0,zB.cell 1,zB.cell 2⟩));(case hgl=>(first|omega|(simp[World.drew];done)|(simp[World.drew];omega)|exact zA.lt|exact zB.lt));(case hown=>(first|exact Hn|exact World.ownsRow.alloc Hn _));(case hbs=>(first|omega|(simp[World.drew];omega)));intro A c w3 Hq gq;(have GJ:Below w0.heap.size w0 w3:=by(refine Below.grown ?_ gq ?_ ?_;(exact bel_);(first|omega|(simp[World.drew];done)|(simp[World.drew];omega));(intro q hq;exact(World.ownsRow.lt Hn q hq).1)));(have s30:=(GJ.cell (p:=⟨w.heap.size,0,none⟩) q0).trans x_0);(have s31:=(GJ.cell (p:=⟨w.heap.size,1,none⟩) q0).trans x_1);(have s32:=(GJ.cell (p:=⟨w.heap.size,2,none⟩) q0).trans x_2);(have C6:=h_ (zx.mono Hq (Nat.le_of_lt q0)));clear Hq gq)|fail)
  all_goals go_wp2
  all_goals go_meet
  all_goals exact⟨A,c,rfl,C6.out,Hi.trans (GJ.mono Hi.size)⟩
 case rest=>
  obtain⟨A,c,rfl,hO,hB⟩:=hcut;obtain⟨w4,mm⟩:∃u,u=wc:=⟨_,rfl⟩;subst mm;have GY:=RDp.below rA.out hB;have Mq:zx w.heap.size w4 (.slice A (l.length+1) c) (l++[d]):=hO;clear x_0 x_1 x_2 hO
  go_wp2_with fail
  refine(Ql _ l _ GY).mono ?_
  rintro e w5 ⟨rfl,gk⟩;have fJ:=RDp.below GY gk;have Br:=zx.kept Mq gk;have GL:=hB.trans (gk.mono hB.size);clear GY Mq hB gk
  cases h1:qn l
  ·obtain⟨u1,u2⟩:=z14 (d:=d) (.inl h1)
   have Gq:l=E:=u1.symm.trans HE.out;have gH:false=BB:=u2.symm.trans H9.out;subst gH;subst Gq;clear u1 u2 HE H9
   go_wp2_with (at_builtin;refine zQ rfl _ _ _ rfl w.heap.size 48 i0 (.agg #[.int .i64 0,.int .i64 0,.int .i64 0]) 3 24 Tryz.underlying32 hi iz0 iz1 iz2 rfl (by decide) (.slice (some ⟨w5.heap.size,0,none⟩) 0 0) v 0 l.length [] (l.flatMap Dp.cs) rfl rfl (zN GL.size rfl) (fJ.below bel_) (jF l) o_ (by decide) (by have:=GL.size;simp;omega) ?_)
   intro A6 c6 w6 fh fD _;have uG:=(GL.alloc GL.size (.cells #[] 48)).grown fD (by have:=GL.size;simp;omega) (fun q hq=>by cases hq;exact GL.size);have Cm:Hid (zx w.heap.size w6 (.slice A6 l.length c6) l):=h_ fh;clear fh fD;go_wp2;exact bodyPost_ret (v:= .tuple #[.slice A6 l.length c6,.bool false]) (by simp[results,Tryz.results123,go_sem]) rfl ⟨_,rfl,Cm.out,uG⟩
  ·go_wp2_with fail
   refine(Ql _ (l++[d]) _ Br.reads).mono ?_
   rintro e w6 ⟨rfl,gJ⟩;have Fg:=RDp.below fJ gJ;have bG:=zx.kept Br gJ;have CY:=GL.trans (gJ.mono GL.size);clear fJ Br GL gJ
   cases h2:qn (l++[d])
   ·obtain⟨u1,u2⟩:=z14 (l:=l) (.inr h2)
    have Gq:l=E:=u1.symm.trans HE.out;have gH:false=BB:=u2.symm.trans H9.out;subst gH;subst Gq;clear u1 u2 HE H9
    go_wp2_with (at_builtin;refine zQ rfl _ _ _ rfl w.heap.size 48 i0 (.agg #[.int .i64 0,.int .i64 0,.int .i64 0]) 3 24 Tryz.underlying32 hi iz0 iz1 iz2 rfl (by decide) (.slice (some ⟨w6.heap.size,0,none⟩) 0 0) v 0 l.length [] (l.flatMap Dp.cs) rfl rfl (zN CY.size rfl) (Fg.below bel_) (jF l) o_ (by decide) (by have:=CY.size;simp;omega) ?_)
    intro A6 c6 w7 fh fD _;have uG:=(CY.alloc CY.size (.cells #[] 48)).grown fD (by have:=CY.size;simp;omega) (fun q hq=>by cases hq;exact CY.size);have Cm:Hid (zx w.heap.size w7 (.slice A6 l.length c6) l):=h_ fh;clear fh fD;go_wp2;exact bodyPost_ret (v:= .tuple #[.slice A6 l.length c6,.bool false]) (by simp[results,Tryz.results123,go_sem]) rfl ⟨_,rfl,Cm.out,uG⟩
   ·obtain⟨u1,u2⟩:=z4O h1 h2
    have Gq:l++[d]=E:=u1.symm.trans HE.out;have gH:true=BB:=u2.symm.trans H9.out;subst gH;have zV:=h_ Gq;clear u1 u2 HE H9 Gq;go_wp2;exact bodyPost_ret (v:= .tuple #[.slice A (l.length+1) c,.bool true]) (by simp[results,Tryz.results123,go_sem]) rfl ⟨_,rfl,by rw[<-zV.out];exact bG,CY⟩
end Go.Proofs.YtnjcpljhmhdhkaaGreat
