/- part 7 -/
import Derived.Test.YtnjcpljhmhdhkaaGreatUPk5
import Derived.Test.YtnjcpljhmhdhkaaGreatUPk6
import Derived.Test.YtnjcpljhmhdhkaaGreatProg
import Derived.Lib.Small
import Derived.Lib.Walk
import Derived.Lib.BitFns
import Derived.Lib.Strings
import Derived.Shelf.Abstract
import Derived.BigRegion
import Derived.OwnWalk
set_option linter.unusedSimpArgs false
set_option linter.unusedVariables false
set_option maxRecDepth 100000
set_option maxHeartbeats 4000000
namespace Go.Proofs.YtnjcpljhmhdhkaaGreat
def addS (s:Nat) (l:Pr):Nat:=if s.testBit l.1.toNat ||s.testBit l.2.toNat then s ||| (2^l.1.toNat ||| 2^l.2.toNat) else s
def qh (s:Nat) (ls:List Pr):Nat:=ls.foldl addS s
def zt (s:Nat) (ls:List Pr):Nat->Nat
 |0=>s
 |k+1=>qh (zt s ls k) ls
theorem z4i (s:Nat) (l:Pr) {i:Nat} (h:s.testBit i=true):(addS s l).testBit i=true:=by
 unfold addS
 split
 ·rw[aa2,h];rfl
 ·exact h
theorem vV:∀(ls:List Pr) (s:Nat) {i:Nat},s.testBit i=true->(qh s ls).testBit i=true
 | [],s,i,h=>h
 |l::ls,s,i,h=>by
  show(qh (addS s l) ls).testBit i=true
  exact vV ls _ (z4i s l h)
theorem kw (s:Nat) (a b:List Pr):qh s (a++b)=qh (qh s a) b:=by simp[qh]
theorem zat {s m:Nat} {l:Pr} (hs:s<2^m) (h1:l.1.toNat <m) (h2:l.2.toNat <m):addS s l<2^m:=by
 unfold addS
 split
 ·exact Nat.or_lt_two_pow hs (Nat.or_lt_two_pow (aa4 o_ h1) (aa4 o_ h2))
 ·exact hs
theorem Qp {m:Nat}:∀(ls:List Pr) (s:Nat),s<2^m->(∀l∈ls,l.1.toNat <m/\l.2.toNat <m)->qh s ls<2^m
 | [],s,h,_=>h
 |l::ls,s,h,hl=>by
  show qh (addS s l) ls<2^m
  exact Qp ls _ (zat h (hl l (by simp)).1 (hl l (by simp)).2) (fun x hx=>hl x (by simp[hx]))
theorem x6 {m:Nat} {ls:List Pr} {s:Nat} (h:s<2^m) (hl:∀l∈ls,l.1.toNat <m/\l.2.toNat <m):∀k,zt s ls k<2^m
 |0=>h
 |k+1=>Qp ls _ (x6 h hl k) hl
theorem z0O {s:Nat} {ls:List Pr} (h:qh s ls=s):∀l∈ls,(s.testBit l.1.toNat =true↔s.testBit l.2.toNat =true):=by
 have key:∀(ls:List Pr) (t:Nat),(∀i,s.testBit i=true->t.testBit i=true)->(∀i,(qh t ls).testBit i=true->s.testBit i=true)->∀l∈ls,(s.testBit l.1.toNat =true↔s.testBit l.2.toNat =true):=by
  intro ls
  induction ls with
  |nil=>intro t _ _ l hl;cases hl
  |cons x ls ih=>
   intro t h1 h2 l hl;have h3:∀i,(addS t x).testBit i=true->s.testBit i=true:=fun i hi=>h2 i (vV ls _ hi)
   rcases List.mem_cons.1 hl with rfl|hl
   ·have h4:s.testBit l.1.toNat =true∨s.testBit l.2.toNat =true->s.testBit l.1.toNat =true/\s.testBit l.2.toNat =true:=by
     intro CW
     have ht:(t.testBit l.1.toNat ||t.testBit l.2.toNat)=true:=by
      rcases CW with h5|h5
      ·rw[h1 _ h5];rfl
      ·rw[h1 _ h5,Bool.or_true]
     have e:addS t l=t ||| (2^l.1.toNat ||| 2^l.2.toNat):=by unfold addS;rw[aao ht]
     constructor
     ·exact h3 _ (by rw[e];simp[aa2,abz])
     ·exact h3 _ (by rw[e];simp[aa2,abz])
    exact⟨fun h5=>(h4 (.inl h5)).2,fun h5=>(h4 (.inr h5)).1⟩
   ·exact ih (addS t x) (fun i hi=>z4i t x (h1 i hi)) h2 l hl
 exact key ls s (fun _ h=>h) (fun i hi=>by rw[h] at hi;exact hi)
theorem z7d {s t m:Nat} (h:∀i,s.testBit i=true->t.testBit i=true):(memS s m).length <=(memS t m).length :=by
 induction m with
 |zero=>simp[memS]
 |succ m ih=>
  cases hs:s.testBit m
  ·rw[jw hs]
   cases ht:t.testBit m
   ·rw[jw ht];exact ih
   ·rw[qO ht];simp;omega
  ·rw[qO hs,qO (h m hs)];simp;exact ih
theorem JH {s t m:Nat} (h:∀i,s.testBit i=true->t.testBit i=true) (hs:s<2^m) (ht:t<2^m) (gr:s≠t):(memS s m).length <(memS t m).length :=by
 have hi:∃i,i<m/\s.testBit i=false/\t.testBit i=true:=by
  apply abl
  intro hc
  apply gr
  apply Nat.eq_of_testBit_eq
  intro i
  cases h1:s.testBit i
  ·cases h2:t.testBit i
   ·rfl
   ·have hm:i<m:=by
     apply abl
     intro hm;rw[Nat.testBit_lt_two_pow (aaE ht (aaF o_ o_))] at h2
     cases h2
    exact absurd ⟨i,hm,h1,h2⟩ hc
  ·exact(h i h1).symm
 obtain⟨i,him,h1,h2⟩:=hi;clear hs ht gr
 induction m with
 |zero=>omega
 |succ m ih=>
  by_cases he:i=m
  ·subst he
   rw[jw h1,qO h2];have:=z7d (m:=i) h;simp;omega
  ·have:=ih o_
   cases hs:s.testBit m
   ·rw[jw hs]
    cases ht:t.testBit m
    ·rw[jw ht];exact this
    ·rw[qO ht];simp;omega
   ·rw[qO hs,qO (h m hs)];simp;exact this
theorem Xj {s m:Nat} {ls:List Pr} (hs:s<2^m) (h0:0<(memS s m).length) (hl:∀l∈ls,l.1.toNat <m/\l.2.toNat <m):qh (zt s ls m) ls=zt s ls m:=by
 apply abl
 intro hc
 have stay:∀k j,qh (zt s ls k) ls=zt s ls k->zt s ls (k+j)=zt s ls k:=by
  intro k j hk
  induction j with
  |zero=>rfl
  |succ j ih=>show qh (zt s ls (k+j)) ls=_;rw[ih,hk]
 have gr:∀k,k<=m->qh (zt s ls k) ls≠zt s ls k:=by
  intro k hk he;have:=stay k (m -k) he;rw[show k+(m -k)=m by omega] at this;rw[this] at hc;exact hc he
 have grow:∀k,k<=m->k<(memS (zt s ls k) m).length :=by
  intro k
  induction k with
  |zero=>intro _;exact h0
  |succ k ih=>
   intro hk;have h1:=ih o_;have h2:=JH (s:=zt s ls k) (t:=qh (zt s ls k) ls) (m:=m) (fun i hi=>vV ls _ hi) (x6 hs hl k) (Qp ls _ (x6 hs hl k) hl) (fun e=>gr k o_ e.symm)
   show k+1<(memS (qh (zt s ls k) ls) m).length
   omega
 have h1:=grow m (aaa _);have h2:=z2l (zt s ls m) m;omega
theorem JD (a b x:Int):xB a b x=x∨(x=mx2 a b/\xB a b x=mn2 a b):=by
 unfold xB;split
 ·rename_i h;exact .inr ⟨h,rfl⟩
 ·exact .inl rfl
theorem mxmn (a b:Int):(mx2 a b=a/\mn2 a b=b)∨(mx2 a b=b/\mn2 a b=a):=by
 rw[kz,Z5];omega
theorem Qu {g:List Int} {f:Int->Int} {i:Nat} (h:i<g.length):(g.map f).getD i 0=f (g.getD i 0):=by
 simp[List.getD,h]
def Z0 (n:Nat) (ls:List Pr):Prop:=∀j:Nat,j<ls.length->∃p q:Nat,(ndI ls j).1=p/\(ndI ls j).2=q/\p<n/\q<n
theorem ZQ {n:Nat} {ls:List Pr} (hl:Z0 n ls):∀k,k<=ls.length->∀i,i<n->0<=(zi n ls k).getD i 0/\(zi n ls k).getD i 0<=i
 |0,_,i,hi=>by
  rw[JT];have:(natI (List.range n)).getD i 0=(i:Int):=by simp[natI,List.getD,hi]
  rw[this];omega
 |k+1,hk,i,hi=>by
  obtain⟨p,q,h1,h2,h3,h4⟩:=hl k o_;rw[kq n ls k o_ p q h1 h2,Qu (by rw[jf];exact hi)];have hb:=ZQ hl k o_;have hp:=hb p h3;have hq:=hb q h4;have h0:=hb i hi
  rcases JD ((zi n ls k).getD p 0) ((zi n ls k).getD q 0) ((zi n ls k).getD i 0) with h|⟨h,h'⟩
  ·rw[h];exact h0
  ·rw[h']
   rw[kz] at h;rw[Z5];omega
theorem vF {n:Nat} {ls:List Pr} (hl:Z0 n ls) (C:Nat->Prop) (hC:∀j:Nat,j<ls.length->∀p q:Nat,(ndI ls j).1=p->(ndI ls j).2=q->(C p↔C q)):∀k,k<=ls.length->∀i,i<n->(C i↔C ((zi n ls k).getD i 0).toNat)
 |0,_,i,hi=>by
  rw[JT];have:(natI (List.range n)).getD i 0=(i:Int):=by simp[natI,List.getD,hi]
  rw[this,aa6]
 |k+1,hk,i,hi=>by
  obtain⟨p,q,h1,h2,h3,h4⟩:=hl k o_;rw[kq n ls k o_ p q h1 h2,Qu (by rw[jf];exact hi)];have ih:=vF hl C hC k o_;have hp:=ih p h3;have hq:=ih q h4;have h0:=ih i hi;have FI:=hC k o_ p q h1 h2;generalize (zi n ls k).getD p 0=a at*;generalize (zi n ls k).getD q 0=b at*;generalize (zi n ls k).getD i 0=x at*
  rcases JD a b x with h|⟨h,h'⟩
  ·rw[h];exact h0
  ·rw[h',h0,h]
   rcases mxmn a b with ⟨e1,e2⟩|⟨e1,e2⟩<;>rw[e1,e2]
   ·rw[<-hp,<-hq,FI]
   ·rw[<-hp,<-hq,FI]
theorem Zc {n:Nat} {ls:List Pr} (hl:Z0 n ls):∀k,k<=ls.length->∀j,j<k->∀p q:Nat,(ndI ls j).1=p->(ndI ls j).2=q->(zi n ls k).getD p 0=(zi n ls k).getD q 0
 |0,_,j,hj,_,_,_,_=>absurd hj o_
 |k+1,hk,j,hj,p,q,hp,hq=>by
  obtain⟨p',q',h1,h2,h3,h4⟩:=hl k o_;obtain⟨p2,q2,g1,g2,g3,g4⟩:=hl j o_;have e1:p2=p:=by rw[hp] at g1;omega
  have e2:q2=q:=by rw[hq] at g2;omega
  subst e1 e2;rw[kq n ls k o_ p' q' h1 h2,Qu (by rw[jf];exact g3),Qu (by rw[jf];exact g4)]
  by_cases he:j=k
  ·subst he
   have e3:p'=p2:=by rw[hp] at h1;omega
   have e4:q'=q2:=by rw[hq] at h2;omega
   subst e3 e4;generalize (zi n ls j).getD p' 0=a;generalize (zi n ls j).getD q' 0=b;unfold xB
   rcases mxmn a b with ⟨x1,x2⟩|⟨x1,x2⟩<;>rw[x1,x2]<;>split<;>split<;>simp_all
  ·rw[Zc hl k o_ j o_ p2 q2 hp hq]
theorem z7X {n:Nat} {ls:List Pr} (hl:Z0 n ls) (hn:0<n):
  (memS (zt 1 ls n) n).length =n↔(zi n ls ls.length).all (· ==0)=true:=by
 have Gc:∀l∈ls,l.1.toNat <n/\l.2.toNat <n:=by
  intro l hm;obtain⟨j,hj,e⟩:=abb hm;obtain⟨p,q,h1,h2,h3,h4⟩:=hl j hj;rw[qd ls j hj,e] at h1 h2;rw[h1,h2,aa6,aa6];exact⟨h3,h4⟩
 have h1:(1:Nat)<2^n:=Nat.one_lt_two_pow o_;have F4:0<(memS 1 n).length :=abi (a:=0) (by simp[memS,hn]);have hf:=z0O (Xj h1 F4 Gc)
 have cF:∀k,(zt 1 ls k).testBit 0=true:=by
  intro k
  induction k with
  |zero=>show(1:Nat).testBit 0=true;decide
  |succ k ih=>exact vV ls _ ih
 generalize hS:zt 1 ls n=S at*;rw[z9v,aaM]
 constructor
 ·intro fb x hx
  obtain⟨i,hi,e⟩:=abb hx;have Gp:i<n:=by rw[jf] at hi;exact hi
  have lab:∀k,∀i,i<n->(zt 1 ls k).testBit i=true->(zi n ls ls.length).getD i 0=(zi n ls ls.length).getD 0 0:=by
   have step:∀(m:Nat),m<=ls.length->∀s:Nat,(∀i,i<n->s.testBit i=true->(zi n ls ls.length).getD i 0=(zi n ls ls.length).getD 0 0)->∀i,i<n->(qh s (ls.take m)).testBit i=true->(zi n ls ls.length).getD i 0=(zi n ls ls.length).getD 0 0:=by
    intro m
    induction m with
    |zero=>intro _ s h i hi hb;exact h i hi (by simpa[qh] using hb)
    |succ m ih=>
     intro hm s h i hi hb;have ih':=ih o_ s h;rw[aax o_,kw] at hb;generalize qh s (ls.take m)=t at*;obtain⟨p,q,g1,g2,g3,g4⟩:=hl m o_;have FI:=Zc hl ls.length (aaa _) m o_ p q g1 g2;rw[qd ls m o_] at g1 g2;have gw:(addS t ls[m]).testBit i=true:=hb;unfold addS at gw;rw[g1,g2,aa6,aa6] at gw
     split at gw
     ·rename_i CW
      rw[aa2,aa2,aaI,aaI] at gw
      have BK:(zi n ls ls.length).getD p 0=(zi n ls ls.length).getD 0 0:=by
       rw[aaI] at CW
       rcases CW with h5|h5
       ·exact ih' p g3 h5
       ·rw[FI];exact ih' q g4 h5
      rcases gw with h5|h5|h5
      ·exact ih' i hi h5
      ·rw[aa3] at h5
       have:p=i:=by simpa using h5
       rw[<-this];exact BK
      ·rw[aa3] at h5
       have:q=i:=by simpa using h5
       rw[<-this,<-FI];exact BK
     ·exact ih' i hi gw
   intro k
   induction k with
   |zero=>
    intro i hi hb
    have:i=0:=by
     apply abl
     intro h;rw[show zt 1 ls 0=2^0 from rfl,aa3] at hb;have:0=i:=by simpa using hb
     omega
    rw[this]
   |succ k ih=>
    intro i hi hb;have:=step ls.length (aaa _) (zt 1 ls k) ih i hi;rw[aaB] at this;exact this hb
  have h2:=lab n i Gp (by rw[hS];exact fb i Gp);have h3:=ZQ hl ls.length (aaa _) 0 hn;have h4:(zi n ls ls.length).getD i 0=x:=by simp[List.getD,hi,e]
  rw[h4] at h2;have:x=0:=o_
  simp[this]
 ·intro fb i hi
  have hc:=vF hl (fun i=>S.testBit i=true) (fun j hj p q hp hq=>by
   have:=hf ls[j] (abh hj);rw[qd ls j hj] at hp hq;rw[hp,hq,aa6,aa6] at this;exact this) ls.length (aaa _) i hi
  rw[hc];have Hi:i<(zi n ls ls.length).length :=by rw[jf];exact hi
  have h2:=fb (zi n ls ls.length)[i] (abh Hi);have h3:(zi n ls ls.length).getD i 0=0:=by simpa[List.getD,Hi] using h2
  rw[h3];have:=cF n;rw[hS] at this;exact this
open Go.RowKit
theorem z7s (x:Int) (w:World) (h0:0<=x) (h:x<=12):
  Calls Tryz.prog 285 #[.int .u64 x] w fun e w'=>(∃k:Int,e= .returned (.int .i64 k))/\w=w':=by
 go_enter Tryz.func285,Tryz.ntmps285
 go_wp2
 all_goals go_ret
 all_goals exact⟨⟨_,rfl⟩,rfl⟩
theorem z6p (x:Int) (w:World) (h0:0<=x) (h:x<=12):
  Calls Tryz.prog 274 #[.int .u64 x] w fun e w'=>(∃k:Int,e= .returned (.int .i64 k))/\w=w':=by
 go_enter Tryz.func274,Tryz.ntmps274
 go_wp2_with (go_at_call 285;refine(z7s _ _ h0 h).mono ?_;rintro e w' ⟨⟨k,rfl⟩,rfl⟩)
 all_goals go_ret
 all_goals exact⟨⟨_,rfl⟩,rfl⟩
def JL (f:Nat) (lb:Array Value) (G:List Nat) (c:Nat->Nat->Int) (g:Option Nat) (w:World):Prop:=
 ∀(v:World) (d e:Nat),d∈G->e∈G->w.grownBy v g->Calls Tryz.prog f (#[.int .i64 d,.int .i64 e]++lb) v fun en v'=>en= .returned (.int .i64 (c d e))/\Below v.heap.size v v'
theorem yM {w v v':World} {row:Option Nat} (h:w.grownBy v row) (hb:Below v.heap.size v v'):w.grownBy v' row:=
 ⟨hb.os.trans h.os,hb.tape.trans h.tape,hb.output.trans h.output,aai h.size hb.size,fun i hi gr=>(hb.block i (aaE hi h.size)).trans (h.block i hi gr)⟩
theorem qt (w:World) (row:Option Nat):w.grownBy w row:=⟨rfl,rfl,rfl,aaa _,fun _ _ _=>rfl⟩
theorem qs {w v:World} {g:Nat} (h:w.grownBy v (some g)) (i:Nat) (x:Value):w.grownBy (v.setCell ⟨g,i,none⟩ x) (some g):=
 ⟨h.os,h.tape,h.output,by simpa[World.setCell] using h.size,fun j hj gr=>(Below.heap_setCell v ⟨g,i,none⟩ x j (fun e=>gr (by rw[e]))).trans (h.block j hj gr)⟩
theorem VY {w v:World} {row:Option Nat} (h:w.grownBy v row):w.grownBy v.drew row:=⟨h.os,h.tape,h.output,h.size,h.block⟩
theorem XK (lt:Nat->Nat->Bool) (G:List Nat) (e:Nat):∀i,i<=G.length->e∈isoK lt G i->e∈G
 |0,_,h=>by simp[z0G] at h
 |i+1,hi,h=>by
  rw[J4 lt G i o_] at h
  rcases X8 h with rfl|h
  ·exact abh _
  ·exact XK lt G e i o_ h
theorem z2M (lt:Nat->Nat->Bool) (G:List Nat) (h:0<G.length):isoH lt G 1=natI G:=by
 have h1:=Xi lt G 0 h;have h2:posN (lt G[0]) (isoK lt G 0) 0=0:=rfl;rw[h2,QZ lt G 0 h,J9] at h1;exact h1.symm
theorem z3C (base f g cap:Nat) (lb:Array Value) (G:List Nat) (c:Nat->Nat->Int) (lt:Nat->Nat->Bool) (w:World) (hc:JL f lb G c (some g) w) (Hd:∀d e,decide (c d e<0)=lt d e)
  (ho:OwnI base w (.slice (some ⟨g,0,none⟩) G.length cap) (natI G)) (n9:G.length<=12) (ef:Enters Tryz.prog f):
  Calls Tryz.prog 246 #[.slice (some ⟨g,0,none⟩) G.length cap,.int .i64 0,.int .i64 G.length,.func (.func f) #[] lb] w
   fun e w'=>e= .returned (.tuple #[])/\OwnI base w' (.slice (some ⟨g,0,none⟩) G.length cap) (natI (isoK lt G G.length))/\w.grownBy w' (some g):=by
 go_enter Tryz.func246,Tryz.ntmps246
 go_wp2
 go_loopw [8] (fun x wr=>∃i:Nat,1<=i/\(i<=G.length∨G.length=0)/\x= .int .i64 i/\OwnI base wr (.slice (some ⟨g,0,none⟩) G.length cap) (isoH lt G (min i G.length))/\w.grownBy wr (some g)) (fun x _=>G.length -(intOf x).toNat)
 case atStart=>
  refine⟨1,aaa _,by omega,rfl,?_,qt _ _⟩
  rcases abw G.length with h0|h0
  ·rw[h0,show min 1 0=0 from rfl,J9];rw[h0] at ho;exact ho
  ·rw[show min 1 G.length=1 by omega,z2M lt G h0];exact ho
 case round=>
  obtain⟨i,FT,cf,rfl,Hm,hg⟩:=hrel;have EF:=h_ ef;clear ho ef
  by_cases Gp:i<G.length
  ·rw[show min i G.length=i by omega,<-QZ lt G i Gp] at Hm
   have HE:=h_ (Xi lt G i Gp);have ux:G.getD i 0=G[i]:=by simp[List.getD,Gp]
   have W7:G.getD i 0∈G:=by rw[ux];exact abh Gp
   have HKL:=h_ (jC lt G i o_);have HKM:=h_ (fun e h=>XK lt G e i o_ h);rw[<-ux] at HE;have mR:=h_ (fun p hp=>z0J lt G i p Gp hp);have HRB:=h_ (fun p hp=>XV lt G i p Gp hp);have M6:=h_ (fun p hp=>z0y lt G i p Gp hp);have uV:=h_ (fun p hp=>z4c lt G i p Gp hp);clear ux;generalize hD:G.getD i 0=D at*;clear hD;go_wp2
   go_loopw [9] (fun x wr2=>∃p:Nat,p<=i/\x= .int .i64 p/\OwnI base wr2 (.slice (some ⟨g,0,none⟩) G.length cap) (isoR lt G i p)/\w.grownBy wr2 (some g)/\Hid (posN (lt D) (isoK lt G i) i=posN (lt D) (isoK lt G i) p)) (fun x _=>(intOf x).toNat)
   case atStart=>exact⟨i,aaa _,rfl,Hm,hg,h_ rfl⟩
   case round=>
    clear Hm hg;obtain⟨p,hp,rfl,Hm,hg,HP⟩:=hrel
    by_cases Nw:0<p
    ·obtain⟨r,rfl⟩:∃r,p=r+1:=⟨p -1,by omega⟩
     have MM:r<i:=o_
     have xs:=Hm.cell (q:=r+1) (by rw[uV.out _ hp];omega);have xb:=Hm.cell (q:=r) (by rw[uV.out _ hp];omega);rw[mR.out _ hp] at xs;rw[HRB.out r MM] at xb;have Cc:(isoK lt G i).getD r 0∈G:=HKM.out _ (by rw[List.getD,aac (by rw[HKL.out];exact MM)];exact abh _);have MJ:Hid (posN (lt D) (isoK lt G i) (r+1)=if lt D ((isoK lt G i).getD r 0) then posN (lt D) (isoK lt G i) r else r+1):=h_ rfl;have HS:=h_ (M6.out r MM);have BL:=Hd D ((isoK lt G i).getD r 0);have W8:=fun v (hv:w.grownBy v (some g))=>hc v D ((isoK lt G i).getD r 0) W7 Cc hv
     generalize (isoK lt G i).getD r 0=e at*;rw[<-BL] at MJ;generalize c D e=z at*;have HC:=h_ W8;clear W8 BL Cc;have ir1:(0:Int)<=(r:Int):=o_
     have ir2:(r:Int)<(G.length:Int):=o_
     have ir3:((r+1:Nat):Int)<(G.length:Int):=o_
     have mS:=(Hm.lt g rfl).2;clear hc Hd;have hef:∀(args:Array Value) (w:World),(callFunc f args).run Tryz.prog w= .ok (.enter f args) w:=EF.out
     go_wp2_with fail
     (refine z7 k_ k_ (fun hG=>?_))
     repeat (go_big_quiet_step ((go_at_fn f;exact zy (HC.out _ (yM hg (Grw.below _))))))
     refine wpQuiet_nil ?_
     clear hG;rintro w3 ⟨⟨_,Hf⟩,rfl⟩;have Hq:=Hm.kept Hf;have gM:=yM hg Hf;have g0:=Hq.frz r;have g1:=Hq.frz (r+1);have ys:=Hq.cell (q:=r+1) (by rw[uV.out _ hp];omega);rw[mR.out _ hp] at ys
     have yb':w3.cell? ⟨g,r,none⟩=some (.int .i64 e):=by
      have:=(Hf.cell (p:=⟨g,r,none⟩) mS).trans xb;exact this
     clear xs xb hg Hf hef
     by_cases hz:z<0
     ·have e1:decide (z<0)=true:=by simp[hz]
      have HO:=h_ (show OwnI base ((w3.setCell ⟨g,r+1,none⟩ (.int .i64 e)).setCell ⟨g,r,none⟩ (.int .i64 D)) (.slice (some ⟨g,0,none⟩) G.length cap) (isoR lt G i r) by
       rw[<-HS.out];exact(Hq.set_ (r+1) _).set_ r _)
      have HG:=h_ (qs (qs gM (r+1) (.int .i64 e)) r (.int .i64 D));have FN:Hid (posN (lt D) (isoK lt G i) i=posN (lt D) (isoK lt G i) r):=h_ (by rw[HP.out,MJ.out,aao e1]);clear Hm Hq gM
      go_wp2_with fail
      go_region
      all_goals go_wp2
      all_goals go_roundw
      case rel=>exact⟨r,by omega,by go_num,HO.out,VY HG.out,FN⟩
      case measure=>simp[intOf]
     ·have e1:decide (z<0)=false:=by simp[hz]
      have FN:Hid (posN (lt D) (isoK lt G i) i=r+1):=h_ (by rw[HP.out,MJ.out,e1];rfl);have HO:Hid (OwnI base w3 (.slice (some ⟨g,0,none⟩) G.length cap) (isoH lt G (i+1))):=h_ (by rw[<-HE.out,FN.out];exact Hq);clear Hm Hq;go_wp2;go_roundw
      case rel=>exact⟨i+1,by omega,by omega,by go_num,by rw[show min (i+1) G.length=i+1 by omega];exact HO.out,gM⟩
      case measure=>simp[intOf];omega
    ·have mN:p=0:=o_
     subst mN;have FN:Hid (posN (lt D) (isoK lt G i) i=0):=h_ HP.out;have HO:Hid (OwnI base wr (.slice (some ⟨g,0,none⟩) G.length cap) (isoH lt G (i+1))):=h_ (by rw[<-HE.out,FN.out];exact Hm);clear Hm hc Hd Nw
     go_wp2_with fail
     (refine z7 k_ k_ (fun hG=>?_))
     repeat (go_big_quiet_step (fail))
     refine wpQuiet_nil ?_
     clear hG;rintro w3 ⟨⟨_,Hf⟩,rfl⟩;have Hq:=HO.out.kept Hf;have gM:=yM hg Hf;go_wp2;go_roundw
     case rel=>exact⟨i+1,by omega,by omega,by go_num,by rw[show min (i+1) G.length=i+1 by omega];exact Hq,gM⟩
     case measure=>simp[intOf];omega
  ·have HO:Hid (OwnI base wr (.slice (some ⟨g,0,none⟩) G.length cap) (natI (isoK lt G G.length))):=h_ (by
    rw[show min i G.length=G.length by omega,z3p] at Hm;exact Hm)
   clear hc Hd Hm;go_wp2
   go_end0
   exact⟨rfl,HO.out,hg⟩
def cmpD (ns ls:List Pr) (k d e:Nat):Int:=if d=e then 0 else if bfD ns ls k d e then -1 else 1
theorem z9u (ax ay bx by':Int):befB ax ay bx by' bx by'=false:=by
 unfold befB;rw[aao rfl];have:zU ax ay bx by' bx by'=0:=VD (ax,ay) (bx,by')
 rw[this];simp
theorem za3 (ns ls:List Pr) (k d e:Nat):decide (cmpD ns ls k d e<0)=bfD ns ls k d e:=by
 unfold cmpD
 by_cases h:d=e
 ·subst h
  rw[aao rfl];unfold bfD;rw[z9u];rfl
 ·rw[aaq h]
  cases bfD ns ls k d e<;>rfl
theorem z9U (gW gK:Nat) (vn vl:Value) (ns ls:List Pr) (k d e:Nat) (w:World) (hW:Blk w gW 27 #[vn,vl]) (hKc:w.cell? ⟨gK,0,none⟩=some (.int .i64 k)) (hKl:gK<w.heap.size) (hn:RP w vn ns) (hl:RP w vl ls)
  (hk:k<ns.length) (hd:d<2*ls.length) (he:e<2*ls.length) (Hn:zL ns ls):
  Calls Tryz.prog 268 #[.int .i64 d,.int .i64 e,.pointer (some ⟨gW,0,none⟩),.pointer (some ⟨gK,0,none⟩)] w fun en w'=>en= .returned (.int .i64 (cmpD ns ls k d e))/\Below w.heap.size w w':=by
 have Hu:∀j:Nat,j<ls.length->zp ns (ndI ls j)=true:=fun j hj=>(Hn.2.2.2.2.2 j hj).1
 have GW:=Hn.2.2.1;obtain⟨An,cn,rfl,ci,fC,Ht⟩:=hn.formI;obtain⟨bn,offn,rfl,GE,Gq⟩:=Ht o_;obtain⟨t,ht,Bm⟩:=jK Hu hd;obtain⟨u,hu,GQ⟩:=jK Hu he;obtain⟨k0,k1⟩:=Gq k hk;obtain⟨t0,t1⟩:=Gq t Bm;obtain⟨u0,u1⟩:=Gq u GQ;unfold maxLen at fC;have hgW:=hW.lt;have x1:=xo (a:=d) (b:=1) o_ o_;have x2:=xo (a:=e) (b:=1) o_ o_;rw[z2I] at x1 x2;have x1':bits .xor .i64 (d:Int) 1=((twin d:Nat):Int):=x1;have x2':bits .xor .i64 (e:Int) 1=((twin e:Nat):Int):=x2;clear x1 x2;have X1:=h_ x1';have X2:=h_ x2';clear x1' x2';have ik1:(0:Int)<=(k:Int):=o_
 have ik2:(k:Int)<(ns.length:Int):=o_
 have it1:(0:Int)<=(t:Int):=o_
 have it2:(t:Int)<(ns.length:Int):=o_
 have iu1:(0:Int)<=(u:Int):=o_
 have iu2:(u:Int)<(ns.length:Int):=o_
 obtain⟨a_0,a_1⟩:=hW.c2;clear Ht Gq
 go_enter Tryz.func268,Tryz.ntmps268
 go_wp2_with fail
 have HS:Hid (∀v:World,Below w.heap.size w v->v.cell? ⟨gW,0,none⟩=some (.slice (some ⟨bn,offn,none⟩) ns.length cn)/\v.cell? ⟨gW,1,none⟩=some vl/\v.cell? ⟨gK,0,none⟩=some (.int .i64 k)/\v.cell? ⟨bn,offn+k*2,none⟩=some (.int .i64 (ndI ns k).1)/\v.cell? ⟨bn,offn+k*2+1,none⟩=some (.int .i64 (ndI ns k).2)):=h_ (fun v hv=>⟨(hv.cell (p:=⟨gW,0,none⟩) hgW).trans a_0,(hv.cell (p:=⟨gW,1,none⟩) hgW).trans a_1,(hv.cell (p:=⟨gK,0,none⟩) hKl).trans hKc,(hv.cell (p:=⟨bn,offn+k*2,none⟩) GE).trans k0,(hv.cell (p:=⟨bn,offn+k*2+1,none⟩) GE).trans k1⟩);refine vo (n:=26) (S:=fun v=>v.cell? ⟨gW,0,none⟩=some (.slice (some ⟨bn,offn,none⟩) ns.length cn)/\v.cell? ⟨gW,1,none⟩=some vl/\v.cell? ⟨gK,0,none⟩=some (.int .i64 k)/\v.cell? ⟨bn,offn+k*2,none⟩=some (.int .i64 (ndI ns k).1)/\v.cell? ⟨bn,offn+k*2+1,none⟩=some (.int .i64 (ndI ns k).2)) k_ (HS.out _ (aaj _ _).drew) (fun hS=>?_)
 refine tE_ 0 rfl rfl ?_;(try simp only[lp_])
 refine tE_ 1 rfl rfl ?_;(try simp only[lp_])
 refine tE_ 2 rfl rfl ?_;(try simp only[lp_])
 refine tE_ 3 rfl rfl ?_;(try simp only[lp_])
 refine tE_ 4 rfl rfl ?_;(try simp only[lp_])
 refine tE_ 5 rfl rfl ?_;(try simp only[lp_])
 refine tE_ 6 rfl rfl ?_;(try simp only[lp_])
 refine tE_ 7 rfl rfl ?_;(try simp only[lp_])
 refine tE_ 8 rfl rfl ?_;(try simp only[lp_])
 refine tE_ 9 rfl rfl ?_;(try simp only[lp_])
 refine tE_ 13 rfl rfl ?_;(try simp only[lp_])
 refine tE_ 14 rfl rfl ?_;(try simp only[lp_])
 refine tE_ 15 rfl rfl ?_;(try simp only[lp_])
 refine tE_ 16 rfl rfl ?_;(try simp only[lp_])
 refine tE_ 17 rfl rfl ?_;(try simp only[lp_])
 rw[X1.out,X2.out];have hpt:=jv hd;have hqt:=jv he;have T0:=jy ls d;have U0:=jy ls e;rw[ht] at T0;rw[hu] at U0;have HC:=h_ (fun (v:World) (hb:Below w.heap.size w v)=>yT (.slice (some ⟨bn,offn,none⟩) ns.length cn) vl ls (twin d) v (hl.below hb) hpt);have HD:=h_ (fun (v:World) (hb:Below w.heap.size w v)=>yT (.slice (some ⟨bn,offn,none⟩) ns.length cn) vl ls (twin e) v (hl.below hb) hqt);rw[T0] at HC;rw[U0] at HD;generalize twin d=pd at*;generalize twin e=pe at*;have HT:Hid (∀v:World,Below w.heap.size w v->v.cell? ⟨bn,offn+t*2,none⟩=some (.int .i64 (ndI ns t).1)/\v.cell? ⟨bn,offn+t*2+1,none⟩=some (.int .i64 (ndI ns t).2)):=h_ (fun v hv=>⟨(hv.cell (p:=⟨bn,offn+t*2,none⟩) GE).trans t0,(hv.cell (p:=⟨bn,offn+t*2+1,none⟩) GE).trans t1⟩);have HU:Hid (∀v:World,Below w.heap.size w v->v.cell? ⟨bn,offn+u*2,none⟩=some (.int .i64 (ndI ns u).1)/\v.cell? ⟨bn,offn+u*2+1,none⟩=some (.int .i64 (ndI ns u).2)):=h_ (fun v hv=>⟨(hv.cell (p:=⟨bn,offn+u*2,none⟩) GE).trans u0,(hv.cell (p:=⟨bn,offn+u*2+1,none⟩) GE).trans u1⟩)
 refine z5M (n:=26) (Inv:=fun L a v=>∃v7 v8 v9 v20 v21 v22 v28 v29 v30,a= {
   tmps:= #[.int .i64 d,.int .i64 e,.pointer (some ⟨gW,0,none⟩),.pointer (some ⟨gK,0,none⟩),undef,undef,.int .i64 0,v7,v8,v9,
    .pointer (some ⟨gW,0,none⟩),.slice (some ⟨bn,offn,none⟩) ns.length cn,.int .i64 k,.pointer (some ⟨bn,offn+k*2,none⟩),.agg #[.int .i64 (ndI ns k).1,.int .i64 (ndI ns k).2],
    .pointer (some ⟨gW,0,none⟩),.slice (some ⟨bn,offn,none⟩) ns.length cn,.agg #[.slice (some ⟨bn,offn,none⟩) ns.length cn,vl],.int .i64 d,.int .i64 pd,v20,v21,v22,
    .pointer (some ⟨gW,0,none⟩),.slice (some ⟨bn,offn,none⟩) ns.length cn,.agg #[.slice (some ⟨bn,offn,none⟩) ns.length cn,vl],.int .i64 e,.int .i64 pe,v28,v29,v30,
    undef,undef,undef,undef,undef,undef,undef,undef,undef],defers:=[] }/\
   Below w.heap.size w v/\(∀j∈ [0,1,2,3,4,5,6,7,8,9,13,14,15,16,17],tk L j=true)/\
   Aft L 10 (v20= .int .i64 t)/\Aft L 11 (v21= .pointer (some ⟨bn,offn+t*2,none⟩))/\Aft L 12 (v22= .agg #[.int .i64 (ndI ns t).1,.int .i64 (ndI ns t).2])/\
   Aft L 18 (v28= .int .i64 u)/\Aft L 19 (v29= .pointer (some ⟨bn,offn+u*2,none⟩))/\Aft L 20 (v30= .agg #[.int .i64 (ndI ns u).1,.int .i64 (ndI ns u).2])/\
   One L 21 24 w.heap.size 106 #[.int .i64 0,.int .i64 0] #[.int .i64 (ndI ns k).1,.int .i64 (ndI ns k).2] v7 v/\
   One L 22 25 w.heap.size 106 #[.int .i64 0,.int .i64 0] #[.int .i64 (ndI ns t).1,.int .i64 (ndI ns t).2] v8 v/\
   One L 23 26 w.heap.size 106 #[.int .i64 0,.int .i64 0] #[.int .i64 (ndI ns u).1,.int .i64 (ndI ns u).2] v9 v/\
   Apart2 L 21 22 v7 v8/\Apart2 L 21 23 v7 v9/\Apart2 L 22 23 v8 v9) (by decide) k_ k_ ?_ ?_ 12 _ _ _ rfl ?_ k_ ?_
 ·intro L a v hI i hi hr
  obtain⟨v7,v8,v9,v20,v21,v22,v28,v29,v30,rfl,hb,GY,f10,f11,f12,f18,f19,f20,o7,o8,o9,p78,p79,p89⟩:=hI;have GQ:=z04 hr;have uW:=HS.out v hb
  rcases(show i=10∨i=11∨i=12∨i=18∨i=19∨i=20∨i=21∨i=22∨i=23∨i=24∨i=25∨i∈ [0,1,2,3,4,5,6,7,8,9,13,14,15,16,17] by simp only[List.mem_cons,List.mem_nil_iff,or_false];omega) with rfl|rfl|rfl|rfl|rfl|rfl|rfl|rfl|rfl|rfl|rfl|hm
  ·--10
   refine qD rfl (fun K hK=>?_)
   rw[aao (by rfl)];go_simp
   go_at_call 241
   refine(HC.out _ hb).mono ?_
   rintro en w1 ⟨rfl,h9⟩
   go_wp2_with fail
   have gy:=hb.trans (h9.mono hb.size);exact⟨HS.out _ gy,_,_,_,_,_,_,_,_,_,rfl,gy,preS GY,Aft.new rfl,f11.keep (by decide),f12.keep (by decide),f18.keep (by decide),f19.keep (by decide),f20.keep (by decide),o7.step (by decide) (by decide) h9,o8.step (by decide) (by decide) h9,o9.step (by decide) (by decide) h9,p78.step (by decide) (by decide),p79.step (by decide) (by decide),p89.step (by decide) (by decide)⟩
  ·--11
   obtain rfl:=f10 (qU hr rfl k_);refine qD rfl (fun K hK=>?_)
   rw[aao (by rfl)];go_simp;exact hK _ _ ⟨uW,_,_,_,_,_,_,_,_,_,rfl,hb,preS GY,f10.keep (by decide),Aft.new rfl,f12.keep (by decide),f18.keep (by decide),f19.keep (by decide),f20.keep (by decide),o7.step (by decide) (by decide) (aaj _ _),o8.step (by decide) (by decide) (aaj _ _),o9.step (by decide) (by decide) (aaj _ _),p78.step (by decide) (by decide),p79.step (by decide) (by decide),p89.step (by decide) (by decide)⟩
  ·--12
   obtain rfl:=f11 (qU hr rfl k_);obtain⟨c0,c1⟩:=HT.out v hb;refine qD rfl (fun K hK=>?_)
   rw[aao (by rfl)];go_simp;exact hK _ _ ⟨uW,_,_,_,_,_,_,_,_,_,rfl,hb,preS GY,f10.keep (by decide),f11.keep (by decide),Aft.new rfl,f18.keep (by decide),f19.keep (by decide),f20.keep (by decide),o7.step (by decide) (by decide) (aaj _ _),o8.step (by decide) (by decide) (aaj _ _),o9.step (by decide) (by decide) (aaj _ _),p78.step (by decide) (by decide),p79.step (by decide) (by decide),p89.step (by decide) (by decide)⟩
  ·--18
   refine qD rfl (fun K hK=>?_)
   rw[aao (by rfl)];go_simp
   go_at_call 241
   refine(HD.out _ hb).mono ?_
   rintro en w1 ⟨rfl,h9⟩
   go_wp2_with fail
   have gy:=hb.trans (h9.mono hb.size);exact⟨HS.out _ gy,_,_,_,_,_,_,_,_,_,rfl,gy,preS GY,f10.keep (by decide),f11.keep (by decide),f12.keep (by decide),Aft.new rfl,f19.keep (by decide),f20.keep (by decide),o7.step (by decide) (by decide) h9,o8.step (by decide) (by decide) h9,o9.step (by decide) (by decide) h9,p78.step (by decide) (by decide),p79.step (by decide) (by decide),p89.step (by decide) (by decide)⟩
  ·--19
   obtain rfl:=f18 (qU hr rfl k_);refine qD rfl (fun K hK=>?_)
   rw[aao (by rfl)];go_simp;exact hK _ _ ⟨uW,_,_,_,_,_,_,_,_,_,rfl,hb,preS GY,f10.keep (by decide),f11.keep (by decide),f12.keep (by decide),f18.keep (by decide),Aft.new rfl,f20.keep (by decide),o7.step (by decide) (by decide) (aaj _ _),o8.step (by decide) (by decide) (aaj _ _),o9.step (by decide) (by decide) (aaj _ _),p78.step (by decide) (by decide),p79.step (by decide) (by decide),p89.step (by decide) (by decide)⟩
  ·--20
   obtain rfl:=f19 (qU hr rfl k_);obtain⟨c0,c1⟩:=HU.out v hb;refine qD rfl (fun K hK=>?_)
   rw[aao (by rfl)];go_simp;exact hK _ _ ⟨uW,_,_,_,_,_,_,_,_,_,rfl,hb,preS GY,f10.keep (by decide),f11.keep (by decide),f12.keep (by decide),f18.keep (by decide),f19.keep (by decide),Aft.new rfl,o7.step (by decide) (by decide) (aaj _ _),o8.step (by decide) (by decide) (aaj _ _),o9.step (by decide) (by decide) (aaj _ _),p78.step (by decide) (by decide),p79.step (by decide) (by decide),p89.step (by decide) (by decide)⟩
  ·--21
   refine qD rfl (fun K hK=>?_)
   rw[aao (by rfl)];go_simp;have h9:Below v.heap.size v (v.alloc (.cells #[.int .i64 0,.int .i64 0] 106)):=(aaj _ _).alloc (aaa _) _;have gy:=hb.trans (h9.mono hb.size);exact hK _ _ ⟨HS.out _ gy,_,_,_,_,_,_,_,_,_,rfl,gy,preS GY,f10.keep (by decide),f11.keep (by decide),f12.keep (by decide),f18.keep (by decide),f19.keep (by decide),f20.keep (by decide),o7.lay GQ (by decide) hb.size,o8.step (by decide) (by decide) h9,o9.step (by decide) (by decide) h9,Apart2.newL o8 (by decide),Apart2.newL o9 (by decide),p89.step (by decide) (by decide)⟩
  ·--22
   refine qD rfl (fun K hK=>?_)
   rw[aao (by rfl)];go_simp;have h9:Below v.heap.size v (v.alloc (.cells #[.int .i64 0,.int .i64 0] 106)):=(aaj _ _).alloc (aaa _) _;have gy:=hb.trans (h9.mono hb.size);exact hK _ _ ⟨HS.out _ gy,_,_,_,_,_,_,_,_,_,rfl,gy,preS GY,f10.keep (by decide),f11.keep (by decide),f12.keep (by decide),f18.keep (by decide),f19.keep (by decide),f20.keep (by decide),o7.step (by decide) (by decide) h9,o8.lay GQ (by decide) hb.size,o9.step (by decide) (by decide) h9,Apart2.newR o7 (by decide),p79.step (by decide) (by decide),Apart2.newL o9 (by decide)⟩
  ·--23
   refine qD rfl (fun K hK=>?_)
   rw[aao (by rfl)];go_simp;have h9:Below v.heap.size v (v.alloc (.cells #[.int .i64 0,.int .i64 0] 106)):=(aaj _ _).alloc (aaa _) _;have gy:=hb.trans (h9.mono hb.size);exact hK _ _ ⟨HS.out _ gy,_,_,_,_,_,_,_,_,_,rfl,gy,preS GY,f10.keep (by decide),f11.keep (by decide),f12.keep (by decide),f18.keep (by decide),f19.keep (by decide),f20.keep (by decide),o7.step (by decide) (by decide) h9,o8.step (by decide) (by decide) h9,o9.lay GQ (by decide) hb.size,p78.step (by decide) (by decide),Apart2.newR o7 (by decide),Apart2.newR o8 (by decide)⟩
  ·--24
   have h21:=qU (j:=21) hr rfl k_;obtain⟨g,rfl,hg,hB⟩:=o7.zero h21 GQ;obtain⟨b_0,b_1,b_f0,b_f1⟩:=hB.b2;refine qD rfl (fun K hK=>?_)
   rw[aao (by rfl)];go_simp;have gy:=(hb.setCell (p:=⟨g,0,none⟩) hg (.int .i64 (ndI ns k).1)).setCell (p:=⟨g,1,none⟩) hg (.int .i64 (ndI ns k).2);exact hK _ _ ⟨HS.out _ gy,_,_,_,_,_,_,_,_,_,rfl,gy,preS GY,f10.keep (by decide),f11.keep (by decide),f12.keep (by decide),f18.keep (by decide),f19.keep (by decide),f20.keep (by decide),o7.fill h21 GQ rfl (by decide),o8.far (by decide) (by decide) (fun h=>(p78 h21 h).symm) 0 1 _ _,o9.far (by decide) (by decide) (fun h=>(p79 h21 h).symm) 0 1 _ _,p78.step (by decide) (by decide),p79.step (by decide) (by decide),p89.step (by decide) (by decide)⟩
  ·--25
   have h22:=qU (j:=22) hr rfl k_;obtain⟨g,rfl,hg,hB⟩:=o8.zero h22 GQ;obtain rfl:=f12 (qU hr rfl k_);obtain⟨b_0,b_1,b_f0,b_f1⟩:=hB.b2;refine qD rfl (fun K hK=>?_)
   rw[aao (by rfl)];go_simp;have gy:=(hb.setCell (p:=⟨g,0,none⟩) hg (.int .i64 (ndI ns t).1)).setCell (p:=⟨g,1,none⟩) hg (.int .i64 (ndI ns t).2);exact hK _ _ ⟨HS.out _ gy,_,_,_,_,_,_,_,_,_,rfl,gy,preS GY,f10.keep (by decide),f11.keep (by decide),f12.keep (by decide),f18.keep (by decide),f19.keep (by decide),f20.keep (by decide),o7.far (by decide) (by decide) (fun h=>p78 h h22) 0 1 _ _,o8.fill h22 GQ rfl (by decide),o9.far (by decide) (by decide) (fun h=>(p89 h22 h).symm) 0 1 _ _,p78.step (by decide) (by decide),p79.step (by decide) (by decide),p89.step (by decide) (by decide)⟩
  ·rw[GY i hm] at GQ;cases GQ
 ·intro a v hI
  obtain⟨v7,v8,v9,v20,v21,v22,v28,v29,v30,rfl,hb,GY,f10,f11,f12,f18,f19,f20,o7,o8,o9,p78,p79,p89⟩:=hI;obtain rfl:=f20 k_;obtain⟨g9,rfl,hg9,hB⟩:=o9.zero k_ k_;obtain⟨g7,rfl,FP,hB7⟩:=o7.full k_;obtain⟨g8,rfl,hg8,hB8⟩:=o8.full k_;have n7:g7≠g9:=fun h=>p79 k_ k_ (by rw[h])
  have n8:g8≠g9:=fun h=>p89 k_ k_ (by rw[h])
  obtain⟨b_0,b_1,b_f0,b_f1⟩:=hB.b2;refine qg (fuel:=0) (n:=26) (i:=26) rfl k_ (fun K hK=>?_)
  rw[aao (by rfl)];go_simp;refine hK _ _ (fun h=>absurd h (by decide)) (fun _=>?_)
  clear hK K;refine ky k_ ?_ _
  have gy:=(hb.setCell (p:=⟨g9,0,none⟩) hg9 (.int .i64 (ndI ns u).1)).setCell (p:=⟨g9,1,none⟩) hg9 (.int .i64 (ndI ns u).2)
  have W9:Blk ((v.setCell ⟨g9,0,none⟩ (.int .i64 (ndI ns u).1)).setCell ⟨g9,1,none⟩ (.int .i64 (ndI ns u).2)) g9 106 #[.int .i64 (ndI ns u).1,.int .i64 (ndI ns u).2]:=by
   have:=(hB.set_ 0 (.int .i64 (ndI ns u).1)).set_ 1 (.int .i64 (ndI ns u).2)
   simpa using this
  have hB7':=(hB7.far (p:=⟨g9,0,none⟩) n7 (.int .i64 (ndI ns u).1)).far (p:=⟨g9,1,none⟩) n7 (.int .i64 (ndI ns u).2);have Ya:=(hB8.far (p:=⟨g9,0,none⟩) n8 (.int .i64 (ndI ns u).1)).far (p:=⟨g9,1,none⟩) n8 (.int .i64 (ndI ns u).2);generalize ((v.setCell ⟨g9,0,none⟩ (.int .i64 (ndI ns u).1)).setCell ⟨g9,1,none⟩ (.int .i64 (ndI ns u).2))=w3 at*;clear hB hB7 hB8 b_0 b_1 b_f0 b_f1 hb o7 o8 o9 p78 p79 p89 f10 f11 f12 f18 f19 f20 GY;obtain⟨b_0,b_1,b_f0,b_f1⟩:=hB7'.b2;obtain⟨c_0,c_1,c_f0,c_f1⟩:=Ya.b2;obtain⟨f_0,f_1,f_f0,f_f1⟩:=W9.b2
  by_cases hde:d=e
  ·have e1:((d:Int)==(e:Int))=true:=by simp[hde]
   have HR:Hid (cmpD ns ls k d e=0):=h_ (by simp[cmpD,hde]);go_wp2;go_ret
   exact⟨zb HR.out.symm,gy⟩
  ·have e1:((d:Int)==(e:Int))=false:=by simp;omega
   obtain⟨x,hx⟩:∃x,befB (ndI ns k).1 (ndI ns k).2 (ndI ns t).1 (ndI ns t).2 (ndI ns u).1 (ndI ns u).2=x:=⟨_,rfl⟩
   have HR:Hid (cmpD ns ls k d e=if x then -1 else 1):=h_ (by
    unfold cmpD bfD;rw[aaq hde,ht,hu,hx])
   go_wp2_with fail
   refine(z50 (ndI ns k) (ndI ns t) (ndI ns u) x _ hx).mono ?_
   rintro en w4 ⟨rfl,Hv⟩;have Hp:=gy.trans (Hv.mono gy.size)
   cases x
   ·go_wp2
    go_ret
    exact⟨zb HR.out.symm,Hp⟩
   ·go_wp2
    go_ret
    exact⟨zb HR.out.symm,Hp⟩
 ·intro j h1 h2
  have:j=26:=by
   have h3:j<27:=h2;omega
  subst this;rfl
 ·refine⟨_,_,_,_,_,_,_,_,_,rfl,(aaj _ _).drew,by decide,Aft.no rfl,Aft.no rfl,Aft.no rfl,Aft.no rfl,Aft.no rfl,Aft.no rfl,One.start rfl rfl,One.start rfl rfl,One.start rfl rfl,Apart2.start rfl,Apart2.start rfl,Apart2.start rfl⟩
theorem JI (f:Nat) (lb:Array Value) (w:World):
  Calls Tryz.prog 246 #[.slice none 0 0,.int .i64 0,.int .i64 0,.func (.func f) #[] lb] w
   fun e w'=>e= .returned (.tuple #[])/\Below w.heap.size w w':=by
 go_enter Tryz.func246,Tryz.ntmps246
 go_wp2;refine wp_loop_rounds 1 ?_
 rw[rounds_succ];go_wp2
 go_end0
 exact⟨rfl,by exact bel_⟩
theorem za0 (base f g cap:Nat) (k:Int) (lb:Array Value) (G:List Nat) (c:Nat->Nat->Int) (lt:Nat->Nat->Bool) (w:World) (hc:JL f lb G c (some g) w) (Hd:∀d e,decide (c d e<0)=lt d e)
  (ho:OwnI base w (.slice (some ⟨g,0,none⟩) G.length cap) (natI G)) (n9:G.length<=12) (ef:Enters Tryz.prog f):
  Calls Tryz.prog 273 #[.slice (some ⟨g,0,none⟩) G.length cap,.int .i64 0,.int .i64 G.length,.int .i64 k,.func (.func f) #[] lb] w
   fun e w'=>e= .returned (.tuple #[])/\OwnI base w' (.slice (some ⟨g,0,none⟩) G.length cap) (natI (isoK lt G G.length))/\w.grownBy w' (some g):=by
 have h1:(G.length:Int)<=12:=o_
 go_enter Tryz.func273,Tryz.ntmps273
 go_wp2;refine wp_loop_rounds 1 ?_
 rw[rounds_succ]
 go_wp2_with fail
 refine(z3C base f g cap lb G c lt _ hc Hd ho n9 ef).mono ?_
 rintro e w1 ⟨rfl,Hj,fF⟩;go_wp2;exact bodyPost_ret (v:= .tuple #[]) (by simp[results,Tryz.results273,go_sem]) rfl ⟨rfl,Hj,fF⟩
theorem z7x (base f g cap:Nat) (lb:Array Value) (G:List Nat) (c:Nat->Nat->Int) (lt:Nat->Nat->Bool) (w:World) (hc:JL f lb G c (some g) w) (Hd:∀d e,decide (c d e<0)=lt d e)
  (ho:OwnI base w (.slice (some ⟨g,0,none⟩) G.length cap) (natI G)) (n9:G.length<=12) (ef:Enters Tryz.prog f):
  Calls Tryz.prog 267 #[.slice (some ⟨g,0,none⟩) G.length cap,.func (.func f) #[] lb] w
   fun e w'=>e= .returned (.tuple #[])/\OwnI base w' (.slice (some ⟨g,0,none⟩) G.length cap) (natI (isoK lt G G.length))/\w.grownBy w' (some g):=by
 have h0:(0:Int)<=(G.length:Int):=o_
 have h1:(G.length:Int)<=12:=o_
 go_enter Tryz.func267,Tryz.ntmps267
 go_wp2_with (go_at_call 274;refine(z6p _ _ h0 h1).mono ?_;rintro e w' ⟨⟨k,rfl⟩,rfl⟩)
 refine(za0 base f g cap _ lb G c lt _ hc Hd ho n9 ef).mono ?_
 rintro e w1 ⟨rfl,Hj,fF⟩;go_wp2
 go_end0
 exact⟨rfl,Hj,fF⟩
theorem zae (f:Nat) (k:Int) (lb:Array Value) (w:World):
  Calls Tryz.prog 273 #[.slice none 0 0,.int .i64 0,.int .i64 0,.int .i64 k,.func (.func f) #[] lb] w
   fun e w'=>e= .returned (.tuple #[])/\Below w.heap.size w w':=by
 go_enter Tryz.func273,Tryz.ntmps273
 go_wp2;refine wp_loop_rounds 1 ?_
 rw[rounds_succ]
 go_wp2_with fail
 refine(JI f lb _).mono ?_
 rintro e w1 ⟨rfl,h9⟩;go_wp2;exact bodyPost_ret (v:= .tuple #[]) (by simp[results,Tryz.results273,go_sem]) rfl ⟨rfl,h9⟩
theorem z80 (f:Nat) (lb:Array Value) (w:World):
  Calls Tryz.prog 267 #[.slice none 0 0,.func (.func f) #[] lb] w
   fun e w'=>e= .returned (.tuple #[])/\Below w.heap.size w w':=by
 go_enter Tryz.func267,Tryz.ntmps267
 go_wp2_with (go_at_call 274;refine(z6p 0 _ o_ o_).mono ?_;rintro e w' ⟨⟨k,rfl⟩,rfl⟩)
 refine(zae f _ lb _).mono ?_
 rintro e w1 ⟨rfl,h9⟩;go_wp2
 go_end0
 exact⟨rfl,h9⟩
theorem z5Y (ls:List Pr) (k:Nat):∀d,(frD ls k d).length <=d
 |0=>by simp[frD]
 |d+1=>by
  have:=z5Y ls k d;unfold frD
  split<;>simp<;>omega
theorem z2K (vn vl:Value) (ns ls:List Pr) (k:Nat) (w:World) (hn:RP w vn ns) (hl:RP w vl ls) (hk:k<ns.length) (Hn:zL ns ls):
  Calls Tryz.prog 262 #[.agg #[vn,vl],.int .i64 k] w (RetI (natI (ardS ns ls k (2*ls.length))) w):=by
 have GW:=Hn.2.2.1;obtain⟨Al,cl,rfl,Ho,GO,_⟩:=hl.formI;unfold maxLen at GO;obtain⟨i0,hi,iz0,iz1,iz2⟩:=info_parts ql
 go_enter Tryz.func262,Tryz.ntmps262
 go_wp2
 go_loopw [5,6] (fun v i wr=>∃d:Nat,d<=2*ls.length/\i= .int .i64 d/\OwnI (w.heap.size+1+1) wr v (natI (frD ls k d))/\Blk wr w.heap.size 27 #[vn,.slice Al ls.length cl]/\Blk wr (w.heap.size+1) 3 #[.int .i64 k]/\Below w.heap.size w wr) (fun _ i _=>2*ls.length -(intOf i).toNat)
 case atStart=>exact⟨0,aab _,rfl,OwnI.nil _ _,(Blk.newAt rfl).alloc _,Blk.newAt (by simp),by exact bel_⟩
 case round=>
  obtain⟨d,hd,rfl,ho,hW,hK,Hb⟩:=hrel;have gj:=hW.lt;have Yb:=hK.lt
  by_cases Hd:d<2*ls.length
  ·have Hr:(d:Int)<2*(ls.length:Int):=o_
   have Nx:RP wr (.slice Al ls.length cl) ls:=hl.below Hb;have kk:=hK.cell 0;simp only[abe,aag] at kk
   obtain⟨a_0,a_1⟩:=hW.c2
   go_wp2_with fail
   (refine z7 k_ k_ (fun hG=>?_))
   repeat (go_big_quiet_step ((go_at_call 241;exact zy (yT _ _ ls d _ (RS.grw _ Nx) Hd))))
   (refine wpQuiet_nil ?_);(clear hG);(rintro w3 ⟨⟨_,Hf⟩,rfl⟩);(try dsimp only);have fA:=Hf.size;(try simp at fA);(try have cP:=p0_ w w3);(try have cQ:=p1_ w w3)
   have gz:Below w.heap.size w w3:=Hb.trans (Hf.mono Hb.size);have Hq:=ho.kept Hf;have GJ:=hW.below Hf gj;have uX:=hK.below Hf Yb
   by_cases CP:zc ls d=k
   ·have e1:(zc ls d==(k:Int))=true:=by simp[CP]
    have HS:Hid (natI (frD ls k (d+1))=natI (frD ls k d)++[(d:Int)]):=h_ (by rw[Vd CP];simp[natI]);have hle:=z5Y ls k d;have cm:=h_ (za (frD ls k d));generalize frD ls k d=G at*;have hG:G.length<=40:=o_
    go_wp2_with (at_builtin;refine wpList_append_own _ rfl _ _ 31 rfl (w.heap.size+1+1) 3 i0 (.int .i64 0) 1 8 Tryz.underlying31 hi iz0 iz1 iz2 rfl (by decide) _ _ _ rfl (World.ownsRow.alloc Hq _) ⟨w3.heap.size,0,none⟩ 1 1 [.int .i64 _] rfl rfl (cell_one_new _ _ _) (by intro u hu;simp at hu;subst hu;rfl) (by rw[cm.out];unfold maxLen;omega) (by rw[cm.out];omega) (by simp;omega) ?_)
    intro v2 w2 fo Gr Gv;have gn:Below w.heap.size w w2:=(gz.alloc gz.size (.cells #[.int .i64 (d:Int)] 3)).grown Gr (by simp;have:=gz.size;omega) (fun k hk=>by have:=(Hq.lt k hk).1;omega);have gV:Blk w2 w.heap.size 27 #[vn,.slice Al ls.length cl]:=(Gr.block _ (by simp;omega) (fun e=>by have:=(Hq.lt _ e.symm).1;omega)).trans (GJ.alloc _);have hK2:Blk w2 (w.heap.size+1) 3 #[.int .i64 k]:=(Gr.block _ (by simp;omega) (fun e=>by have:=(Hq.lt _ e.symm).1;omega)).trans (uX.alloc _);have HO:=h_ (OwnI.snoc fo);go_wp2;go_roundw
    case rel=>exact⟨d+1,by omega,by go_num,by rw[HS.out];exact HO.out,gV,hK2,gn⟩
    case measure=>simp[intOf];omega
   ·have e1:(zc ls d==(k:Int))=false:=by simp[CP]
    have HS:Hid (frD ls k (d+1)=frD ls k d):=h_ (z1Z CP);go_wp2;go_roundw
    case rel=>exact⟨d+1,by omega,by go_num,by rw[HS.out];exact Hq,GJ,uX,gz⟩
    case measure=>simp[intOf];omega
  ·have CU:d=2*ls.length:=o_
   subst CU;obtain⟨a_0,a_1⟩:=hW.c2;have hAS:=V4 ns ls k (2*ls.length);have n9:=z91 Hn k;have CR:=Xr ls k (2*ls.length);generalize frD ls k (2*ls.length)=G at*
   rcases Gf:ho.2 with ⟨rfl,e1⟩|⟨gb,cap,cur,rfl,mI,hh,FZ⟩
   ·have hG0:G=[]:=by rw[za] at e1;exact aby e1
    have HR:Hid (ardS ns ls k (2*ls.length)=[]):=h_ (by rw[<-hAS,hG0];rfl)
    go_wp2_with fail
    refine(z80 _ _ _).mono ?_
    rintro e w4 ⟨rfl,Hv⟩;go_wp2;go_ret
    exact⟨_,rfl,by rw[HR.out];exact OwnI.nil _ _,Hb.trans (Hv.mono Hb.size)⟩
   ·have Bo:=(ho.lt gb rfl).2
    have hgl:=za G;rw[hgl] at ho⊢
    have hc:JL 268 #[.pointer (some ⟨w.heap.size,0,none⟩),.pointer (some ⟨w.heap.size+1,0,none⟩)] G (cmpD ns ls k) (some gb) wr:=by
     intro v d e hd he hgv;have hbv:Below w.heap.size w v:=Hb.grown hgv Hb.size (fun k hk=>by cases hk;omega);have hWv:=hW.grown hgv o_;have hKv:=hK.grown hgv o_;have kk:=hKv.cell 0;simp only[abe,aag] at kk
     exact z9U w.heap.size (w.heap.size+1) vn (.slice Al ls.length cl) ns ls k d e v hWv kk hKv.lt (hn.below hbv) (hl.below hbv) hk (CR d hd).1 (CR e he).1 Hn
    have HC:=h_ hc;have HO:=h_ ho;have HAS:=h_ hAS
    go_wp2_with fail
    refine(z7x (w.heap.size+1+1) _ gb cap _ G (cmpD ns ls k) (bfD ns ls k) _ HC.out (za3 ns ls k) HO.out n9 (enters_of Tryz.func268 k_ rfl)).mono ?_
    rintro e w4 ⟨rfl,gF,GA⟩;rw[HAS.out] at gF;go_wp2;go_ret
    exact⟨_,rfl,gF.mono o_,Hb.grown GA Hb.size (fun k hk=>by cases hk;omega)⟩
def idxN (l:List Nat) (d:Nat):Int:=if d∈l then(l.idxOf d:Int) else -1
theorem z6s {l:List Nat} {d:Nat} (h:d∉l):idxN l d= -1:=by simp[idxN,h]
theorem z6c {l:List Nat} {d k:Nat} (hk:k<l.length) (h:d∉l.take k) (hp:l.getD k 0=d):idxN l d=k:=by
 have hp':l[k]=d:=by simpa[List.getD,hk] using hp
 have e:l=l.take k++d::l.drop (k+1):=by
  rw[<-hp',<-aas hk,abp]
 have hm:d∈l:=by rw[e];simp
 unfold idxN;rw[aao hm]
 have:l.idxOf d=k:=by
  rw[e,List.idxOf_append,aaq h,List.idxOf_cons_self];simp;omega
 rw[this]
theorem qj (l:List Nat) (k:Nat):(natI l).getD k 0=((l.getD k 0:Nat):Int):=by
 unfold natI;simp only[List.getD,aau]
 cases l[k]? <;>rfl
theorem QU {l:List Nat} {d k:Nat} (hk:k<l.length) (h:d∉l.take k) (gr:l.getD k 0≠d):d∉l.take (k+1):=by
 rw[aax hk,aaJ,aba];rintro(h2|h2)
 ·exact h h2
 ·apply gr
  rw[h2];simp[List.getD,hk]
theorem ZJ (v:Value) (l:List Nat) (d:Nat) (w:World) (h:RI w v (natI l)):
  Calls Tryz.prog 85 #[v,.int .i64 d] w fun e w'=>e= .returned (.int .i64 (idxN l d))/\w=w':=by
 obtain⟨A,c,rfl,hc,hm,hcell⟩:=h.form;rw[za] at hc hm hcell⊢;unfold maxLen at hm;clear h
 go_enter Tryz.func85,Tryz.ntmps85
 go_wp2
 go_loop [8] (fun i=>∃k:Nat,k<=l.length/\i= .int .i64 k/\Hid (d∉l.take k)) (fun i=>l.length -(intOf i).toNat)
 case atStart=>exact⟨0,aab _,rfl,h_ (by simp)⟩
 case round=>
  obtain⟨k,hk,rfl,HT⟩:=hrel
  by_cases Hd:k<l.length
  ·obtain⟨b,off,rfl,hb,Ho⟩:=hcell o_
   have fK:=Ho k Hd;rw[qj] at fK;clear Ho hcell;have HS:=h_ (fun gr=>QU Hd HT.out gr);have HY:=h_ (fun he=>z6c Hd HT.out he);generalize l.getD k 0=x at*
   by_cases he:x=d
   ·have e1:((d:Int)==(x:Int))=true:=by simp[he]
    have HX:=h_ (HY.out he);clear he;go_wp2;go_ret
    exact⟨zb HX.out.symm,rfl⟩
   ·have e1:((d:Int)==(x:Int))=false:=by simp;omega
    have HX:=h_ (HS.out he);clear he;go_wp2;go_round
    case rel=>exact⟨k+1,by omega,by go_num,HX⟩
    case measure=>simp[intOf];omega
  ·have Hw:l.length<=k:=o_
   have h:=HT.out;rw[aaL Hw] at h;have HX:Hid (idxN l d= -1):=h_ (z6s h);clear h hcell;go_wp2;go_ret
   exact⟨zb HX.out.symm,rfl⟩
theorem zal {l:List Nat} {d:Nat} (h:d∈l):idxN l d=(l.idxOf d:Int):=by simp[idxN,h]
theorem Xz {ns ls:List Pr} (Hn:zL ns ls) {d:Nat} (hd:d<2*ls.length):∃(t:Nat) (G:List Nat) (i q:Nat),zc ls d=(t:Int)/\t<ns.length/\ardS ns ls t (2*ls.length)=G/\idxN G d=(i:Int)/\i<G.length/\G.length<=12/\G.getD i 0=d/\d∉G.take i/\
  (i+G.length -1)%G.length=q/\q<G.length/\G.getD q 0=vj ns ls d:=by
 have Hu:∀j:Nat,j<ls.length->zp ns (ndI ls j)=true:=fun j hj=>(Hn.2.2.2.2.2 j hj).1
 obtain⟨t,ht,Bm⟩:=qE Hu hd;have hr:qI ns ls d=ardS ns ls t (2*ls.length):=by unfold qI;rw[ht,aa6]
 have hm:=kO Hu hd;have Fm:=abu hm;have GD:=abi hm;have n9:=z91 Hn t;have hAS:=V4 ns ls t (2*ls.length);have Hi:(qI ns ls d).length =(frD ls t (2*ls.length)).length :=by rw[hr,<-hAS,jC _ _ _ (aaa _)]
 refine⟨t,qI ns ls d,(qI ns ls d).idxOf d,_,ht,Bm,hr.symm,zal hm,Fm,by omega,?_,?_,rfl,Nat.mod_lt _ GD,rfl⟩
 ·rw[List.getD,aac Fm,List.getElem_idxOf Fm];rfl
 ·intro hc
  have hn:(qI ns ls d).Nodup :=vQ _ _ _ _;obtain⟨j,hj,e⟩:=abb hc;rw[abn] at hj;rw[abq] at e;have e2:=List.getElem_idxOf Fm;have:=(List.getElem_inj hn (h₀:=by omega) (h₁:=Fm)).1 (e.trans e2.symm);omega
theorem z4t (vn vl:Value) (ns ls:List Pr) (d:Nat) (w:World) (hn:RP w vn ns) (hl:RP w vl ls) (hd:d<2*ls.length) (Hn:zL ns ls):
  CB_ 245 #[.agg #[vn,vl],.int .i64 d,.int .i64 (-1)] w (.int .i64 (vj ns ls d)):=by
 obtain⟨t,G,i,q,ht,Bm,hG,uY,Fm,n9,_,_,hq,mA,f8⟩:=Xz Hn hd;have HW:=h_ Hn;have Hg:Below w.heap.size w (w.alloc (.cells #[vn,vl] 27)):=bel_
 have uy:=h_ (fun (v:World) (hv:Below w.heap.size w v)=>yT vn vl ls d v (hl.below hv) hd);have HAR:=h_ (fun (v:World) (hv:Below w.heap.size w v)=>z2K vn vl ns ls t v (hn.below hv) (hl.below hv) Bm HW.out);rw[ht] at uy;rw[hG] at HAR;rw[<-f8];obtain⟨x,hx⟩:∃x,G.getD q 0=x:=⟨_,rfl⟩;rw[hx];have HX:=h_ hx;clear hx;have HID:=h_ uY;clear uY f8 hG Hn ht;have HQ:=h_ hq;clear hq
 go_enter Tryz.func245,Tryz.ntmps245
 go_wp2_with fail
 go_region_held3 (fun w'=>w'.cell? ⟨w.heap.size,0,none⟩=some vn/\w'.cell? ⟨w.heap.size,1,none⟩=some vl)
  (go_keep)
  (first|(go_at_call 241;refine(uy.out _ bel_).mono ?_;rintro e w1 ⟨rfl,h9⟩;(have Gb:=bdC h9);have H8:=h9.size;(try simp at H8);(try have gR:=p0_ w w1);have h8:Below w.heap.size w w1:=bel_)|(go_at_call 262;refine(HAR.out _ bel_).mono ?_;rintro e w2 ⟨v2,rfl,Hm,He⟩;(have fa:=bcC He)))
 have Ha:Below w.heap.size w w2:=bel_
 have MM:=Hm.reads;obtain⟨A,c,rfl,hc,hm,hcell⟩:=MM.form;rw[za] at hc hm hcell MM⊢;obtain⟨b,off,rfl,gc,Ho⟩:=hcell o_;have fK:=Ho q mA;rw[qj] at fK;clear Ho hcell Gb fa;rw[HX.out] at fK;have e1:(i:Int)+ -1+(G.length:Int)=((i+G.length -1:Nat):Int):=o_
 have e2:((i+G.length -1:Nat):Int).tmod (G.length:Int)=(q:Int):=by
  rw[Int.tmod_eq_emod_of_nonneg (Int.natCast_nonneg _),<-Int.natCast_emod,HQ.out]
 have i1:(0:Int)<=(q:Int):=o_
 have i2:(q:Int)<(G.length:Int):=o_
 go_wp2_with fail
 refine(ZJ _ G d _ MM).mono ?_
 rintro e w3 ⟨rfl,rfl⟩;rw[HID.out];go_wp2;go_ret
 exact⟨rfl,by exact bel_⟩
theorem z5g (vn vl:Value) (ns ls:List Pr) (d:Nat) (w:World) (hn:RP w vn ns) (hl:RP w vl ls) (hd:d<2*ls.length) (Hn:zL ns ls):
  CB_ 261 #[.agg #[vn,vl],.int .i64 d,.int .i64 (-1)] w (.int .i64 (vj ns ls d)):=by
 obtain⟨t,G,i,q,ht,Bm,hG,uY,Fm,n9,ux,hni,hq,mA,f8⟩:=Xz Hn hd;have Hu:∀j:Nat,j<ls.length->zp ns (ndI ls j)=true:=fun j hj=>(Hn.2.2.2.2.2 j hj).1
 have Bk:=h_ Hu;have HNI:=h_ hni;have HGI:=h_ ux;have HM:=h_ (And.intro Hn.2.2.1 Hn.2.1);rw[<-f8];obtain⟨x,hx⟩:∃x,G.getD q 0=x:=⟨_,rfl⟩;rw[hx];have HX:=h_ hx;clear hx;have HG:=h_ hG;have HT:=h_ ht;clear uY f8 hG Hn ht hni ux Hu;have HQ:=h_ hq;clear hq
 go_enter Tryz.func261,Tryz.ntmps261
 go_wp2_with fail
 refine(kR _ _ ls d _ (hl.below bel_) hd).mono ?_
 rintro e w1 ⟨rfl,h9⟩;(have Gb:=bcC h9)
 have h8:Below w.heap.size w w1:=bel_
 rw[HT.out]
 go_wp2_with fail
 refine(z4m _ _ ns ls t _ (hn.below h8) (hl.below h8) Bm HM.out.1 HM.out.2 Bk.out).mono ?_
 rw[HG.out];rintro e w2 ⟨v2,rfl,Hm,He⟩;have Ha:=h8.trans (He.mono h8.size);have MM:=Hm.reads;obtain⟨A,c,rfl,hc,hm,hcell⟩:=MM.form;rw[za] at hc hm hcell MM⊢;obtain⟨b,off,rfl,gc,Ho⟩:=hcell o_;have fK:=Ho q mA;rw[qj] at fK;have cX:=h_ Ho;clear Ho hcell Gb h9 He Hm;rw[HX.out] at fK;have e1:(i:Int)+ -1+(G.length:Int)=((i+G.length -1:Nat):Int):=o_
 have e2:((i+G.length -1:Nat):Int).tmod (G.length:Int)=(q:Int):=by
  rw[Int.tmod_eq_emod_of_nonneg (Int.natCast_nonneg _),<-Int.natCast_emod,HQ.out]
 have i1:(0:Int)<=(q:Int):=o_
 have i2:(q:Int)<(G.length:Int):=o_
 go_wp2
 go_loop [10] (fun y=>∃k:Nat,k<=i/\y= .int .i64 k) (fun y=>i+1 -(intOf y).toNat)
 case atStart=>exact⟨0,aab _,rfl⟩
 case round=>
  obtain⟨k,hk,rfl⟩:=hrel;have bj:k<G.length:=o_
  have hkc:=cX.out k bj;rw[qj] at hkc
  by_cases WL:k=i
  ·subst WL
   rw[HGI.out] at hkc;go_wp2;go_ret
   exact⟨rfl,Ha⟩
  ·have gr:G.getD k 0≠d:=by
    intro h
    apply HNI.out
    rw[<-h,List.getD,aac bj];simp only[Option.getD_some]
    rw[List.mem_take_iff_getElem];exact⟨k,by omega,rfl⟩
   generalize G.getD k 0=y at*;have e4:((y:Int)==(d:Int))=false:=by simp;omega
   clear gr;go_wp2;go_round
   case rel=>exact⟨k+1,by omega,by go_num⟩
   case measure=>simp[intOf];omega
theorem kU (d:Nat) (h:d<1000000):bits .xor .i64 (d:Int) 1=((twin d:Nat):Int):=by
 have x:=xo (a:=d) (b:=1) o_ o_;rw[z2I] at x;exact x
theorem z7E (vn vl:Value) (ns ls:List Pr) (d:Nat) (w:World) (hn:RP w vn ns) (hl:RP w vl ls) (hd:d<2*ls.length) (Hn:zL ns ls):
  CB_ 244 #[.agg #[vn,vl],.int .i64 d] w (.int .i64 (qZ ns ls d)):=by
 have GW:=Hn.2.2.1;have x1:=kU d o_;have Hg:Below w.heap.size w (w.alloc (.cells #[vn,vl] 27)):=bel_
 have HC:=h_ (fun (v:World) (hv:Below w.heap.size w v)=>z5g vn vl ns ls (twin d) v (hn.below hv) (hl.below hv) (jv hd) Hn);have HR:Hid (qZ ns ls d=vj ns ls (twin d)):=h_ rfl;generalize twin d=e at*
 go_enter Tryz.func244,Tryz.ntmps244
 go_wp2_with fail
 refine(HC.out _ Hg).mono ?_
 rintro e w1 ⟨rfl,h9⟩;go_wp2;go_ret
 exact⟨zb (by rw[HR.out]),by exact bel_⟩
def lenV:Value->Nat
 | .slice _ n _=>n
 |_=>0
theorem OwnI.lenV {base:Nat} {w:World} {v:Value} {zs:List Int} (h:OwnI base w v zs):lenV v=zs.length:=by
 obtain⟨A,c,rfl⟩:=h.form;rfl
theorem OwnI.lit1 {base g:Nat} {w:World} {x:Int} (hg:g=w.heap.size) (hb:base<=w.heap.size):OwnI base (w.alloc (.cells #[.int .i64 x] 3)) (.slice (some ⟨g,0,none⟩) 1 1) [x]:=by
 subst hg;exact World.ownsRow_lit w #[.int .i64 x] 1 hb (by simp[maxLen]) rfl
theorem z6X (vn vl:Value) (ns ls:List Pr) (d:Nat) (w:World) (hn:RP w vn ns) (hl:RP w vl ls) (hd:d<2*ls.length) (Hn:zL ns ls):
  Calls Tryz.prog 208 #[.agg #[vn,vl],.int .i64 d] w (RetI (natI (qF ns ls d)) w):=by
 have GW:=Hn.2.2.1;have Hu:∀j:Nat,j<ls.length->zp ns (ndI ls j)=true:=fun j hj=>(Hn.2.2.2.2.2 j hj).1
 obtain⟨Nw,hpm,hpd,hpj⟩:=kI Hu hd;obtain⟨i0,hi,iz0,iz1,iz2⟩:=info_parts ql;have uz:=h_ (fun (v:World) (e:Nat) (hv:Below w.heap.size w v) (he:e<2*ls.length)=>z4t vn vl ns ls (twin e) v (hn.below hv) (hl.below hv) (jv he) Hn);have Yc:=h_ (fun k=>xP Hu hd k);have HPJ:=h_ hpj;have HPD:=h_ hpd;have HWD:Hid (qF ns ls d=jo ns ls d (perD ns ls d)):=h_ rfl;have HWS:=h_ (fun k=>Xv ns ls d k);have uZ:=h_ (fun k=>xu ns ls d k);have Yd:Hid (∀k,qZ ns ls (orbD ns ls d k)=orbD ns ls d (k+1)):=h_ (fun _=>rfl);have H01:Hid (orbD ns ls d 1=qZ ns ls d):=h_ rfl;have HW1:Hid (jo ns ls d 1=[d]):=h_ rfl;generalize perD ns ls d=per at*;have HTX:=h_ (fun (e:Nat) (he:e<2*ls.length)=>kU e o_);have uz:Hid (∀(v:World) (e:Nat),Below w.heap.size w v->e<2*ls.length->Calls Tryz.prog 245 #[.agg #[vn,vl],.int .i64 (bits .xor .i64 (e:Int) 1),.int .i64 (-1)] v fun e' w'=>e'= .returned (.int .i64 (qZ ns ls e))/\Below v.heap.size v w'):=h_ (fun v e hv he=>by rw[HTX.out e he];exact uz.out v e hv he);clear Hn hpj hpd Hu
 go_enter Tryz.func208,Tryz.ntmps208
 go_wp2_with fail
 have fe:Below w.heap.size w ((w.alloc (.cells #[vn,vl] 27)).alloc (.cells #[.int .i64 d] 3)):=bel_
 have gD:Blk ((w.alloc (.cells #[vn,vl] 27)).alloc (.cells #[.int .i64 d] 3)) w.heap.size 27 #[vn,vl]:=(Blk.newAt rfl).alloc _;have Na:OwnI (w.heap.size+1) ((w.alloc (.cells #[vn,vl] 27)).alloc (.cells #[.int .i64 d] 3)) (.slice (some ⟨w.heap.size+1,0,none⟩) 1 1) [(d:Int)]:=OwnI.lit1 (by simp) (by simp);refine(uz.out _ d fe hd).mono ?_
 rintro e w1 ⟨rfl,h9⟩;have h8:=fe.trans (h9.mono fe.size);have gg:=gD.below h9 gD.lt;have Hj:=Na.kept h9;clear h9 fe gD Na;go_wp2
 go_loopw [5,6] (fun v x wr=>∃k:Nat,1<=k/\k<=per/\x= .int .i64 (orbD ns ls d k)/\OwnI (w.heap.size+1) wr v (natI (jo ns ls d k))/\Blk wr w.heap.size 27 #[vn,vl]/\Below w.heap.size w wr) (fun v _ _=>per -lenV v)
 case atStart=>exact⟨1,aaa _,Nw,by rw[H01.out],by rw[HW1.out];exact Hj,gg,h8⟩
 case round=>
  clear Hj gg h8;obtain⟨k,F5,hkp,rfl,ho,hW,Hb⟩:=hrel;have hlv:=ho.lenV;have gj:=hW.lt;rw[za,uZ.out] at hlv;obtain⟨a_0,a_1⟩:=hW.c2;have HK:Hid (k<per->orbD ns ls d k≠d):=h_ (fun h=>HPJ.out k o_ h);have hol:=Yc.out k;have HS:Hid (natI (jo ns ls d (k+1))=natI (jo ns ls d k)++[((orbD ns ls d k:Nat):Int)]):=h_ (by rw[HWS.out];simp[natI]);have Bh:=h_ (Yd.out k);have cm:Hid ((natI (jo ns ls d k)).length =k):=h_ (by rw[za,uZ.out]);have HE:Hid (k=per->orbD ns ls d k=d):=h_ (fun h=>by rw[h];exact HPD.out);have HEW:Hid (k=per->qF ns ls d=jo ns ls d k):=h_ (fun h=>by rw[h];exact HWD.out);generalize hxe:orbD ns ls d k=x at*;clear hxe
  by_cases hkd:k<per
  ·have gr:=HK.out hkd
   have e1:((x:Int) != (d:Int))=true:=by simp;omega
   generalize jo ns ls d k=G at*
   go_wp2_with (at_builtin;refine wpList_append_own _ rfl _ _ 31 rfl (w.heap.size+1) 3 i0 (.int .i64 0) 1 8 Tryz.underlying31 hi iz0 iz1 iz2 rfl (by decide) _ _ _ rfl (World.ownsRow.alloc ho _) ⟨wr.heap.size,0,none⟩ 1 1 [.int .i64 _] rfl rfl (jl (by simp)) (by intro u hu;simp at hu;subst hu;rfl) (by rw[cm.out];unfold maxLen;omega) (by rw[cm.out];omega) (by simp;omega) ?_)
   intro v2 w2 fo Gr Gv;have gn:Below w.heap.size w w2:=(Hb.alloc (show w.heap.size<=wr.heap.size by omega) (.cells #[.int .i64 (x:Int)] 3)).grown Gr (by simp;omega) (fun k hk=>by have:=(ho.lt k hk).1;omega);have gV:Blk w2 w.heap.size 27 #[vn,vl]:=(Gr.block _ (by simp;omega) (fun e=>by have:=(ho.lt _ e.symm).1;omega)).trans (hW.alloc _);have Cd:=OwnI.snoc fo;have Gd:=gV.lt;have bS:=Cd.lenV;rw[aaX,cm.out] at bS;simp at bS
   clear fo Gr ho hW Hb Gv a_0 a_1;obtain⟨a_0,a_1⟩:=gV.c2
   go_wp2_with fail
   refine(uz.out _ x gn hol).mono ?_
   rw[Bh.out];rintro e w3 ⟨rfl,Hf⟩;have bQ:=h_ (Cd.kept Hf);have HW3:=h_ (gV.below Hf Gd);have gz:=gn.trans (Hf.mono gn.size);clear Hf Cd gV gn a_0 a_1;go_wp2;go_roundw
   case rel=>exact⟨k+1,by omega,by omega,rfl,by rw[HS.out];exact bQ.out,HW3.out,gz⟩
   case measure=>simp[bS,hlv];omega
  ·have Hw:k=per:=o_
   have hxd:=HE.out Hw;have e1:((x:Int) != (d:Int))=false:=by simp[hxd]
   have HR:=h_ (HEW.out Hw);clear Hw hxd;go_wp2;go_ret
   exact⟨_,rfl,by rw[HR.out];exact ho.mono o_,Hb⟩
theorem z7z (vn vl:Value) (ns ls:List Pr) (d:Nat) (w:World) (hn:RP w vn ns) (hl:RP w vl ls) (hd:d<2*ls.length) (Hn:zL ns ls):
  Calls Tryz.prog 199 #[.agg #[vn,vl],.int .i64 d] w (RetI (natI (qF ns ls d)) w):=by
 have GW:=Hn.2.2.1;have Hu:∀j:Nat,j<ls.length->zp ns (ndI ls j)=true:=fun j hj=>(Hn.2.2.2.2.2 j hj).1
 obtain⟨Nw,hpm,hpd,hpj⟩:=kI Hu hd;obtain⟨i0,hi,iz0,iz1,iz2⟩:=info_parts ql;have uz:=h_ (fun (v:World) (e:Nat) (hv:Below w.heap.size w v) (he:e<2*ls.length)=>z7E vn vl ns ls e v (hn.below hv) (hl.below hv) he Hn);have Yc:=h_ (fun k=>xP Hu hd k);have HPJ:=h_ hpj;have HPD:=h_ hpd;have HWD:Hid (qF ns ls d=jo ns ls d (perD ns ls d)):=h_ rfl;have HWS:=h_ (fun k=>Xv ns ls d k);have uZ:=h_ (fun k=>xu ns ls d k);have Yd:Hid (∀k,qZ ns ls (orbD ns ls d k)=orbD ns ls d (k+1)):=h_ (fun _=>rfl);have H01:Hid (orbD ns ls d 1=qZ ns ls d):=h_ rfl;have HW1:Hid (jo ns ls d 1=[d]):=h_ rfl;generalize perD ns ls d=per at*;clear Hn hpj hpd Hu
 go_enter Tryz.func199,Tryz.ntmps199
 go_wp2_with fail
 have fe:Below w.heap.size w ((w.alloc (.cells #[vn,vl] 27)).alloc (.cells #[.int .i64 d] 3)):=bel_
 have gD:Blk ((w.alloc (.cells #[vn,vl] 27)).alloc (.cells #[.int .i64 d] 3)) w.heap.size 27 #[vn,vl]:=(Blk.newAt rfl).alloc _;have Na:OwnI (w.heap.size+1) ((w.alloc (.cells #[vn,vl] 27)).alloc (.cells #[.int .i64 d] 3)) (.slice (some ⟨w.heap.size+1,0,none⟩) 1 1) [(d:Int)]:=OwnI.lit1 (by simp) (by simp);refine(uz.out _ d fe hd).mono ?_
 rintro e w1 ⟨rfl,h9⟩;have h8:=fe.trans (h9.mono fe.size);have gg:=gD.below h9 gD.lt;have Hj:=Na.kept h9;clear h9 fe gD Na;go_wp2
 go_loopw [5,6] (fun v x wr=>∃k:Nat,1<=k/\k<=per/\x= .int .i64 (orbD ns ls d k)/\OwnI (w.heap.size+1) wr v (natI (jo ns ls d k))/\Blk wr w.heap.size 27 #[vn,vl]/\Below w.heap.size w wr) (fun v _ _=>per -lenV v)
 case atStart=>exact⟨1,aaa _,Nw,by rw[H01.out],by rw[HW1.out];exact Hj,gg,h8⟩
 case round=>
  clear Hj gg h8;obtain⟨k,F5,hkp,rfl,ho,hW,Hb⟩:=hrel;have hlv:=ho.lenV;have gj:=hW.lt;rw[za,uZ.out] at hlv;obtain⟨a_0,a_1⟩:=hW.c2;have HK:Hid (k<per->orbD ns ls d k≠d):=h_ (fun h=>HPJ.out k o_ h);have hol:=Yc.out k;have HS:Hid (natI (jo ns ls d (k+1))=natI (jo ns ls d k)++[((orbD ns ls d k:Nat):Int)]):=h_ (by rw[HWS.out];simp[natI]);have Bh:=h_ (Yd.out k);have cm:Hid ((natI (jo ns ls d k)).length =k):=h_ (by rw[za,uZ.out]);have HE:Hid (k=per->orbD ns ls d k=d):=h_ (fun h=>by rw[h];exact HPD.out);have HEW:Hid (k=per->qF ns ls d=jo ns ls d k):=h_ (fun h=>by rw[h];exact HWD.out);generalize hxe:orbD ns ls d k=x at*;clear hxe
  by_cases hkd:k<per
  ·have gr:=HK.out hkd
   have e1:((x:Int) != (d:Int))=true:=by simp;omega
   generalize jo ns ls d k=G at*
   go_wp2_with (at_builtin;refine wpList_append_own _ rfl _ _ 31 rfl (w.heap.size+1) 3 i0 (.int .i64 0) 1 8 Tryz.underlying31 hi iz0 iz1 iz2 rfl (by decide) _ _ _ rfl (World.ownsRow.alloc ho _) ⟨wr.heap.size,0,none⟩ 1 1 [.int .i64 _] rfl rfl (jl (by simp)) (by intro u hu;simp at hu;subst hu;rfl) (by rw[cm.out];unfold maxLen;omega) (by rw[cm.out];omega) (by simp;omega) ?_)
   intro v2 w2 fo Gr Gv;have gn:Below w.heap.size w w2:=(Hb.alloc (show w.heap.size<=wr.heap.size by omega) (.cells #[.int .i64 (x:Int)] 3)).grown Gr (by simp;omega) (fun k hk=>by have:=(ho.lt k hk).1;omega);have gV:Blk w2 w.heap.size 27 #[vn,vl]:=(Gr.block _ (by simp;omega) (fun e=>by have:=(ho.lt _ e.symm).1;omega)).trans (hW.alloc _);have Cd:=OwnI.snoc fo;have Gd:=gV.lt;have bS:=Cd.lenV;rw[aaX,cm.out] at bS;simp at bS
   clear fo Gr ho hW Hb Gv a_0 a_1;obtain⟨a_0,a_1⟩:=gV.c2
   go_wp2_with fail
   refine(uz.out _ x gn hol).mono ?_
   rw[Bh.out];rintro e w3 ⟨rfl,Hf⟩;have bQ:=h_ (Cd.kept Hf);have HW3:=h_ (gV.below Hf Gd);have gz:=gn.trans (Hf.mono gn.size);clear Hf Cd gV gn a_0 a_1;go_wp2;go_roundw
   case rel=>exact⟨k+1,by omega,by omega,rfl,by rw[HS.out];exact bQ.out,HW3.out,gz⟩
   case measure=>simp[bS,hlv];omega
  ·have Hw:k=per:=o_
   have hxd:=HE.out Hw;have e1:((x:Int) != (d:Int))=false:=by simp[hxd]
   have HR:=h_ (HEW.out Hw);clear Hw hxd;go_wp2;go_ret
   exact⟨_,rfl,by rw[HR.out];exact ho.mono o_,Hb⟩
def xA (zs:List Int) (k:Nat):List Int:=zs.take k++List.replicate (zs.length -k) 0
theorem z7H (zs:List Int) (k:Nat) (h:k<=zs.length):(xA zs k).length =zs.length:=by simp[xA];omega
theorem z4u (zs:List Int):xA zs 0=List.replicate zs.length 0:=by simp[xA]
theorem z7G (zs:List Int):xA zs zs.length=zs:=by simp[xA]
theorem z58 (zs:List Int) (k:Nat) (h:k<zs.length):(xA zs k).set k (zs.getD k 0)=xA zs (k+1):=by
 unfold xA;have e:(zs.take k).length =k:=by simp;omega
 rw[aan,aaq o_,e,aae,show zs.length -k=(zs.length -(k+1))+1 by omega,List.replicate_succ,aal,aax h,aay];simp[List.getD,h]
theorem z4f (v:Value) (l:List Int) (n:Int) (w:World) (h:RI w v l) (h0:0<=n) (h1:n<=1000000000):
  Calls Tryz.prog 91 #[v,.int .i64 n] w fun e w'=>e= .returned (.int .i64 (szF n l.length))/\w=w':=by
 obtain⟨A,c,rfl,hc,hm,hcell⟩:=h.form;unfold maxLen at hm;clear h hcell
 by_cases Hd:n<l.length
 ·have fS:n -(l.length:Int)<0:=o_
  have HF:Hid (szF n l.length= -1):=h_ (by unfold szF;rw[aao Hd])
  go_enter Tryz.func91,Tryz.ntmps91
  go_wp2
  all_goals go_ret
  all_goals exact⟨zb HF.out.symm,rfl⟩
 ·have fS:¬n -(l.length:Int)<0:=o_
  have HF:Hid (szF n l.length=n -l.length):=h_ (by unfold szF;rw[aaq Hd])
  go_enter Tryz.func91,Tryz.ntmps91
  go_wp2
  all_goals go_ret
  all_goals exact⟨zb HF.out.symm,rfl⟩
theorem z8h (v:Value) (zs:List Int) (w:World) (h:RI w v zs) (hle:zs.length<=1048576):
  Calls Tryz.prog 56 #[v] w (RetI zs w):=by
 obtain⟨A,c,rfl,hc,hm,hcell⟩:=h.form;unfold maxLen at hm;clear h;obtain⟨i0,hi,iz0,iz1,iz2⟩:=info_parts ql
 go_enter Tryz.func56,Tryz.ntmps56
 go_wp2_with (at_make;refine wpList_make_full _ rfl _ _ 31 rfl w.heap.size 3 i0 (.int .i64 0) 1 Tryz.underlying31 hi iz0 iz1 .i64 .i64 _ _ zs.length rfl rfl rfl rfl (by rw[iz2];omega) (by unfold maxLen;omega) o_ ?_)
 intro w1 Hz gQ;have h9:Below w.heap.size w w1:=(aaj _ _).grown gQ (aaa _) (by intro k hk;cases hk)
 have hown:OwnI w.heap.size w1 (.slice (some ⟨w.heap.size,0,none⟩) zs.length zs.length) (xA zs 0):=by
  have e:∀n:Nat,(madeCells #[.int .i64 0] n).toList =(List.replicate n (0:Int)).map vI:=by
   intro n
   apply aat
   intro j
   by_cases hj:j<n
   ·simp only[madeCells,Array.toList_map,aau,Array.toList_range,aav hj,abm,aao hj,aaw]
    congr 1
    show #[Value.int .i64 0][j%1]! =_
    rw[Nat.mod_one];rfl
   ·simp[madeCells,hj]
  unfold OwnI;rw[z4u,aaD,<-e];exact Hz
 clear Hz gQ iz0 iz1 iz2 hi;go_wp2
 go_loopw [4] (fun i wr=>∃k:Nat,k<=zs.length/\i= .int .i64 k/\OwnI w.heap.size wr (.slice (some ⟨w.heap.size,0,none⟩) zs.length zs.length) (xA zs k)/\Below w.heap.size w wr) (fun i _=>zs.length -(intOf i).toNat)
 case atStart=>exact⟨0,aab _,rfl,hown,h9⟩
 case round=>
  obtain⟨k,hk,rfl,ho,Hb⟩:=hrel;clear hown h9;have GB:=z7H zs k hk
  by_cases Hd:k<zs.length
  ·obtain⟨b,off,rfl,hb,Ho⟩:=hcell o_
   have hx:=(Hb.cell (p:=⟨b,off+k,none⟩) hb).trans (Ho k Hd);have Hr:(k:Int)<(zs.length:Int):=o_
   have ik1:(0:Int)<=(k:Int):=o_
   have xp:=ho.cell (q:=k) o_;obtain⟨z,hz⟩:∃z,wr.cell? ⟨w.heap.size,k,none⟩=some z:=⟨_,xp⟩;have fp:=ho.frz k
   have HO:Hid (OwnI w.heap.size (wr.setCell ⟨w.heap.size,k,none⟩ (.int .i64 (zs.getD k 0))) (.slice (some ⟨w.heap.size,0,none⟩) zs.length zs.length) (xA zs (k+1))):=h_ (by
    rw[<-z58 zs k Hd];exact ho.set_ k _)
   have HB:=h_ (Hb.setCell (p:=⟨w.heap.size,k,none⟩) (aaa _) (.int .i64 (zs.getD k 0)));generalize zs.getD k 0=y at*;clear ho Hb Ho hcell xp;go_wp2;go_roundw
   case rel=>exact⟨k+1,by omega,by go_num,HO.out,HB.out⟩
   case measure=>simp[intOf];omega
  ·have Hw:k=zs.length:=o_
   subst Hw;rw[z7G] at ho;clear hcell;go_wp2;go_ret
   exact⟨_,rfl,ho,Hb⟩
def Xp (p:Pr):Int:=42*p.1+2*p.2
theorem jB {ns ls:List Pr} (h:zL ns ls) {j:Nat} (hj:j<ls.length):zp ns (ndI ls j)=true:=(h.2.2.2.2.2 j hj).1
def ptN (ns:List Pr) (v:Nat):Pr:=ndI ns v
def lN (ns ls:List Pr) (j:Nat):Nat:=if Xp (ndI ns (zc ls (2*j)))<Xp (ndI ns (dTo ls (2*j))) then(zc ls (2*j)).toNat else(dTo ls (2*j)).toNat
def rN (ns ls:List Pr) (j:Nat):Nat:=if Xp (ndI ns (zc ls (2*j)))<Xp (ndI ns (dTo ls (2*j))) then(dTo ls (2*j)).toNat else(zc ls (2*j)).toNat
section
variable {ns ls:List Pr} (h:zL ns ls)
include h
end
def Hts (ns ls:List Pr) (P:Int) (A B:Nat->Int):Prop:=
 0<P/\∀j,j<ls.length->A j*Xp (ptN ns (lN ns ls j))+B j=P*(ptN ns (lN ns ls j)).2/\A j*Xp (ptN ns (rN ns ls j))+B j=P*(ptN ns (rN ns ls j)).2
section
variable {ns ls:List Pr} {P:Int} {A B:Nat->Int} (h:zL ns ls) (hh:Hts ns ls P A B)
include h hh
end
theorem z42 {zs:List Int} {x:Int} {k:Nat} (hk:k<zs.length) (h:x∉zs.take k) (gr:zs.getD k 0≠x):x∉zs.take (k+1):=by
 rw[aax hk,aaJ,aba];rintro(h2|h2)
 ·exact h h2
 ·exact gr (by rw[h2];simp[List.getD,hk])
theorem zb8 {zs:List Int} {k:Nat} (hk:k<zs.length):zs.getD k 0∈zs:=by
 rw[List.getD,aac hk];exact abh hk
theorem z8K (v:Value) (zs:List Int) (x:Int) (w:World) (h:RI w v zs):
  Calls Tryz.prog 190 #[v,.int .i64 x] w fun e w'=>e= .returned (.bool (decide (x∈zs)))/\w=w':=by
 obtain⟨A,c,rfl,hc,hm,hcell⟩:=h.form;unfold maxLen at hm;clear h
 go_enter Tryz.func190,Tryz.ntmps190
 go_wp2
 go_loop [9] (fun i=>∃k:Nat,k<=zs.length/\i= .int .i64 k/\Hid (x∉zs.take k)) (fun i=>zs.length -(intOf i).toNat)
 case atStart=>exact⟨0,aab _,rfl,h_ (by simp)⟩
 case round=>
  obtain⟨k,hk,rfl,HT⟩:=hrel
  by_cases Hd:k<zs.length
  ·obtain⟨b,off,rfl,hb,Ho⟩:=hcell o_
   have fK:=Ho k Hd;have Hr:(k:Int)<(zs.length:Int):=o_
   have ik1:(0:Int)<=(k:Int):=o_
   have HM:=h_ (zb8 Hd);have HS:=h_ (fun gr=>z42 Hd HT.out gr);clear Ho hcell;generalize zs.getD k 0=y at*
   by_cases he:y=x
   ·have e1:(y==x)=true:=by simp[he]
    have HX:Hid (decide (x∈zs)=true):=h_ (by rw[<-he];simpa using HM.out);clear he;go_wp2;go_ret
    exact⟨z8 HX.out.symm,rfl⟩
   ·have e1:(y==x)=false:=by simp[he]
    have HX:=h_ (HS.out he);clear he;go_wp2;go_round
    case rel=>exact⟨k+1,by omega,by go_num,HX⟩
    case measure=>simp[intOf];omega
  ·have Hw:zs.length<=k:=o_
   have h:=HT.out;rw[aaL Hw] at h;have HX:Hid (decide (x∈zs)=false):=h_ (by simpa using h);clear h hcell;go_wp2;go_ret
   exact⟨z8 HX.out.symm,rfl⟩
end Go.Proofs.YtnjcpljhmhdhkaaGreat
